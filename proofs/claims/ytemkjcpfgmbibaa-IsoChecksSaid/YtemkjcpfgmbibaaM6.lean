/- Parts of a proof: D8 D9 BaseK BaseS0 BaseSp BaseX AbTrie AbHeap. Conditions: none. -/
import Derived.Test.YtemkjcpfgmbibaaM5
import Derived.Test.YtemkjcpfgmbibaaChecked
import Derived.KernelRfl
import Derived.Test.YtemkjcpfgmbibaaM2
import Derived.Test.YtemkjcpfgmbibaaM4
import Derived.Test.YtemkjcpfgmbibaaM0
set_option linter.all false
namespace Go.Proofs.Ytemkjcpfgmbibaa
open Go Go.Ab Go.Proofs
set_option maxRecDepth 100000
set_option linter.unusedVariables false
set_option linter.unusedSimpArgs false

theorem inR24 {p : List Int} (hp : p ∈ p24) : InR p := validB_range (valid24 hp)
theorem callF_compose (p q : List Int) (hp : p ∈ p24) (hq : q ∈ p24) (h : FH) (c : Nat) : callF G 65 [av p, av q] h c = some (av (comp p q), h, c) :=
  callF_of (compose_sp p q (len24 hp) (len24 hq) (inR24 hq) h c [])
theorem callF_inv (p : List Int) (hp : p ∈ p24) (h : FH) (c : Nat) : callF G 66 [av p] h c = some (av (inv p), h, c) := callF_inverse p (len24 hp) (inR24 hp) h c

theorem rnG_back (so sp v3 v7 : Value) (n a : Nat) (Ord : List Int) (rb bb bm cm c : Nat) (h : FH) (hn : n ≤ 1000) (hcm : cm ≤ c) (hrb : 256 * cm ≤ rb) (hrb1 : rb < bb) (hbb1 : bb < bm) (hbm : bm < 256 * c)
    (ho : SlI h cm so 1 n Ord) (o1 : OkV c sp) (o2 : OkV c v3) (o3 : OkV c v7) (df : List Nat) :
    ∀ (k i : Nat) (l : List Int) (met : List Bool), i + k = n → l.length = n → met.length = n →
    Ans (G (f40_k40000 none) [so, sp, v3, ptrTo rb, v7, .int .i64 n, .slice (some ⟨bb, 0, none⟩) n n, .slice (some ⟨bm, 0, none⟩) n n, so, .int .i64 n, .int .i64 i] (newB (newB (newB h rb [.slice none 0 0]) bb (ints l)) bm (bools met)) c df)
      fun r => r.c = c ∧ r.df = df ∧ ∃ l' met', r.h = newB (newB (newB h rb [.slice none 0 0]) bb (ints l')) bm (bools met') ∧
        (if ordG Ord n k i met = true then r.e = .exit 0 ∧ l' = backL Ord k i l ∧ ∃ v7', r.vs = [so, sp, v3, ptrTo rb, v7', .int .i64 n, .slice (some ⟨bb, 0, none⟩) n n, .slice (some ⟨bm, 0, none⟩) n n, so, .int .i64 n, .int .i64 n]
         else r.e = .ret ∧ r.v 3 = ptrTo rb ∧ r.v 4 = .int .i64 1) := by
  intro k
  have o4 := (ho.mono hcm).okV
  induction k with
  | zero =>
    intro i l met hi hl hm
    obtain rfl : i = n := by omega
    refine Ans.loop (fun q r => f40_N40000) (fun q => f40_Z40000) ?_
    unfold f40_L40000
    repeat' (first
     | ((with_reducible first | refine Ans.bz ?_ | refine Ans.r1 ?_ | refine Ans.pkT ?_ | refine Ans.pkF ?_); try dsimp only [v_zero, v_succ])
     | (with_reducible first | refine Ans.btL ?_ | refine Ans.bfL ?_ | refine Ans.gyT ?_ | refine Ans.gyF ?_ | refine Ans.gyG ?_ | refine Ans.bb ?_ | refine Ans.bc ?_ | refine Ans.ba ?_)
     | ((with_reducible first | refine Ans.lsT ?_ ?_ | refine Ans.leT ?_ ?_ | refine Ans.grT ?_ ?_ | refine Ans.geT ?_ ?_ | refine Ans.eqT ?_ ?_ | refine Ans.neT ?_ ?_); (focus omega))
     | ((with_reducible first | refine Ans.lsF ?_ ?_ | refine Ans.leF ?_ ?_ | refine Ans.grF ?_ ?_ | refine Ans.geF ?_ ?_ | refine Ans.eqF ?_ ?_ | refine Ans.neF ?_ ?_); (focus omega))
     | (with_reducible first | refine Ans.lsS (fun _ => ?_) (fun _ => ?_) | refine Ans.leS (fun _ => ?_) (fun _ => ?_) | refine Ans.grS (fun _ => ?_) (fun _ => ?_) | refine Ans.geS (fun _ => ?_) (fun _ => ?_) | refine Ans.eqS (fun _ => ?_) (fun _ => ?_) | refine Ans.neS (fun _ => ?_) (fun _ => ?_))
     | ((with_reducible first | refine Ans.addN ?_ ?_ | refine Ans.add ?_ ?_ | refine Ans.sub ?_ ?_ | refine Ans.mul ?_ ?_); (focus omega))
     | ((with_reducible first | refine Ans.ct ?_ ?_); (focus (simp (disch := (first | omega | with_reducible assumption | (simp <;> omega) | fail)) []; done)))
     | ((with_reducible first | refine Ans.cf ?_ ?_); (focus (simp (disch := (first | omega | with_reducible assumption | (simp <;> omega) | fail)) []; done)))
     | (refine Ans.step (by simp (disch := (first | omega | with_reducible assumption | (simp <;> omega) | fail)) [-List.getD_eq_getElem?_getD] <;> rfl) ?_; try dsimp only [v_zero, v_succ])
     | fail)
    (refine Ans.exit0 ?_ ?_ ?_; (focus (simp (disch := (first | omega | with_reducible assumption | (simp <;> omega) | fail)) [o1, o2, o3, o4, hbm]; done)); (focus (simp (disch := (first | omega | with_reducible assumption | (simp <;> omega) | fail)) [o1, o2, o3, o4, hbm]; done)))
    exact ⟨rfl, rfl, l, met, rfl, by simp [ordG, backL]⟩
  | succ k ih =>
    intro i l met hi hl hm
    have b1 := ho.blk (by omega)
    have l1 := ho.rdi i (by omega) (by omega)
    simp only [Int.toNat_natCast] at l1
    rw [gi_nat] at l1
    rw [backL]
    unfold ordG
    obtain ⟨X, hX⟩ : ∃ X, Ord.getD i 0 = X := ⟨_, rfl⟩
    rw [hX] at l1 ⊢
    have hz : bldV [(.slice none 0 0)] [] = some (.agg #[.slice none 0 0]) := rfl
    have hs0 : stN (newB (newB (newB h rb [.slice none 0 0]) bb (ints l)) bm (bools met)) 1 (.pointer (some ⟨rb, 0, none⟩)) (.agg #[.slice none 0 0]) = some (newB (newB (newB h rb [.slice none 0 0]) bb (ints l)) bm (bools met)) := by
      rw [stN_newB_ne _ _ _ _ _ _ _ (by omega), stN_newB_ne _ _ _ _ _ _ _ (by omega), st1_agg _ _ _ _ _ (by simp) rfl]; rfl
    have fin : Ans (f40_L40000 G none so sp v3 (ptrTo rb) v7 (.int .i64 n) (.slice (some ⟨bb, 0, none⟩) n n) (.slice (some ⟨bm, 0, none⟩) n n) so (.int .i64 n) (.int .i64 i) (newB (newB (newB h rb [.slice none 0 0]) bb (ints l)) bm (bools met)) c df)
        (fun q => ∃ c', q = ⟨.ret, [so, sp, v3, ptrTo rb, .int .i64 1, .int .i64 n, .slice (some ⟨bb, 0, none⟩) n n, .slice (some ⟨bm, 0, none⟩) n n, so, .int .i64 n, .int .i64 i], newB (newB (newB h rb [.slice none 0 0]) bb (ints l)) bm (bools met), c', df⟩) →
        Ans (G (f40_k40000 none) [so, sp, v3, ptrTo rb, v7, .int .i64 n, .slice (some ⟨bb, 0, none⟩) n n, .slice (some ⟨bm, 0, none⟩) n n, so, .int .i64 n, .int .i64 i] (newB (newB (newB h rb [.slice none 0 0]) bb (ints l)) bm (bools met)) c df)
          fun r => r.c = c ∧ r.df = df ∧ ∃ l' met', r.h = newB (newB (newB h rb [.slice none 0 0]) bb (ints l')) bm (bools met') ∧ (r.e = .ret ∧ r.v 3 = ptrTo rb ∧ r.v 4 = .int .i64 1) := by
      rintro ⟨q, e, c', rfl⟩
      refine Ans.loop (fun q r => f40_N40000) (fun q => f40_Z40000) ?_
      rw [e]
      (refine Ans.ret0 ?_ ?_ ?_; (focus (simp (disch := (first | omega | with_reducible assumption | (simp <;> omega) | fail)) [o1, o2, o4, hbm]; done)); (focus (simp (disch := (first | omega | with_reducible assumption | (simp <;> omega) | fail)) [o1, o2, o4, hbm]; done)))
      exact ⟨rfl, rfl, l, met, rfl, rfl, rfl, rfl⟩
    by_cases q1 : X < 0
    · rw [if_pos (Or.inl q1)]
      refine (fin ?_).mono (fun r h => by simpa using h)
      unfold f40_L40000
      repeat' (first
       | ((with_reducible first | refine Ans.bz ?_ | refine Ans.r1 ?_ | refine Ans.pkT ?_ | refine Ans.pkF ?_); try dsimp only [v_zero, v_succ])
       | (with_reducible first | refine Ans.btL ?_ | refine Ans.bfL ?_ | refine Ans.gyT ?_ | refine Ans.gyF ?_ | refine Ans.gyG ?_ | refine Ans.bb ?_ | refine Ans.bc ?_ | refine Ans.ba ?_)
       | ((with_reducible first | refine Ans.lsT ?_ ?_ | refine Ans.leT ?_ ?_ | refine Ans.grT ?_ ?_ | refine Ans.geT ?_ ?_ | refine Ans.eqT ?_ ?_ | refine Ans.neT ?_ ?_); (focus omega))
       | ((with_reducible first | refine Ans.lsF ?_ ?_ | refine Ans.leF ?_ ?_ | refine Ans.grF ?_ ?_ | refine Ans.geF ?_ ?_ | refine Ans.eqF ?_ ?_ | refine Ans.neF ?_ ?_); (focus omega))
       | (with_reducible first | refine Ans.lsS (fun _ => ?_) (fun _ => ?_) | refine Ans.leS (fun _ => ?_) (fun _ => ?_) | refine Ans.grS (fun _ => ?_) (fun _ => ?_) | refine Ans.geS (fun _ => ?_) (fun _ => ?_) | refine Ans.eqS (fun _ => ?_) (fun _ => ?_) | refine Ans.neS (fun _ => ?_) (fun _ => ?_))
       | ((with_reducible first | refine Ans.addN ?_ ?_ | refine Ans.add ?_ ?_ | refine Ans.sub ?_ ?_ | refine Ans.mul ?_ ?_); (focus omega))
       | ((with_reducible first | refine Ans.ct ?_ ?_); (focus (simp (disch := (first | omega | with_reducible assumption | (simp <;> omega) | fail)) [ho.ixs1, l1, hz, hs0]; done)))
       | ((with_reducible first | refine Ans.cf ?_ ?_); (focus (simp (disch := (first | omega | with_reducible assumption | (simp <;> omega) | fail)) [ho.ixs1, l1, hz, hs0]; done)))
       | (refine Ans.step (by simp (disch := (first | omega | with_reducible assumption | (simp <;> omega) | fail)) [ho.ixs1, l1, hz, hs0, -List.getD_eq_getElem?_getD] <;> rfl) ?_; try dsimp only [v_zero, v_succ])
       | fail)
      refine Ans.intro rfl ?_
      exact ⟨_, rfl⟩
    by_cases q2 : (n : Int) ≤ X
    · rw [if_pos (Or.inr q2)]
      refine (fin ?_).mono (fun r h => by simpa using h)
      unfold f40_L40000
      repeat' (first
       | ((with_reducible first | refine Ans.bz ?_ | refine Ans.r1 ?_ | refine Ans.pkT ?_ | refine Ans.pkF ?_); try dsimp only [v_zero, v_succ])
       | (with_reducible first | refine Ans.btL ?_ | refine Ans.bfL ?_ | refine Ans.gyT ?_ | refine Ans.gyF ?_ | refine Ans.gyG ?_ | refine Ans.bb ?_ | refine Ans.bc ?_ | refine Ans.ba ?_)
       | ((with_reducible first | refine Ans.lsT ?_ ?_ | refine Ans.leT ?_ ?_ | refine Ans.grT ?_ ?_ | refine Ans.geT ?_ ?_ | refine Ans.eqT ?_ ?_ | refine Ans.neT ?_ ?_); (focus omega))
       | ((with_reducible first | refine Ans.lsF ?_ ?_ | refine Ans.leF ?_ ?_ | refine Ans.grF ?_ ?_ | refine Ans.geF ?_ ?_ | refine Ans.eqF ?_ ?_ | refine Ans.neF ?_ ?_); (focus omega))
       | (with_reducible first | refine Ans.lsS (fun _ => ?_) (fun _ => ?_) | refine Ans.leS (fun _ => ?_) (fun _ => ?_) | refine Ans.grS (fun _ => ?_) (fun _ => ?_) | refine Ans.geS (fun _ => ?_) (fun _ => ?_) | refine Ans.eqS (fun _ => ?_) (fun _ => ?_) | refine Ans.neS (fun _ => ?_) (fun _ => ?_))
       | ((with_reducible first | refine Ans.addN ?_ ?_ | refine Ans.add ?_ ?_ | refine Ans.sub ?_ ?_ | refine Ans.mul ?_ ?_); (focus omega))
       | ((with_reducible first | refine Ans.ct ?_ ?_); (focus (simp (disch := (first | omega | with_reducible assumption | (simp <;> omega) | fail)) [ho.ixs1, l1, hz, hs0]; done)))
       | ((with_reducible first | refine Ans.cf ?_ ?_); (focus (simp (disch := (first | omega | with_reducible assumption | (simp <;> omega) | fail)) [ho.ixs1, l1, hz, hs0]; done)))
       | (refine Ans.step (by simp (disch := (first | omega | with_reducible assumption | (simp <;> omega) | fail)) [ho.ixs1, l1, hz, hs0, -List.getD_eq_getElem?_getD] <;> rfl) ?_; try dsimp only [v_zero, v_succ])
       | fail)
      refine Ans.intro rfl ?_
      exact ⟨_, rfl⟩
    rw [if_neg (by omega)]
    have hlm : ld1 (newB (newB (newB h rb [.slice none 0 0]) bb (ints l)) bm (bools met)) (.pointer (some ⟨bm, X.toNat, none⟩)) = some (.bool (met.getD X.toNat false)) := by
      rw [ld1_newB_same, bools_get _ _ (by omega)]
    cases q3 : met.getD X.toNat false with
    | true =>
      rw [q3] at hlm
      simp only [if_true]
      refine (fin ?_).mono (fun r h => by simpa using h)
      unfold f40_L40000
      repeat' (first
       | ((with_reducible first | refine Ans.bz ?_ | refine Ans.r1 ?_ | refine Ans.pkT ?_ | refine Ans.pkF ?_); try dsimp only [v_zero, v_succ])
       | (with_reducible first | refine Ans.btL ?_ | refine Ans.bfL ?_ | refine Ans.gyT ?_ | refine Ans.gyF ?_ | refine Ans.gyG ?_ | refine Ans.bb ?_ | refine Ans.bc ?_ | refine Ans.ba ?_)
       | ((with_reducible first | refine Ans.lsT ?_ ?_ | refine Ans.leT ?_ ?_ | refine Ans.grT ?_ ?_ | refine Ans.geT ?_ ?_ | refine Ans.eqT ?_ ?_ | refine Ans.neT ?_ ?_); (focus omega))
       | ((with_reducible first | refine Ans.lsF ?_ ?_ | refine Ans.leF ?_ ?_ | refine Ans.grF ?_ ?_ | refine Ans.geF ?_ ?_ | refine Ans.eqF ?_ ?_ | refine Ans.neF ?_ ?_); (focus omega))
       | (with_reducible first | refine Ans.lsS (fun _ => ?_) (fun _ => ?_) | refine Ans.leS (fun _ => ?_) (fun _ => ?_) | refine Ans.grS (fun _ => ?_) (fun _ => ?_) | refine Ans.geS (fun _ => ?_) (fun _ => ?_) | refine Ans.eqS (fun _ => ?_) (fun _ => ?_) | refine Ans.neS (fun _ => ?_) (fun _ => ?_))
       | ((with_reducible first | refine Ans.addN ?_ ?_ | refine Ans.add ?_ ?_ | refine Ans.sub ?_ ?_ | refine Ans.mul ?_ ?_); (focus omega))
       | ((with_reducible first | refine Ans.ct ?_ ?_); (focus (simp (disch := (first | omega | with_reducible assumption | (simp <;> omega) | fail)) [ho.ixs1, l1, hz, hlm, hs0]; done)))
       | ((with_reducible first | refine Ans.cf ?_ ?_); (focus (simp (disch := (first | omega | with_reducible assumption | (simp <;> omega) | fail)) [ho.ixs1, l1, hz, hlm, hs0]; done)))
       | (refine Ans.step (by simp (disch := (first | omega | with_reducible assumption | (simp <;> omega) | fail)) [ho.ixs1, l1, hz, hlm, hs0, -List.getD_eq_getElem?_getD] <;> rfl) ?_; try dsimp only [v_zero, v_succ])
       | fail)
      refine Ans.intro rfl ?_
      exact ⟨_, rfl⟩
    | false =>
      rw [q3] at hlm
      simp only [Bool.false_eq_true, if_false]
      have hs1 : stN (newB (newB (newB h rb [.slice none 0 0]) bb (ints l)) bm (bools met)) 1 (.pointer (some ⟨bm, X.toNat, none⟩)) (.bool true) = some (newB (newB (newB h rb [.slice none 0 0]) bb (ints l)) bm (bools (met.set X.toNat true))) := by
        rw [st1_bool _ _ _ _ _ (by rw [bools_length]; omega), bools_set]
      have hs2 : stN (newB (newB h rb [.slice none 0 0]) bb (ints l)) 1 (.pointer (some ⟨bb, X.toNat, none⟩)) (.int .i64 i) = some (newB (newB h rb [.slice none 0 0]) bb (ints (l.set X.toNat i))) := by
        rw [st1_int _ _ _ _ _ _ (by simp; omega), ints_set]
      refine Ans.loop (fun q r => f40_N40000) (fun q => f40_Z40000) ?_
      unfold f40_L40000
      repeat' (first
       | ((with_reducible first | refine Ans.bz ?_ | refine Ans.r1 ?_ | refine Ans.pkT ?_ | refine Ans.pkF ?_); try dsimp only [v_zero, v_succ])
       | (with_reducible first | refine Ans.btL ?_ | refine Ans.bfL ?_ | refine Ans.gyT ?_ | refine Ans.gyF ?_ | refine Ans.gyG ?_ | refine Ans.bb ?_ | refine Ans.bc ?_ | refine Ans.ba ?_)
       | ((with_reducible first | refine Ans.lsT ?_ ?_ | refine Ans.leT ?_ ?_ | refine Ans.grT ?_ ?_ | refine Ans.geT ?_ ?_ | refine Ans.eqT ?_ ?_ | refine Ans.neT ?_ ?_); (focus omega))
       | ((with_reducible first | refine Ans.lsF ?_ ?_ | refine Ans.leF ?_ ?_ | refine Ans.grF ?_ ?_ | refine Ans.geF ?_ ?_ | refine Ans.eqF ?_ ?_ | refine Ans.neF ?_ ?_); (focus omega))
       | (with_reducible first | refine Ans.lsS (fun _ => ?_) (fun _ => ?_) | refine Ans.leS (fun _ => ?_) (fun _ => ?_) | refine Ans.grS (fun _ => ?_) (fun _ => ?_) | refine Ans.geS (fun _ => ?_) (fun _ => ?_) | refine Ans.eqS (fun _ => ?_) (fun _ => ?_) | refine Ans.neS (fun _ => ?_) (fun _ => ?_))
       | ((with_reducible first | refine Ans.addN ?_ ?_ | refine Ans.add ?_ ?_ | refine Ans.sub ?_ ?_ | refine Ans.mul ?_ ?_); (focus omega))
       | ((with_reducible first | refine Ans.ct ?_ ?_); (focus (simp (disch := (first | omega | with_reducible assumption | (simp <;> omega) | fail)) [ho.ixs1, l1, hz, hlm, hs1, hs2]; done)))
       | ((with_reducible first | refine Ans.cf ?_ ?_); (focus (simp (disch := (first | omega | with_reducible assumption | (simp <;> omega) | fail)) [ho.ixs1, l1, hz, hlm, hs1, hs2]; done)))
       | (refine Ans.step (by simp (disch := (first | omega | with_reducible assumption | (simp <;> omega) | fail)) [ho.ixs1, l1, hz, hlm, hs1, hs2, -List.getD_eq_getElem?_getD] <;> rfl) ?_; try dsimp only [v_zero, v_succ])
       | fail)
      (refine Ans.nextB2 (B := newB (newB (newB h rb [.slice none 0 0]) bb (ints (l.set X.toNat i))) bm (bools (met.set X.toNat true))) ?_ ?_ ?_ ?_; (focus (simp (disch := (first | omega | with_reducible assumption | (simp <;> omega) | fail)) [o1, o2, o3, o4, hbm]; done)); (focus (simp (disch := (first | omega | with_reducible assumption | (simp <;> omega) | fail)) [o1, o2, o3, o4, hbm]; done)); exact Upto.both (OkVs.bools _ _) (Upto.both (OkVs.ints _ _) (Upto.refl _ _) (by omega)) hbm)
      exact ih (i + 1) _ _ (by omega) (by simpa using hl) (by simpa using hm)

set_option maxHeartbeats 1000000 in
theorem rnG_in (s so sp sb v6 v14 : Value) (n : Nat) (Gl Ord Pm : List Int) (gb br cm c : Nat) (h : FH) (i : Nat) (hi : i < n) (hn : n ≤ 1000) (hcm : cm ≤ c) (hgb : gb < 256 * cm) (hbr : br < 256 * c) (hbr1 : 256 * cm ≤ br)
    (hh : Holds h gb [s]) (hg : SlI h cm s 20 n Gl) (ho : SlI h cm so 1 n Ord) (hp : SlI h cm sp 4 n Pm) (hb : SlI h cm sb 1 n (back Ord n)) (hok : RnOk Gl Ord Pm n) (hv6 : OkV c v6) (hv14 : OkV c v14) (df : List Nat) :
    ∀ (k f : Nat), f + k = 4 →
    Ans (G (f40_k40002 none) [sp, ptrTo gb, v6, sb, v14, .int .i64 i, .int .i64 (Ord.getD i 0), ptrTo br, so, .int .i64 n, .int .i64 i, .int .i64 f] (newB h br (ints (rowP (rnF Gl Ord Pm (back Ord n) i) f))) c df)
      fun r => r = { e := .exit 4, vs := [sp, ptrTo gb, v6, sb, v14, .int .i64 i, .int .i64 (Ord.getD i 0), ptrTo br, so, .int .i64 n, .int .i64 i, .int .i64 4], h := newB h br (ints (rowTo (rnF Gl Ord Pm (back Ord n) i) 4)), c := c, df := df } := by
  intro k
  have o1 := (hg.mono hcm).okV
  have o2 := (ho.mono hcm).okV
  have o3 := (hp.mono hcm).okV
  have o4 := (hb.mono hcm).okV
  have b1 := hg.blk (by omega)
  have b2 := ho.blk (by omega)
  have b3 := hp.blk (by omega)
  have b4 := hb.blk (by omega)
  induction k with
  | zero =>
    intro f hf
    obtain rfl : f = 4 := by omega
    refine Ans.loop (fun q r => f40_N40002) (fun q => f40_Z40002) ?_
    unfold f40_L40002
    repeat' (first
     | ((with_reducible first | refine Ans.bz ?_ | refine Ans.r1 ?_ | refine Ans.pkT ?_ | refine Ans.pkF ?_); try dsimp only [v_zero, v_succ])
     | (with_reducible first | refine Ans.btL ?_ | refine Ans.bfL ?_ | refine Ans.gyT ?_ | refine Ans.gyF ?_ | refine Ans.gyG ?_ | refine Ans.bb ?_ | refine Ans.bc ?_ | refine Ans.ba ?_)
     | ((with_reducible first | refine Ans.lsT ?_ ?_ | refine Ans.leT ?_ ?_ | refine Ans.grT ?_ ?_ | refine Ans.geT ?_ ?_ | refine Ans.eqT ?_ ?_ | refine Ans.neT ?_ ?_); (focus omega))
     | ((with_reducible first | refine Ans.lsF ?_ ?_ | refine Ans.leF ?_ ?_ | refine Ans.grF ?_ ?_ | refine Ans.geF ?_ ?_ | refine Ans.eqF ?_ ?_ | refine Ans.neF ?_ ?_); (focus omega))
     | (with_reducible first | refine Ans.lsS (fun _ => ?_) (fun _ => ?_) | refine Ans.leS (fun _ => ?_) (fun _ => ?_) | refine Ans.grS (fun _ => ?_) (fun _ => ?_) | refine Ans.geS (fun _ => ?_) (fun _ => ?_) | refine Ans.eqS (fun _ => ?_) (fun _ => ?_) | refine Ans.neS (fun _ => ?_) (fun _ => ?_))
     | ((with_reducible first | refine Ans.addN ?_ ?_ | refine Ans.add ?_ ?_ | refine Ans.sub ?_ ?_ | refine Ans.mul ?_ ?_); (focus omega))
     | ((with_reducible first | refine Ans.ct ?_ ?_); (focus (simp (disch := (first | omega | with_reducible assumption | (simp <;> omega) | fail)) []; done)))
     | ((with_reducible first | refine Ans.cf ?_ ?_); (focus (simp (disch := (first | omega | with_reducible assumption | (simp <;> omega) | fail)) []; done)))
     | (refine Ans.step (by simp (disch := (first | omega | with_reducible assumption | (simp <;> omega) | fail)) [-List.getD_eq_getElem?_getD] <;> rfl) ?_; try dsimp only [v_zero, v_succ])
     | fail)
    (refine Ans.exit0 ?_ ?_ ?_; (focus (simp (disch := (first | omega | with_reducible assumption | (simp <;> omega) | fail)) [o2, o3, o4, hv6, hv14, hgb, hbr]; done)); (focus (simp (disch := (first | omega | with_reducible assumption | (simp <;> omega) | fail)) [o2, o3, o4, hv6, hv14, hgb, hbr]; done)))
    rw [rowP_four]
    rfl
  | succ k ih =>
    intro f hf
    have hF : ∀ f, f < 4 → (rnF Gl Ord Pm (back Ord n) i f).length = 5 := fun f hf => rnF_length hok hi hf
    have ft : (f : Int) < 4 := by omega
    have ih' := ih (f + 1) (by omega)
    clear ih
    obtain ⟨x1, x2, x3⟩ := hok.rng i hi
    have hpi := hok.p24 hi
    have hpr := range24 hpi (i := f) (by omega)
    have e2 : ld1 h (.pointer (some ⟨gb, 0, none⟩)) = some s := by rw [ld1_holds' hh]; rfl
    have l2 := hp.perm i (by omega) (by omega)
    have l3 := hp.rd (i * 4 + f) (by omega)
    rw [← Nat.add_assoc] at l3
    simp only [Int.toNat_natCast] at l2
    have l3' : Pm.getD (i * 4 + f) 0 = (permAt Pm i).getD f 0 := by rw [permAt, getD_take _ _ _ (by omega), getD_drop, Nat.mul_comm]
    rw [l3'] at l3
    have fdef : rnF Gl Ord Pm (back Ord n) i f = rnF Gl Ord Pm (back Ord n) i f := rfl
    conv at fdef => rhs; unfold rnF
    have hRl := rowP_length hF (f := f) (by omega)
    have hst : ∀ X, X.length = 5 → stN (newB h br (ints (rowP (rnF Gl Ord Pm (back Ord n) i) f))) 5 (.pointer (some ⟨br, f * 5, none⟩)) (av X) = some (newB h br (ints (rowTo (rnF Gl Ord Pm (back Ord n) i) f ++ X ++ List.replicate (20 - 5 * (f + 1)) 0))) := fun X hX => by
      rw [stN_newB_same _ _ _ _ _ _ (by simp [hX]) (by simp [hRl]; omega) (by simp)]
      rw [av_cells, splice_ints, Nat.mul_comm, rowP_put hF (by omega) X hX]
    have hst' : ∀ Y X, Y.length = 5 → X.length = 5 → stN (newB h br (ints (rowTo (rnF Gl Ord Pm (back Ord n) i) f ++ Y ++ List.replicate (20 - 5 * (f + 1)) 0))) 5 (.pointer (some ⟨br, f * 5, none⟩)) (av X) = some (newB h br (ints (rowTo (rnF Gl Ord Pm (back Ord n) i) f ++ X ++ List.replicate (20 - 5 * (f + 1)) 0))) := fun Y X hY hX => by
      have hl := rowTo_length hF f (by omega)
      rw [stN_newB_same _ _ _ _ _ _ (by simp [hX]) (by simp [hl, hY]; omega) (by simp)]
      rw [av_cells, splice_ints, Nat.mul_comm, rowQ_put hF (by omega) Y X hY hX]
    have hld : ∀ Y, Y.length = 5 → ldN (newB h br (ints (rowTo (rnF Gl Ord Pm (back Ord n) i) f ++ Y ++ List.replicate (20 - 5 * (f + 1)) 0))) 5 (.pointer (some ⟨br, f * 5, none⟩)) = some (av Y) := fun Y hY => by
      have hl := rowTo_length hF f (by omega)
      rw [ldN_newB_same _ _ _ _ _ (by simp [hl, hY]; omega), ints_drop, ints_take, List.append_assoc, List.drop_append, List.drop_eq_nil_of_le (by omega), List.nil_append, hl, show f * 5 - 5 * f = 0 by omega, List.drop_zero, List.take_append_of_le_length (by omega), List.take_of_length_le (by omega)]
      rfl
    have hR1 : rowP (rnF Gl Ord Pm (back Ord n) i) (f + 1) = rowTo (rnF Gl Ord Pm (back Ord n) i) f ++ rnF Gl Ord Pm (back Ord n) i f ++ List.replicate (20 - 5 * (f + 1)) 0 := by rw [rowP, rowTo]
    obtain ⟨R1, hR1'⟩ : ∃ R1, rowP (rnF Gl Ord Pm (back Ord n) i) (f + 1) = R1 := ⟨_, rfl⟩
    rw [hR1'] at ih' hR1
    obtain ⟨X, hX⟩ : ∃ X, Ord.getD i 0 = X := ⟨_, rfl⟩
    obtain ⟨Y, hY⟩ : ∃ Y, (permAt Pm i).getD f 0 = Y := ⟨_, rfl⟩
    rw [hX, hY] at fdef
    rw [hX] at x1 x2 ih' ⊢
    rw [hY] at l3 hpr
    have l4 := hg.face X Y x1 x2 hpr.1 hpr.2
    have okf := okAll_face hok.ok (t := X.toNat) (f := Y.toNat) (by omega) (by omega)
    have hfl := faceL_length hok.gl (t := X.toNat) (f := Y.toNat) (by omega) (by omega)
    have okg := okFace_glued okf
    have okz := okFace_free okf
    obtain ⟨F, hFF⟩ : ∃ F, faceL Gl X.toNat Y.toNat = F := ⟨_, rfl⟩
    rw [hFF] at l4 hfl fdef okg okz
    clear okf
    have hT : F.getD 0 0 = tetL F := rfl
    obtain ⟨T, hTT⟩ : ∃ T, tetL F = T := ⟨_, rfl⟩
    rw [hTT] at hT okg fdef okz
    have b5 : ∀ H tm, ld1 (newB H tm (ints F)) (.pointer (some ⟨tm, 0, none⟩)) = some (.int .i64 T) := fun H tm => by
      rw [ld1_newB_same, ints_getD _ _ (by omega), hT]
    have b6 : ∀ H tm, ldN (newB H tm (ints F)) 4 (.pointer (some ⟨tm, 1, none⟩)) = some (av (permL F)) := fun H tm => by
      rw [ldN_newB_same _ _ _ _ _ (by simp [hfl]), ints_drop, ints_take]; rfl
    have hs1 := hst F hfl
    have hl1 := hld F hfl
    refine Ans.loop (fun q r => f40_N40002) (fun q => f40_Z40002) ?_
    unfold f40_L40002
    by_cases h0 : T < 0
    · have hFn := okz h0
      clear okg okz
      rw [if_pos h0, ← hFn] at fdef
      rw [fdef] at hR1
      rw [← hR1] at hs1 hl1
      repeat' (first
       | ((with_reducible first | refine Ans.bz ?_ | refine Ans.r1 ?_ | refine Ans.pkT ?_ | refine Ans.pkF ?_); try dsimp only [v_zero, v_succ])
       | (with_reducible first | refine Ans.btL ?_ | refine Ans.bfL ?_ | refine Ans.gyT ?_ | refine Ans.gyF ?_ | refine Ans.gyG ?_ | refine Ans.bb ?_ | refine Ans.bc ?_ | refine Ans.ba ?_)
       | ((with_reducible first | refine Ans.lsT ?_ ?_ | refine Ans.leT ?_ ?_ | refine Ans.grT ?_ ?_ | refine Ans.geT ?_ ?_ | refine Ans.eqT ?_ ?_ | refine Ans.neT ?_ ?_); (focus omega))
       | ((with_reducible first | refine Ans.lsF ?_ ?_ | refine Ans.leF ?_ ?_ | refine Ans.grF ?_ ?_ | refine Ans.geF ?_ ?_ | refine Ans.eqF ?_ ?_ | refine Ans.neF ?_ ?_); (focus omega))
       | (with_reducible first | refine Ans.lsS (fun _ => ?_) (fun _ => ?_) | refine Ans.leS (fun _ => ?_) (fun _ => ?_) | refine Ans.grS (fun _ => ?_) (fun _ => ?_) | refine Ans.geS (fun _ => ?_) (fun _ => ?_) | refine Ans.eqS (fun _ => ?_) (fun _ => ?_) | refine Ans.neS (fun _ => ?_) (fun _ => ?_))
       | ((with_reducible first | refine Ans.addN ?_ ?_ | refine Ans.add ?_ ?_ | refine Ans.sub ?_ ?_ | refine Ans.mul ?_ ?_); (focus omega))
       | ((with_reducible first | refine Ans.ct ?_ ?_); (focus (simp (disch := (first | omega | with_reducible assumption | (simp <;> omega) | fail)) [e2, hp.ixs, hg.ixs, l2, l3, l4, b5, hs1, hl1, hfl, -ldN_newB_same]; done)))
       | ((with_reducible first | refine Ans.cf ?_ ?_); (focus (simp (disch := (first | omega | with_reducible assumption | (simp <;> omega) | fail)) [e2, hp.ixs, hg.ixs, l2, l3, l4, b5, hs1, hl1, hfl, -ldN_newB_same]; done)))
       | (refine Ans.step (by simp (disch := (first | omega | with_reducible assumption | (simp <;> omega) | fail)) [e2, hp.ixs, hg.ixs, l2, l3, l4, b5, hs1, hl1, hfl, -ldN_newB_same, -List.getD_eq_getElem?_getD] <;> rfl) ?_; try dsimp only [v_zero, v_succ])
       | fail)
      (refine Ans.nextB2 (B := newB h br (ints R1)) ?_ ?_ ?_ ?_; (focus (simp (disch := (first | omega | with_reducible assumption | (simp <;> omega) | fail)) [o2, o3, o4, hv6, hv14, hgb, hbr]; done)); (focus (simp (disch := (first | omega | with_reducible assumption | (simp <;> omega) | fail)) [o2, o3, o4, hv6, hv14, hgb, hbr]; done)); exact Upto.both (OkVs.ints _ _) (Upto.refl _ _) hbr)
      exact ih'
    · rw [if_neg h0] at fdef
      obtain ⟨tn, g1, -, -⟩ := okg h0
      clear okg okz
      have pf := mem24 (permL_length hfl) g1
      have kr : 0 ≤ gi (back Ord n) T ∧ gi (back Ord n) T < n := back_range Ord (n := n) (by omega) T.toNat (by omega)
      have l5 := hb.rdi T (by omega) tn
      have e7 : (back Ord n).getD T.toNat 0 = gi (back Ord n) T := rfl
      rw [e7] at fdef
      obtain ⟨K, hK⟩ : ∃ K, gi (back Ord n) T = K := ⟨_, rfl⟩
      rw [hK] at kr l5 fdef
      have l6 := hp.perm K kr.1 kr.2
      have pk := hok.p24 (j := K.toNat) (by omega)
      have c1 := fun H c => callF_inv _ pk H c
      have c2 := fun H c => callF_compose _ _ pf hpi H c
      have c3 := fun H c => callF_compose _ _ (inv24 pk) (comp24 pf hpi) H c
      have cl : (comp (inv (permAt Pm K.toNat)) (comp (permL F) (permAt Pm i))).length = 4 := by rw [comp_length, comp_length, len24 hpi]
      have c4 := bld5 K _ cl
      have hs2 := hst' F (K :: comp (inv (permAt Pm K.toNat)) (comp (permL F) (permAt Pm i))) hfl (by simp [cl])
      rw [fdef] at hR1
      rw [← hR1] at hs2
      obtain ⟨R0, hR0⟩ : ∃ R0, rowTo (rnF Gl Ord Pm (back Ord n) i) f ++ F ++ List.replicate (20 - 5 * (f + 1)) 0 = R0 := ⟨_, rfl⟩
      rw [hR0] at hs1 hl1 hs2
      repeat' (first
       | ((with_reducible first | refine Ans.bz ?_ | refine Ans.r1 ?_ | refine Ans.pkT ?_ | refine Ans.pkF ?_); try dsimp only [v_zero, v_succ])
       | (with_reducible first | refine Ans.btL ?_ | refine Ans.bfL ?_ | refine Ans.gyT ?_ | refine Ans.gyF ?_ | refine Ans.gyG ?_ | refine Ans.bb ?_ | refine Ans.bc ?_ | refine Ans.ba ?_)
       | ((with_reducible first | refine Ans.lsT ?_ ?_ | refine Ans.leT ?_ ?_ | refine Ans.grT ?_ ?_ | refine Ans.geT ?_ ?_ | refine Ans.eqT ?_ ?_ | refine Ans.neT ?_ ?_); (focus omega))
       | ((with_reducible first | refine Ans.lsF ?_ ?_ | refine Ans.leF ?_ ?_ | refine Ans.grF ?_ ?_ | refine Ans.geF ?_ ?_ | refine Ans.eqF ?_ ?_ | refine Ans.neF ?_ ?_); (focus omega))
       | (with_reducible first | refine Ans.lsS (fun _ => ?_) (fun _ => ?_) | refine Ans.leS (fun _ => ?_) (fun _ => ?_) | refine Ans.grS (fun _ => ?_) (fun _ => ?_) | refine Ans.geS (fun _ => ?_) (fun _ => ?_) | refine Ans.eqS (fun _ => ?_) (fun _ => ?_) | refine Ans.neS (fun _ => ?_) (fun _ => ?_))
       | ((with_reducible first | refine Ans.addN ?_ ?_ | refine Ans.add ?_ ?_ | refine Ans.sub ?_ ?_ | refine Ans.mul ?_ ?_); (focus omega))
       | ((with_reducible first | refine Ans.ct ?_ ?_); (focus (simp (disch := (first | omega | with_reducible assumption | (simp <;> omega) | fail)) [e2, hp.ixs, hg.ixs, hb.ixs1, l2, l3, l4, l5, l6, b5, b6, hs1, hl1, hfl, c1, c2, c3, c4, hs2, -ldN_newB_same]; done)))
       | ((with_reducible first | refine Ans.cf ?_ ?_); (focus (simp (disch := (first | omega | with_reducible assumption | (simp <;> omega) | fail)) [e2, hp.ixs, hg.ixs, hb.ixs1, l2, l3, l4, l5, l6, b5, b6, hs1, hl1, hfl, c1, c2, c3, c4, hs2, -ldN_newB_same]; done)))
       | (refine Ans.step (by simp (disch := (first | omega | with_reducible assumption | (simp <;> omega) | fail)) [e2, hp.ixs, hg.ixs, hb.ixs1, l2, l3, l4, l5, l6, b5, b6, hs1, hl1, hfl, c1, c2, c3, c4, hs2, -ldN_newB_same, -List.getD_eq_getElem?_getD] <;> rfl) ?_; try dsimp only [v_zero, v_succ])
       | fail)
      (refine Ans.nextB2 (B := newB h br (ints R1)) ?_ ?_ ?_ ?_; (focus (simp (disch := (first | omega | with_reducible assumption | (simp <;> omega) | fail)) [o2, o3, o4, hv6, hv14, hgb, hbr]; done)); (focus (simp (disch := (first | omega | with_reducible assumption | (simp <;> omega) | fail)) [o2, o3, o4, hv6, hv14, hgb, hbr]; done)); exact Upto.both (OkVs.ints _ _) (Upto.refl _ _) hbr)
      exact ih'
end Go.Proofs.Ytemkjcpfgmbibaa

namespace Go.Proofs.Ytemkjcpfgmbibaa
open Go Go.Ab Go.Proofs
set_option maxRecDepth 100000
set_option linter.unusedVariables false
set_option linter.unusedSimpArgs false

theorem rnG_mid (s so sp sb v6 : Value) (n : Nat) (Gl Ord Pm : List Int) (gb bo cm c1 : Nat) (h : FH) (hn : n ≤ 1000) (hgb : gb < 256 * cm) (hbo : 256 * cm ≤ bo) (hbo1 : bo < 256 * c1) (hcm : cm ≤ c1)
    (hh : Holds h gb [s]) (hg : SlI h cm s 20 n Gl) (ho : SlI h cm so 1 n Ord) (hp : SlI h cm sp 4 n Pm) (hb : SlI h cm sb 1 n (back Ord n)) (hok : RnOk Gl Ord Pm n) (hv6 : OkV cm v6) (df : List Nat) :
    ∀ (k i c : Nat) (H : FH) (v : Value), i + k = n → c1 ≤ c → Same cm h H → H.f bo = some (.cells false none [v]) → AppS c1 H c v 20 i (rnL Gl Ord Pm (back Ord n) i) →
    Ans (G (f40_k40001 none) [sp, ptrTo gb, v6, sb, ptrTo bo, so, .int .i64 n, .int .i64 i] H c df)
      fun r => r.e = .exit 2 ∧ r.vs = [sp, ptrTo gb, v6, sb, ptrTo bo, so, .int .i64 n, .int .i64 n] ∧ r.df = df ∧ c ≤ r.c ∧ Same cm h r.h ∧
        ∃ v, r.h.f bo = some (.cells false none [v]) ∧ AppS c1 r.h r.c v 20 n (rnL Gl Ord Pm (back Ord n) n) := by
  intro k
  induction k with
  | zero =>
    intro i c H v hi hc hH hv ha
    obtain rfl : i = n := by omega
    refine Ans.loop' (fun q r => f40_N40001) (fun q => f40_Z40001) ?_
    unfold f40_L40001
    repeat' (first
     | ((with_reducible first | refine Ans.bz ?_ | refine Ans.r1 ?_ | refine Ans.pkT ?_ | refine Ans.pkF ?_); try dsimp only [v_zero, v_succ])
     | (with_reducible first | refine Ans.btL ?_ | refine Ans.bfL ?_ | refine Ans.gyT ?_ | refine Ans.gyF ?_ | refine Ans.gyG ?_ | refine Ans.bb ?_ | refine Ans.bc ?_ | refine Ans.ba ?_)
     | ((with_reducible first | refine Ans.lsT ?_ ?_ | refine Ans.leT ?_ ?_ | refine Ans.grT ?_ ?_ | refine Ans.geT ?_ ?_ | refine Ans.eqT ?_ ?_ | refine Ans.neT ?_ ?_); (focus omega))
     | ((with_reducible first | refine Ans.lsF ?_ ?_ | refine Ans.leF ?_ ?_ | refine Ans.grF ?_ ?_ | refine Ans.geF ?_ ?_ | refine Ans.eqF ?_ ?_ | refine Ans.neF ?_ ?_); (focus omega))
     | (with_reducible first | refine Ans.lsS (fun _ => ?_) (fun _ => ?_) | refine Ans.leS (fun _ => ?_) (fun _ => ?_) | refine Ans.grS (fun _ => ?_) (fun _ => ?_) | refine Ans.geS (fun _ => ?_) (fun _ => ?_) | refine Ans.eqS (fun _ => ?_) (fun _ => ?_) | refine Ans.neS (fun _ => ?_) (fun _ => ?_))
     | ((with_reducible first | refine Ans.addN ?_ ?_ | refine Ans.add ?_ ?_ | refine Ans.sub ?_ ?_ | refine Ans.mul ?_ ?_); (focus omega))
     | ((with_reducible first | refine Ans.ct ?_ ?_); (focus (simp (disch := (first | omega | with_reducible assumption | (simp <;> omega) | fail)) []; done)))
     | ((with_reducible first | refine Ans.cf ?_ ?_); (focus (simp (disch := (first | omega | with_reducible assumption | (simp <;> omega) | fail)) []; done)))
     | (refine Ans.step (by simp (disch := (first | omega | with_reducible assumption | (simp <;> omega) | fail)) [-List.getD_eq_getElem?_getD] <;> rfl) ?_; try dsimp only [v_zero, v_succ])
     | fail)
    exact Ans.exitN ⟨rfl, rfl, rfl, (by show c ≤ c + 1; omega), hH, v, hv, ha.mono (by show c ≤ c + 1; omega)⟩
  | succ k ih =>
    intro i c H v hi hc hH hv ha
    have hF : ∀ f, f < 4 → (rnF Gl Ord Pm (back Ord n) i f).length = 5 := fun f hf => rnF_length hok (by omega) hf
    have hin := Ans.eq (rnG_in s so sp sb v6 (ptrTo bo) n Gl Ord Pm gb (256 * (c + 1 + 1)) cm (c + 1 + 1 + 1 + 1) H i (by omega) hn (by omega) hgb (by omega) (by omega)
      (hh.same hgb hH) (hg.same hH) (ho.same hH) (hp.same hH) (hb.same hH) hok (hv6.mono (by omega)) (OkV.ptrTo (by omega)) df 4 0 rfl)
    have hz : ints (rowP (rnF Gl Ord Pm (back Ord n) i) 0) = [(.int .i64 0), (.int .i64 0), (.int .i64 0), (.int .i64 0), (.int .i64 0), (.int .i64 0), (.int .i64 0), (.int .i64 0), (.int .i64 0), (.int .i64 0), (.int .i64 0), (.int .i64 0), (.int .i64 0), (.int .i64 0), (.int .i64 0), (.int .i64 0), (.int .i64 0), (.int .i64 0), (.int .i64 0), (.int .i64 0)] := rfl
    rw [hz] at hin
    simp only [Int.ofNat_eq_natCast, Int.cast_ofNat_Int] at hin
    have hoH := ho.same hH
    have l1 := hoH.rdi i (by omega) (by omega)
    simp only [Int.toNat_natCast] at l1
    rw [gi_nat] at l1
    obtain ⟨X, hX⟩ : ∃ X, Ord.getD i 0 = X := ⟨_, rfl⟩
    rw [hX] at l1 hin
    have hRl := rowTo_length hF 4 (by omega)
    obtain ⟨R, hR⟩ : ∃ R, rowTo (rnF Gl Ord Pm (back Ord n) i) 4 = R := ⟨_, rfl⟩
    have hL : rnL Gl Ord Pm (back Ord n) (i + 1) = rnL Gl Ord Pm (back Ord n) i ++ R := by rw [rnL, hR]
    rw [hR] at hin hRl
    have lv : ld1 H (.pointer (some ⟨bo, 0, none⟩)) = some v := by rw [ld1_holds' (cs := [v]) ⟨false, none, hv⟩]; rfl
    have lr : ldN (newB H (256 * (c + 1 + 1)) (ints R)) 20 (.pointer (some ⟨256 * (c + 1 + 1), 0, none⟩)) = some (av R) := by
      rw [ldN_newB_same _ _ _ _ _ (by simp [hRl]), List.drop_zero, List.take_of_length_le (by simp [hRl])]; rfl
    have hbl := bldL20 R hRl
    obtain ⟨v', h', e1, e2, e3, e4⟩ := (ha.keep (h' := newB H (256 * (c + 1 + 1)) (ints R)) (fun j _ hj => by rw [newB_f, if_neg (by omega)])).mono (c' := c + 1 + 1 + 1 + 1) (by omega) |>.app (c' := c + 1 + 1 + 1 + 1 + 1 + 1) R hRl (by omega) 160 (256 * (c + 1 + 1 + 1 + 1) + 3) (256 * (c + 1 + 1 + 1 + 1) + 4) (by omega) (by omega) (by omega) (by omega) (by omega) (by omega)
    have hs0 : Same c1 H h' := Same.trans ((Same_newB (by omega)).2 (Same.refl _ _)) e3
    have hv' : h'.f bo = some (.cells false none [v]) := (hs0 bo hbo1).trans hv
    have hst := st1_get (v := v') (o := 0) (show HeapC.get h' bo = _ from hv') (by simp) e2.flat.2 e2.flat.1
    refine Ans.loop' (fun q r => f40_N40001) (fun q => f40_Z40001) ?_
    unfold f40_L40001
    repeat' (first
     | ((with_reducible first | refine Ans.bz ?_ | refine Ans.r1 ?_ | refine Ans.pkT ?_ | refine Ans.pkF ?_); try dsimp only [v_zero, v_succ])
     | (with_reducible first | refine Ans.btL ?_ | refine Ans.bfL ?_ | refine Ans.gyT ?_ | refine Ans.gyF ?_ | refine Ans.gyG ?_ | refine Ans.bb ?_ | refine Ans.bc ?_ | refine Ans.ba ?_)
     | ((with_reducible first | refine Ans.lsT ?_ ?_ | refine Ans.leT ?_ ?_ | refine Ans.grT ?_ ?_ | refine Ans.geT ?_ ?_ | refine Ans.eqT ?_ ?_ | refine Ans.neT ?_ ?_); (focus omega))
     | ((with_reducible first | refine Ans.lsF ?_ ?_ | refine Ans.leF ?_ ?_ | refine Ans.grF ?_ ?_ | refine Ans.geF ?_ ?_ | refine Ans.eqF ?_ ?_ | refine Ans.neF ?_ ?_); (focus omega))
     | (with_reducible first | refine Ans.lsS (fun _ => ?_) (fun _ => ?_) | refine Ans.leS (fun _ => ?_) (fun _ => ?_) | refine Ans.grS (fun _ => ?_) (fun _ => ?_) | refine Ans.geS (fun _ => ?_) (fun _ => ?_) | refine Ans.eqS (fun _ => ?_) (fun _ => ?_) | refine Ans.neS (fun _ => ?_) (fun _ => ?_))
     | ((with_reducible first | refine Ans.addN ?_ ?_ | refine Ans.add ?_ ?_ | refine Ans.sub ?_ ?_ | refine Ans.mul ?_ ?_); (focus omega))
     | ((with_reducible first | refine Ans.ct ?_ ?_); (focus (simp (disch := (first | omega | with_reducible assumption | (simp <;> omega) | fail)) [hoH.ixs1, l1, hin, lv, lr, hbl, e1, hst]; done)))
     | ((with_reducible first | refine Ans.cf ?_ ?_); (focus (simp (disch := (first | omega | with_reducible assumption | (simp <;> omega) | fail)) [hoH.ixs1, l1, hin, lv, lr, hbl, e1, hst]; done)))
     | (refine Ans.step (by simp (disch := (first | omega | with_reducible assumption | (simp <;> omega) | fail)) [hoH.ixs1, l1, hin, lv, lr, hbl, e1, hst, -List.getD_eq_getElem?_getD] <;> rfl) ?_; try dsimp only [v_zero, v_succ])
     | fail)
    refine Ans.nextN ?_
    refine (ih (i + 1) _ _ v' (by omega) (by omega) ?_ ?_ ?_).mono ?_
    · intro j hj
      rw [set_f, if_neg (by omega), hs0 j (by omega), hH j hj]
    · rw [set_f, if_pos rfl]
    · rw [hL]
      exact e2.keep (fun j h1 h2 => by rw [set_f, if_neg (by omega)])
    · rintro r ⟨q1, q2, q3, q4, q5, q6⟩
      exact ⟨q1, q2, q3, by omega, q5, q6⟩

theorem callF_check (s : Value) (n : Nat) (Gl : List Int) (h : FH) (c : Nat) (hs : SlI h c s 20 n Gl) : callF G 57 [.agg #[s]] h c = some (.int .i64 (if n ≤ 1000 ∧ okAll Gl n = true then 0 else 7), h, c) := callF_of (check_sp s n Gl h c [] hs)

set_option maxHeartbeats 1000000 in
theorem renumG_sp (s so sp : Value) (n a b : Nat) (Gl Ord Pm : List Int) (h : FH) (c : Nat) (df : List Nat) (hs : SlI h c s 20 n Gl) (ho : SlI h c so 1 a Ord) (hp : SlI h c sp 4 b Pm) :
    Ans (G (.fn 40) [.agg #[s], so, sp] h c df) (RnPost h c Gl Ord Pm n a b) := by
  refine Ans.call' (fun r e => f40_go e) ?_
  have hflat : ((Value.agg #[s]).cells.toList.all isFlat) = true := by simp [Value.cells, hs.flat]
  have hcell : (Value.agg #[s]).cells.toList = [s] := rfl
  unfold f40_S
  rw [hflat, hcell]
  simp only [cond_true]
  obtain ⟨H0, hH0⟩ : ∃ H0, H0 = newB h (256 * c) [s] := ⟨_, rfl⟩
  have sH0 : Same c h H0 := by rw [hH0]; simp (disch := omega)
  have hg0 : Holds H0 (256 * c) [s] := by rw [hH0]; exact Holds.newB_same _ _ _
  rw [Nat.add_zero, ← hH0]
  clear hH0
  obtain ⟨H, hH⟩ : ∃ H, H = newB H0 (256 * c + 1) [.slice none 0 0] := ⟨_, rfl⟩
  have sH : Same c h H := by rw [hH]; exact sH0.newB (by omega)
  have hg : Holds H (256 * c) [s] := by rw [hH]; exact hg0.newB_ne (by omega)
  have hr : H.f (256 * c + 1) = some (.cells false none [.slice none 0 0]) := by rw [hH, newB_f, if_pos rfl]
  have l0 := ldN1_own hg
  have l1 : ld1 H (.pointer (some ⟨256 * c, 0, none⟩)) = some s := by rw [ld1_holds' hg]; rfl
  have c1 := callF_check s n Gl H (c + 1 + 1) ((hs.same sH).mono (by omega))
  have hlen := hs.len
  have hlo := ho.len
  have hlp := hp.len
  have w0 := st1_own hr (o := 0) (v := .slice none 0 0) (by simp) rfl
  have hz : bldV [(.slice none 0 0)] [] = some (.agg #[.slice none 0 0]) := rfl
  rw [← hH]
  have w1 := ldN1_own (h := HeapC.set H (256 * c + 1) (.cells false none [.slice none 0 0])) (b := 256 * c + 1) (cs := []) (v := .slice none 0 0) ⟨_, _, get_set_same _ _ _⟩
  by_cases hok : n ≤ 1000 ∧ okAll Gl n = true
  case neg =>
    rw [if_neg hok] at c1
    repeat' (first
     | ((with_reducible first | refine Ans.bz ?_ | refine Ans.r1 ?_ | refine Ans.pkT ?_ | refine Ans.pkF ?_); try dsimp only [v_zero, v_succ])
     | (with_reducible first | refine Ans.btL ?_ | refine Ans.bfL ?_ | refine Ans.gyT ?_ | refine Ans.gyF ?_ | refine Ans.gyG ?_ | refine Ans.bb ?_ | refine Ans.bc ?_ | refine Ans.ba ?_)
     | ((with_reducible first | refine Ans.lsT ?_ ?_ | refine Ans.leT ?_ ?_ | refine Ans.grT ?_ ?_ | refine Ans.geT ?_ ?_ | refine Ans.eqT ?_ ?_ | refine Ans.neT ?_ ?_); (focus omega))
     | ((with_reducible first | refine Ans.lsF ?_ ?_ | refine Ans.leF ?_ ?_ | refine Ans.grF ?_ ?_ | refine Ans.geF ?_ ?_ | refine Ans.eqF ?_ ?_ | refine Ans.neF ?_ ?_); (focus omega))
     | (with_reducible first | refine Ans.lsS (fun _ => ?_) (fun _ => ?_) | refine Ans.leS (fun _ => ?_) (fun _ => ?_) | refine Ans.grS (fun _ => ?_) (fun _ => ?_) | refine Ans.geS (fun _ => ?_) (fun _ => ?_) | refine Ans.eqS (fun _ => ?_) (fun _ => ?_) | refine Ans.neS (fun _ => ?_) (fun _ => ?_))
     | ((with_reducible first | refine Ans.addN ?_ ?_ | refine Ans.add ?_ ?_ | refine Ans.sub ?_ ?_ | refine Ans.mul ?_ ?_); (focus omega))
     | ((with_reducible first | refine Ans.ct ?_ ?_); (focus (simp (disch := (first | omega | with_reducible assumption | (simp <;> omega) | fail)) [l0, c1, hz, w0, w1]; done)))
     | ((with_reducible first | refine Ans.cf ?_ ?_); (focus (simp (disch := (first | omega | with_reducible assumption | (simp <;> omega) | fail)) [l0, c1, hz, w0, w1]; done)))
     | (refine Ans.step (by simp (disch := (first | omega | with_reducible assumption | (simp <;> omega) | fail)) [l0, c1, hz, w0, w1, -List.getD_eq_getElem?_getD] <;> rfl) ?_; try dsimp only [v_zero, v_succ])
     | fail)
    refine .done ⟨rfl, rfl, (by show c ≤ c + 1 + 1 + 1 + 1; omega), ?_, .slice none 0 0, by rw [rnE, if_neg hok], ?_⟩
    · exact sH.set (by omega)
    · rw [rnN, rnR, if_neg (fun h => hok ⟨h.1, h.2.1⟩), if_neg (fun h => hok ⟨h.1, h.2.1⟩)]
      exact ⟨SlI.nil _ _ _, fun h => absurd h (by omega)⟩
  rw [if_pos hok] at c1
  obtain ⟨M, hM⟩ : ∃ M, M = newB (newB H (256 * (c + 1 + 1 + 1 + 1) + 1) (ints (List.replicate n 0))) (256 * (c + 1 + 1 + 1 + 1 + 1) + 1) (bools (List.replicate n false)) := ⟨_, rfl⟩
  have sM : Same (c + 1 + 1 + 1 + 1) H M := by rw [hM]; simp (disch := omega)
  have scM : Same c h M := sH.trans (sM.mono (by omega))
  have wM := st1_own (h := M) (b := 256 * c + 1) (cs := [.slice none 0 0]) (op := none) ((sM _ (by omega)).trans hr) (o := 0) (v := .slice none 0 0) (by simp) rfl
  have wM1 := ldN1_own (h := HeapC.set M (256 * c + 1) (.cells false none [.slice none 0 0])) (b := 256 * c + 1) (cs := []) (v := .slice none 0 0) ⟨_, _, get_set_same _ _ _⟩
  have bad : ordB Ord Pm a b n = false → ∀ c' : Nat, c ≤ c' → Ans (some { e := Ex.ret, vs := [.tuple #[.agg #[.slice none 0 0], .int .i64 1]], h := HeapC.set M (256 * c + 1) (.cells false none [.slice none 0 0]), c := c', df := [] }) (RnPost h c Gl Ord Pm n a b) := fun ho c' hc' => by
    refine .done ⟨rfl, rfl, hc', ?_, .slice none 0 0, by rw [rnE, if_pos hok, ho, if_neg (by simp)], ?_⟩
    · exact scM.set (by omega)
    · rw [rnN, rnR, if_neg (fun h => by rw [ho] at h; simp at h), if_neg (fun h => by rw [ho] at h; simp at h)]
      exact ⟨SlI.nil _ _ _, fun h => absurd h (by omega)⟩
  by_cases hbn : b ≤ 1000000000
  case neg =>
    have : ordB Ord Pm a b n = false := by
      have : ¬ b = n := by omega
      simp [ordB, this]
    by_cases han : a = n
    · repeat' (first
       | ((with_reducible first | refine Ans.bz ?_ | refine Ans.r1 ?_ | refine Ans.pkT ?_ | refine Ans.pkF ?_); try dsimp only [v_zero, v_succ])
       | (with_reducible first | refine Ans.btL ?_ | refine Ans.bfL ?_ | refine Ans.gyT ?_ | refine Ans.gyF ?_ | refine Ans.gyG ?_ | refine Ans.bb ?_ | refine Ans.bc ?_ | refine Ans.ba ?_)
       | ((with_reducible first | refine Ans.lsT ?_ ?_ | refine Ans.leT ?_ ?_ | refine Ans.grT ?_ ?_ | refine Ans.geT ?_ ?_ | refine Ans.eqT ?_ ?_ | refine Ans.neT ?_ ?_); (focus omega))
       | ((with_reducible first | refine Ans.lsF ?_ ?_ | refine Ans.leF ?_ ?_ | refine Ans.grF ?_ ?_ | refine Ans.geF ?_ ?_ | refine Ans.eqF ?_ ?_ | refine Ans.neF ?_ ?_); (focus omega))
       | (with_reducible first | refine Ans.lsS (fun _ => ?_) (fun _ => ?_) | refine Ans.leS (fun _ => ?_) (fun _ => ?_) | refine Ans.grS (fun _ => ?_) (fun _ => ?_) | refine Ans.geS (fun _ => ?_) (fun _ => ?_) | refine Ans.eqS (fun _ => ?_) (fun _ => ?_) | refine Ans.neS (fun _ => ?_) (fun _ => ?_))
       | ((with_reducible first | refine Ans.addN ?_ ?_ | refine Ans.add ?_ ?_ | refine Ans.sub ?_ ?_ | refine Ans.mul ?_ ?_); (focus omega))
       | ((with_reducible first | refine Ans.ct ?_ ?_); (focus (simp (disch := (first | omega | with_reducible assumption | (simp <;> omega) | fail)) [l0, l1, hlen, hlo, hlp, c1, hz, mkS_int, mkS_bool, ← hM, wM, wM1]; done)))
       | ((with_reducible first | refine Ans.cf ?_ ?_); (focus (simp (disch := (first | omega | with_reducible assumption | (simp <;> omega) | fail)) [l0, l1, hlen, hlo, hlp, c1, hz, mkS_int, mkS_bool, ← hM, wM, wM1]; done)))
       | (refine Ans.step (by simp (disch := (first | omega | with_reducible assumption | (simp <;> omega) | fail)) [l0, l1, hlen, hlo, hlp, c1, hz, mkS_int, mkS_bool, ← hM, wM, wM1, -List.getD_eq_getElem?_getD] <;> rfl) ?_; try dsimp only [v_zero, v_succ])
       | fail)
      exact bad this _ (by omega)
    · repeat' (first
       | ((with_reducible first | refine Ans.bz ?_ | refine Ans.r1 ?_ | refine Ans.pkT ?_ | refine Ans.pkF ?_); try dsimp only [v_zero, v_succ])
       | (with_reducible first | refine Ans.btL ?_ | refine Ans.bfL ?_ | refine Ans.gyT ?_ | refine Ans.gyF ?_ | refine Ans.gyG ?_ | refine Ans.bb ?_ | refine Ans.bc ?_ | refine Ans.ba ?_)
       | ((with_reducible first | refine Ans.lsT ?_ ?_ | refine Ans.leT ?_ ?_ | refine Ans.grT ?_ ?_ | refine Ans.geT ?_ ?_ | refine Ans.eqT ?_ ?_ | refine Ans.neT ?_ ?_); (focus omega))
       | ((with_reducible first | refine Ans.lsF ?_ ?_ | refine Ans.leF ?_ ?_ | refine Ans.grF ?_ ?_ | refine Ans.geF ?_ ?_ | refine Ans.eqF ?_ ?_ | refine Ans.neF ?_ ?_); (focus omega))
       | (with_reducible first | refine Ans.lsS (fun _ => ?_) (fun _ => ?_) | refine Ans.leS (fun _ => ?_) (fun _ => ?_) | refine Ans.grS (fun _ => ?_) (fun _ => ?_) | refine Ans.geS (fun _ => ?_) (fun _ => ?_) | refine Ans.eqS (fun _ => ?_) (fun _ => ?_) | refine Ans.neS (fun _ => ?_) (fun _ => ?_))
       | ((with_reducible first | refine Ans.addN ?_ ?_ | refine Ans.add ?_ ?_ | refine Ans.sub ?_ ?_ | refine Ans.mul ?_ ?_); (focus omega))
       | ((with_reducible first | refine Ans.ct ?_ ?_); (focus (simp (disch := (first | omega | with_reducible assumption | (simp <;> omega) | fail)) [l0, l1, hlen, hlo, hlp, c1, hz, mkS_int, mkS_bool, ← hM, wM, wM1]; done)))
       | ((with_reducible first | refine Ans.cf ?_ ?_); (focus (simp (disch := (first | omega | with_reducible assumption | (simp <;> omega) | fail)) [l0, l1, hlen, hlo, hlp, c1, hz, mkS_int, mkS_bool, ← hM, wM, wM1]; done)))
       | (refine Ans.step (by simp (disch := (first | omega | with_reducible assumption | (simp <;> omega) | fail)) [l0, l1, hlen, hlo, hlp, c1, hz, mkS_int, mkS_bool, ← hM, wM, wM1, -List.getD_eq_getElem?_getD] <;> rfl) ?_; try dsimp only [v_zero, v_succ])
       | fail)
      exact bad this _ (by omega)
  have c3 := callF_of (contains_sp sp b Pm M (c + 1 + 1 + 1 + 1 + 1 + 1 + 1) [] hbn ((hp.same scM).mono (by omega)))
  by_cases han : a = n
  case neg =>
    have : ordB Ord Pm a b n = false := by simp [ordB, han]
    repeat' (first
     | ((with_reducible first | refine Ans.bz ?_ | refine Ans.r1 ?_ | refine Ans.pkT ?_ | refine Ans.pkF ?_); try dsimp only [v_zero, v_succ])
     | (with_reducible first | refine Ans.btL ?_ | refine Ans.bfL ?_ | refine Ans.gyT ?_ | refine Ans.gyF ?_ | refine Ans.gyG ?_ | refine Ans.bb ?_ | refine Ans.bc ?_ | refine Ans.ba ?_)
     | ((with_reducible first | refine Ans.lsT ?_ ?_ | refine Ans.leT ?_ ?_ | refine Ans.grT ?_ ?_ | refine Ans.geT ?_ ?_ | refine Ans.eqT ?_ ?_ | refine Ans.neT ?_ ?_); (focus omega))
     | ((with_reducible first | refine Ans.lsF ?_ ?_ | refine Ans.leF ?_ ?_ | refine Ans.grF ?_ ?_ | refine Ans.geF ?_ ?_ | refine Ans.eqF ?_ ?_ | refine Ans.neF ?_ ?_); (focus omega))
     | (with_reducible first | refine Ans.lsS (fun _ => ?_) (fun _ => ?_) | refine Ans.leS (fun _ => ?_) (fun _ => ?_) | refine Ans.grS (fun _ => ?_) (fun _ => ?_) | refine Ans.geS (fun _ => ?_) (fun _ => ?_) | refine Ans.eqS (fun _ => ?_) (fun _ => ?_) | refine Ans.neS (fun _ => ?_) (fun _ => ?_))
     | ((with_reducible first | refine Ans.addN ?_ ?_ | refine Ans.add ?_ ?_ | refine Ans.sub ?_ ?_ | refine Ans.mul ?_ ?_); (focus omega))
     | ((with_reducible first | refine Ans.ct ?_ ?_); (focus (simp (disch := (first | omega | with_reducible assumption | (simp <;> omega) | fail)) [l0, l1, hlen, hlo, hlp, c1, hz, mkS_int, mkS_bool, ← hM, wM, wM1]; done)))
     | ((with_reducible first | refine Ans.cf ?_ ?_); (focus (simp (disch := (first | omega | with_reducible assumption | (simp <;> omega) | fail)) [l0, l1, hlen, hlo, hlp, c1, hz, mkS_int, mkS_bool, ← hM, wM, wM1]; done)))
     | (refine Ans.step (by simp (disch := (first | omega | with_reducible assumption | (simp <;> omega) | fail)) [l0, l1, hlen, hlo, hlp, c1, hz, mkS_int, mkS_bool, ← hM, wM, wM1, -List.getD_eq_getElem?_getD] <;> rfl) ?_; try dsimp only [v_zero, v_succ])
     | fail)
    exact bad this _ (by omega)
  by_cases hbb : b = n
  case neg =>
    have : ordB Ord Pm a b n = false := by simp [ordB, hbb]
    repeat' (first
     | ((with_reducible first | refine Ans.bz ?_ | refine Ans.r1 ?_ | refine Ans.pkT ?_ | refine Ans.pkF ?_); try dsimp only [v_zero, v_succ])
     | (with_reducible first | refine Ans.btL ?_ | refine Ans.bfL ?_ | refine Ans.gyT ?_ | refine Ans.gyF ?_ | refine Ans.gyG ?_ | refine Ans.bb ?_ | refine Ans.bc ?_ | refine Ans.ba ?_)
     | ((with_reducible first | refine Ans.lsT ?_ ?_ | refine Ans.leT ?_ ?_ | refine Ans.grT ?_ ?_ | refine Ans.geT ?_ ?_ | refine Ans.eqT ?_ ?_ | refine Ans.neT ?_ ?_); (focus omega))
     | ((with_reducible first | refine Ans.lsF ?_ ?_ | refine Ans.leF ?_ ?_ | refine Ans.grF ?_ ?_ | refine Ans.geF ?_ ?_ | refine Ans.eqF ?_ ?_ | refine Ans.neF ?_ ?_); (focus omega))
     | (with_reducible first | refine Ans.lsS (fun _ => ?_) (fun _ => ?_) | refine Ans.leS (fun _ => ?_) (fun _ => ?_) | refine Ans.grS (fun _ => ?_) (fun _ => ?_) | refine Ans.geS (fun _ => ?_) (fun _ => ?_) | refine Ans.eqS (fun _ => ?_) (fun _ => ?_) | refine Ans.neS (fun _ => ?_) (fun _ => ?_))
     | ((with_reducible first | refine Ans.addN ?_ ?_ | refine Ans.add ?_ ?_ | refine Ans.sub ?_ ?_ | refine Ans.mul ?_ ?_); (focus omega))
     | ((with_reducible first | refine Ans.ct ?_ ?_); (focus (simp (disch := (first | omega | with_reducible assumption | (simp <;> omega) | fail)) [l0, l1, hlen, hlo, hlp, c1, hz, mkS_int, mkS_bool, ← hM, wM, wM1]; done)))
     | ((with_reducible first | refine Ans.cf ?_ ?_); (focus (simp (disch := (first | omega | with_reducible assumption | (simp <;> omega) | fail)) [l0, l1, hlen, hlo, hlp, c1, hz, mkS_int, mkS_bool, ← hM, wM, wM1]; done)))
     | (refine Ans.step (by simp (disch := (first | omega | with_reducible assumption | (simp <;> omega) | fail)) [l0, l1, hlen, hlo, hlp, c1, hz, mkS_int, mkS_bool, ← hM, wM, wM1, -List.getD_eq_getElem?_getD] <;> rfl) ?_; try dsimp only [v_zero, v_succ])
     | fail)
    exact bad this _ (by omega)
  subst han
  subst hbb
  cases hab : anyBad Pm b with
  | true =>
    have : ordB Ord Pm b b b = false := by
      obtain ⟨j, j1, j2⟩ := anyBad_true.1 hab
      cases hq : ordB Ord Pm b b b with
      | false => rfl
      | true =>
        have := (ordF_range (ordB_iff.1 hq).2.2 j (by omega) (by omega)).2.2
        rw [j2] at this; cases this
    rw [hab] at c3
    repeat' (first
     | ((with_reducible first | refine Ans.bz ?_ | refine Ans.r1 ?_ | refine Ans.pkT ?_ | refine Ans.pkF ?_); try dsimp only [v_zero, v_succ])
     | (with_reducible first | refine Ans.btL ?_ | refine Ans.bfL ?_ | refine Ans.gyT ?_ | refine Ans.gyF ?_ | refine Ans.gyG ?_ | refine Ans.bb ?_ | refine Ans.bc ?_ | refine Ans.ba ?_)
     | ((with_reducible first | refine Ans.lsT ?_ ?_ | refine Ans.leT ?_ ?_ | refine Ans.grT ?_ ?_ | refine Ans.geT ?_ ?_ | refine Ans.eqT ?_ ?_ | refine Ans.neT ?_ ?_); (focus omega))
     | ((with_reducible first | refine Ans.lsF ?_ ?_ | refine Ans.leF ?_ ?_ | refine Ans.grF ?_ ?_ | refine Ans.geF ?_ ?_ | refine Ans.eqF ?_ ?_ | refine Ans.neF ?_ ?_); (focus omega))
     | (with_reducible first | refine Ans.lsS (fun _ => ?_) (fun _ => ?_) | refine Ans.leS (fun _ => ?_) (fun _ => ?_) | refine Ans.grS (fun _ => ?_) (fun _ => ?_) | refine Ans.geS (fun _ => ?_) (fun _ => ?_) | refine Ans.eqS (fun _ => ?_) (fun _ => ?_) | refine Ans.neS (fun _ => ?_) (fun _ => ?_))
     | ((with_reducible first | refine Ans.addN ?_ ?_ | refine Ans.add ?_ ?_ | refine Ans.sub ?_ ?_ | refine Ans.mul ?_ ?_); (focus omega))
     | ((with_reducible first | refine Ans.ct ?_ ?_); (focus (simp (disch := (first | omega | with_reducible assumption | (simp <;> omega) | fail)) [l0, l1, hlen, hlo, hlp, c1, hz, mkS_int, mkS_bool, ← hM, wM, wM1, c3]; done)))
     | ((with_reducible first | refine Ans.cf ?_ ?_); (focus (simp (disch := (first | omega | with_reducible assumption | (simp <;> omega) | fail)) [l0, l1, hlen, hlo, hlp, c1, hz, mkS_int, mkS_bool, ← hM, wM, wM1, c3]; done)))
     | (refine Ans.step (by simp (disch := (first | omega | with_reducible assumption | (simp <;> omega) | fail)) [l0, l1, hlen, hlo, hlp, c1, hz, mkS_int, mkS_bool, ← hM, wM, wM1, c3, -List.getD_eq_getElem?_getD] <;> rfl) ?_; try dsimp only [v_zero, v_succ])
     | fail)
    exact bad this _ (by omega)
  | false =>
    rw [hab] at c3
    have hfg : ordF Ord Pm b b 0 (List.replicate b false) = ordG Ord b b 0 (List.replicate b false) := ordF_G (fun j _ h2 => anyBad_false.1 hab j (by omega))
    have hbk := rnG_back so sp (ptrTo (256 * c)) (.int .i64 0) b b Ord (256 * c + 1) (256 * (c + 1 + 1 + 1 + 1) + 1) (256 * (c + 1 + 1 + 1 + 1 + 1) + 1) c (c + 1 + 1 + 1 + 1 + 1 + 1 + 1 + 1) H0 hok.1 (by omega) (by omega) (by omega) (by omega) (by omega)
      (ho.same sH0) (hp.mono (by omega)).okV (OkV.ptrTo (by omega)) (OkV.int _ _ _) [] b 0 (List.replicate b 0) (List.replicate b false) (by omega) (by simp) (by simp)
    rw [← hH, ← hM] at hbk
    obtain ⟨⟨re, rv, rh, rc, rd⟩, hq, q1, q2, l', met', q3, q4⟩ := hbk
    simp only at q1 q2 q3 q4
    subst q1 q2
    simp only [Int.ofNat_eq_natCast, Int.cast_ofNat_Int] at hq
    rw [← hfg] at q4
    cases hord2 : ordF Ord Pm b b 0 (List.replicate b false) with
    | false =>
      rw [hord2, if_neg (by simp)] at q4
      obtain ⟨rfl, q5, q6⟩ := q4
      have hord : ordB Ord Pm b b b = false := by simp [ordB, hord2]
      have sq : Same (c + 1 + 1 + 1 + 1) H rh := by rw [q3]; simp (disch := omega)
      have l9 : ldN rh 1 (.pointer (some ⟨256 * c + 1, 0, none⟩)) = some (.agg #[.slice none 0 0]) := ldN1_own ⟨_, _, (sq _ (by omega)).trans hr⟩
      have q5' : ({ e := Ex.ret, vs := rv, h := rh, c := c + 1 + 1 + 1 + 1 + 1 + 1 + 1 + 1, df := [] } : Rt FH).v 3 = ptrTo (256 * c + 1) := q5
      repeat' (first
       | ((with_reducible first | refine Ans.bz ?_ | refine Ans.r1 ?_ | refine Ans.pkT ?_ | refine Ans.pkF ?_); try dsimp only [v_zero, v_succ])
       | (with_reducible first | refine Ans.btL ?_ | refine Ans.bfL ?_ | refine Ans.gyT ?_ | refine Ans.gyF ?_ | refine Ans.gyG ?_ | refine Ans.bb ?_ | refine Ans.bc ?_ | refine Ans.ba ?_)
       | ((with_reducible first | refine Ans.lsT ?_ ?_ | refine Ans.leT ?_ ?_ | refine Ans.grT ?_ ?_ | refine Ans.geT ?_ ?_ | refine Ans.eqT ?_ ?_ | refine Ans.neT ?_ ?_); (focus omega))
       | ((with_reducible first | refine Ans.lsF ?_ ?_ | refine Ans.leF ?_ ?_ | refine Ans.grF ?_ ?_ | refine Ans.geF ?_ ?_ | refine Ans.eqF ?_ ?_ | refine Ans.neF ?_ ?_); (focus omega))
       | (with_reducible first | refine Ans.lsS (fun _ => ?_) (fun _ => ?_) | refine Ans.leS (fun _ => ?_) (fun _ => ?_) | refine Ans.grS (fun _ => ?_) (fun _ => ?_) | refine Ans.geS (fun _ => ?_) (fun _ => ?_) | refine Ans.eqS (fun _ => ?_) (fun _ => ?_) | refine Ans.neS (fun _ => ?_) (fun _ => ?_))
       | ((with_reducible first | refine Ans.addN ?_ ?_ | refine Ans.add ?_ ?_ | refine Ans.sub ?_ ?_ | refine Ans.mul ?_ ?_); (focus omega))
       | ((with_reducible first | refine Ans.ct ?_ ?_); (focus (simp (disch := (first | omega | with_reducible assumption | (simp <;> omega) | fail)) [l0, l1, hlen, hlo, hlp, c1, hz, mkS_int, mkS_bool, ← hM, wM, wM1, c3, hq, q5', l9]; done)))
       | ((with_reducible first | refine Ans.cf ?_ ?_); (focus (simp (disch := (first | omega | with_reducible assumption | (simp <;> omega) | fail)) [l0, l1, hlen, hlo, hlp, c1, hz, mkS_int, mkS_bool, ← hM, wM, wM1, c3, hq, q5', l9]; done)))
       | (refine Ans.step (by simp (disch := (first | omega | with_reducible assumption | (simp <;> omega) | fail)) [l0, l1, hlen, hlo, hlp, c1, hz, mkS_int, mkS_bool, ← hM, wM, wM1, c3, hq, q5', l9, -List.getD_eq_getElem?_getD] <;> rfl) ?_; try dsimp only [v_zero, v_succ])
       | fail)
      refine .done ⟨rfl, rfl, (by show c ≤ c + 1 + 1 + 1 + 1 + 1 + 1 + 1 + 1; omega), ?_, .slice none 0 0, ?_, ?_⟩
      · exact sH.trans (sq.mono (by omega))
      · show [Value.tuple #[Value.agg #[.slice none 0 0], _]] = _
        rw [q6, rnE, if_pos hok, hord, if_neg (by simp)]
      · rw [rnN, rnR, if_neg (fun h => by rw [hord] at h; simp at h), if_neg (fun h => by rw [hord] at h; simp at h)]
        exact ⟨SlI.nil _ _ _, fun h => absurd h (by omega)⟩
    | true =>
      rw [hord2, if_pos rfl] at q4
      obtain ⟨rfl, rfl, v7', rfl⟩ := q4
      have hord : ordB Ord Pm b b b = true := by simp [ordB, hord2]
      have hrn := RnOk.of hs.1 (by simpa using ho.1) hp.1 hok.2 hord
      have sH2 : Same (c + 1 + 1 + 1 + 1) H rh := by rw [q3]; simp (disch := omega)
      rw [show backL Ord b 0 (List.replicate b 0) = back Ord b from rfl] at q3
      have sb : SlI rh (c + 1 + 1 + 1 + 1 + 1 + 1 + 1 + 1) (.slice (some ⟨256 * (c + 1 + 1 + 1 + 1) + 1, 0, none⟩) b b) 1 b (back Ord b) := by
        refine ⟨by rw [back_length, Nat.mul_one], by omega, _, _, rfl, .inr ⟨_, 0, ints (back Ord b), rfl, by omega, ?_, ?_⟩⟩
        · rw [q3]; exact (Holds.newB_same _ _ _).newB_ne (by omega)
        · rw [List.drop_zero, List.take_of_length_le (by simp [back_length])]
      have sc : Same c h rh := sH.trans (sH2.mono (by omega))
      clear q3
      obtain ⟨⟨re, rv, rh', rc, rd⟩, hm, m1, m2, m3, m4, m5, v, m6, m7⟩ := rnG_mid s so sp (.slice (some ⟨256 * (c + 1 + 1 + 1 + 1) + 1, 0, none⟩) b b) (ptrTo (256 * c + 1)) b Gl Ord Pm (256 * c) (256 * (c + 1 + 1 + 1 + 1 + 1 + 1 + 1 + 1)) (c + 1 + 1 + 1 + 1 + 1 + 1 + 1 + 1) (c + 1 + 1 + 1 + 1 + 1 + 1 + 1 + 1 + 1 + 1) rh hok.1 (by omega) (by omega) (by omega) (by omega)
        (hg.same (by omega) sH2) ((hs.same sc).mono (by omega)) ((ho.same sc).mono (by omega)) ((hp.same sc).mono (by omega)) sb hrn (OkV.ptrTo (by omega)) [] b 0 (c + 1 + 1 + 1 + 1 + 1 + 1 + 1 + 1 + 1 + 1) (newB rh (256 * (c + 1 + 1 + 1 + 1 + 1 + 1 + 1 + 1)) [.slice none 0 0]) (.slice none 0 0) (by omega) (by omega)
        ((Same_newB (by omega)).2 (Same.refl _ _)) (by rw [newB_f, if_pos rfl]) (AppS.nil _ _ _ _)
      simp only at m1 m2 m3 m4 m5 m6 m7
      subst m1 m2 m3
      simp only [Int.ofNat_eq_natCast, Int.cast_ofNat_Int] at hm
      have l2 := ldN1_own ⟨_, _, m6⟩
      have hr2 : rh'.f (256 * c + 1) = some (.cells false none [.slice none 0 0]) := (m5 _ (by omega)).trans ((sH2 _ (by omega)).trans hr)
      have w2 := st1_own hr2 (o := 0) (v := v) (by simp) m7.flat.1
      have w3 := ldN1_own (h := HeapC.set rh' (256 * c + 1) (.cells false none [v])) (b := 256 * c + 1) (cs := []) (v := v) ⟨_, _, get_set_same _ _ _⟩
      repeat' (first
       | ((with_reducible first | refine Ans.bz ?_ | refine Ans.r1 ?_ | refine Ans.pkT ?_ | refine Ans.pkF ?_); try dsimp only [v_zero, v_succ])
       | (with_reducible first | refine Ans.btL ?_ | refine Ans.bfL ?_ | refine Ans.gyT ?_ | refine Ans.gyF ?_ | refine Ans.gyG ?_ | refine Ans.bb ?_ | refine Ans.bc ?_ | refine Ans.ba ?_)
       | ((with_reducible first | refine Ans.lsT ?_ ?_ | refine Ans.leT ?_ ?_ | refine Ans.grT ?_ ?_ | refine Ans.geT ?_ ?_ | refine Ans.eqT ?_ ?_ | refine Ans.neT ?_ ?_); (focus omega))
       | ((with_reducible first | refine Ans.lsF ?_ ?_ | refine Ans.leF ?_ ?_ | refine Ans.grF ?_ ?_ | refine Ans.geF ?_ ?_ | refine Ans.eqF ?_ ?_ | refine Ans.neF ?_ ?_); (focus omega))
       | (with_reducible first | refine Ans.lsS (fun _ => ?_) (fun _ => ?_) | refine Ans.leS (fun _ => ?_) (fun _ => ?_) | refine Ans.grS (fun _ => ?_) (fun _ => ?_) | refine Ans.geS (fun _ => ?_) (fun _ => ?_) | refine Ans.eqS (fun _ => ?_) (fun _ => ?_) | refine Ans.neS (fun _ => ?_) (fun _ => ?_))
       | ((with_reducible first | refine Ans.addN ?_ ?_ | refine Ans.add ?_ ?_ | refine Ans.sub ?_ ?_ | refine Ans.mul ?_ ?_); (focus omega))
       | ((with_reducible first | refine Ans.ct ?_ ?_); (focus (simp (disch := (first | omega | with_reducible assumption | (simp <;> omega) | fail)) [l0, l1, hlen, hlo, hlp, c1, hz, mkS_int, mkS_bool, ← hM, c3, hq, hm, l2, w2, w3]; done)))
       | ((with_reducible first | refine Ans.cf ?_ ?_); (focus (simp (disch := (first | omega | with_reducible assumption | (simp <;> omega) | fail)) [l0, l1, hlen, hlo, hlp, c1, hz, mkS_int, mkS_bool, ← hM, c3, hq, hm, l2, w2, w3]; done)))
       | (refine Ans.step (by simp (disch := (first | omega | with_reducible assumption | (simp <;> omega) | fail)) [l0, l1, hlen, hlo, hlp, c1, hz, mkS_int, mkS_bool, ← hM, c3, hq, hm, l2, w2, w3, -List.getD_eq_getElem?_getD] <;> rfl) ?_; try dsimp only [v_zero, v_succ])
       | fail)
      refine .done ⟨rfl, rfl, (by show c ≤ rc + 1; omega), ?_, v, by rw [rnE, if_pos hok, hord, if_pos rfl], ?_⟩
      · exact (sc.trans (m5.mono (by omega))).set (by omega)
      · rw [rnN, rnR, if_pos ⟨hok.1, hok.2, hord⟩, if_pos ⟨hok.1, hok.2, hord⟩]
        refine ⟨((m7.keep (fun j h1 h2 => by rw [set_f, if_neg (by omega)])).mono (by show rc ≤ rc + 1; omega)).sl, fun hb => ?_⟩
        rcases m7.2.2 with ⟨_, h0⟩ | ⟨j, rfl, h0, _, _⟩
        · omega
        · rw [blkOf_sl]; omega
end Go.Proofs.Ytemkjcpfgmbibaa

namespace Go.Proofs.Ytemkjcpfgmbibaa.Base
open Go Go.Ab Go.Proofs
set_option maxRecDepth 100000
set_option linter.unusedVariables false
variable {H : Type} [HeapC H]
noncomputable abbrev P := Try.prog
noncomputable def f60_b : Code := bodyOf Try.f60
noncomputable def f60_c60000 : ACode := (.seq (.region 3 (opsAt f60_b [1, 1, 0, 1, 0, 0, 0]) false) (.seq (.cond (.tmp 8) .skip (.exit 0)) (.seq (.block 1 (.seq (.region 4 (opsAt f60_b [1, 1, 0, 1, 0, 0, 1, 1, 0, 0, 0]) false) (.seq (.seq (.region 5 (opsAt f60_b [1, 1, 0, 1, 0, 0, 1, 1, 0, 0, 1, 0, 0]) false) (.cond (.tmp 15) (.seq (.region 6 (opsAt f60_b [1, 1, 0, 1, 0, 0, 1, 1, 0, 0, 1, 0, 1, 0, 0]) false) .ret) .skip)) (.region 7 (opsAt f60_b [1, 1, 0, 1, 0, 0, 1, 1, 0, 0, 1, 1]) false)))) (.region 8 (opsAt f60_b [1, 1, 0, 1, 0, 0, 1, 1, 1]) false))))
noncomputable def f60_k60000 (rd : Option Nat) : Key := .lp 60000 [2, 3, 6, 7] [] f60_c60000 23 rd
noncomputable def f60_c : ACode := (.seq (.region 0 (opsAt f60_b [0]) false) (.seq (.region 1 (opsAt f60_b [1, 0]) false) (.seq (.seq (.region 2 (opsAt f60_b [1, 1, 0, 0]) false) (.block 0 (.loop 60000 [2, 3, 6, 7] [] [(.exit 0), .ret] f60_c60000))) (.seq (.region 9 (opsAt f60_b [1, 1, 1, 0]) false) .ret))))
noncomputable def f60_f : AFun := { code := f60_c, nt := 23, res := Try.f60.results.toList, fr := [] }
noncomputable def f65_b : Code := bodyOf Try.f65
noncomputable def f65_c : ACode := (.seq (.region 0 (opsAt f65_b [0]) false) (.seq (.region 1 (opsAt f65_b [1, 0]) true) .ret))
noncomputable def f65_f : AFun := { code := f65_c, nt := 22, res := Try.f65.results.toList, fr := [] }
noncomputable def f66_b : Code := bodyOf Try.f66
noncomputable def f66_c66000 : ACode := (.seq (.region 3 (opsAt f66_b [1, 1, 0, 1, 0, 0, 0]) false) (.seq (.cond (.tmp 8) .skip (.exit 0)) (.seq (.block 1 (.seq (.region 4 (opsAt f66_b [1, 1, 0, 1, 0, 0, 1, 1, 0, 0, 0]) false) (.region 5 (opsAt f66_b [1, 1, 0, 1, 0, 0, 1, 1, 0, 0, 1]) false))) (.region 6 (opsAt f66_b [1, 1, 0, 1, 0, 0, 1, 1, 1]) false))))
noncomputable def f66_k66000 (rd : Option Nat) : Key := .lp 66000 [2, 3, 6, 7] [] f66_c66000 16 rd
noncomputable def f66_c : ACode := (.seq (.region 0 (opsAt f66_b [0]) false) (.seq (.region 1 (opsAt f66_b [1, 0]) false) (.seq (.seq (.region 2 (opsAt f66_b [1, 1, 0, 0]) false) (.block 0 (.loop 66000 [2, 3, 6, 7] [] [(.exit 0)] f66_c66000))) (.seq (.region 7 (opsAt f66_b [1, 1, 1, 0]) false) .ret))))
noncomputable def f66_f : AFun := { code := f66_c, nt := 16, res := Try.f66.results.toList, fr := [] }
noncomputable def bkT : BT AFun := (.node 65 f65_f (.node 60 f60_f .leaf .leaf) (.node 66 f66_f .leaf .leaf))
noncomputable def bk (f : FuncId) : Option AFun := bkT.look f
theorem bk_60 : bk 60 = some f60_f := by kernel_rfl
theorem ok_60 : EntOK P 60 f60_f := ⟨Try.f60, f60_b, Try.func60, rfl, by kernel_rfl, by kernel_rfl, rfl, rfl⟩
theorem bk_65 : bk 65 = some f65_f := by kernel_rfl
theorem ok_65 : EntOK P 65 f65_f := ⟨Try.f65, f65_b, Try.func65, rfl, by kernel_rfl, by kernel_rfl, rfl, rfl⟩
theorem bk_66 : bk 66 = some f66_f := by kernel_rfl
theorem ok_66 : EntOK P 66 f66_f := ⟨Try.f66, f66_b, Try.func66, rfl, by kernel_rfl, by kernel_rfl, rfl, rfl⟩
theorem bk_ok : BookOK P bk := fun f a e => BT.look_all (Q := EntOK P) (t := bkT) (And.intro ok_65 (And.intro (And.intro ok_60 (And.intro trivial trivial)) (And.intro ok_66 (And.intro trivial trivial)))) e
theorem mixed : P.follows .mixedOrders = true := by kernel_rfl
def selF : List Nat := []
def selL : List Nat := [60000, 66000]
def nmem (x : Nat) : List Nat → Bool
  | [] => false
  | y :: ys => cond (Nat.beq x y) true (nmem x ys)
def sel : Key → Bool
  | .fn f => !(nmem f selF)
  | .lp j _ _ _ _ _ => nmem j selL
  | .rnd .. => false
noncomputable def ext : Fo FH := fun f args h c => match args with
  | [] => cond (nmem f []) (some { e := .ret, vs := [.bool true], h := h, c := c, df := [] }) none
  | _ => none
noncomputable abbrev G : Orc FH := runG P bk sel ext
end Go.Proofs.Ytemkjcpfgmbibaa.Base

namespace Go.Proofs.Ytemkjcpfgmbibaa.Base
open Go Go.Ab Go.Proofs
set_option maxRecDepth 100000
set_option linter.unusedVariables false
variable {H : Type} [HeapC H]
noncomputable def f60_L60000 (o : Orc H) (rd : Option Nat) (t2 t3 t6 t7 : Value) (h : H) (c : Nat) (df : List Nat) : Option (Rt H) :=
 (aBinOp P .lss 3 t7 (.int .i64 4)).bind fun t8 =>
 boolK t8
 ((ixV 4 false 1 t6 t7).bind fun t9 =>
 (aBinOp P .lss 3 t9 (.int .i64 0)).bind fun t11 =>
 ((gv t11 false).bind fun w => cond w (ret1 h (((c + 1) + 1) + 1) (some t9)) (some (undef, h, (((c + 1) + 1) + 1)))).bind fun r0 =>
 ((gv t11 false).bind fun w => cond w (ret1 r0.2.1 r0.2.2 (aBinOp P .gtr 3 r0.1 (.int .i64 3))) (some (undef, r0.2.1, r0.2.2))).bind fun r1 =>
 (pickV t11 (.bool true) r1.1).bind fun t15 =>
 boolK t15
  (some { e := .ret, vs := [(.bool false), t3, t6, t7], h := r1.2.1, c := (r1.2.2 + 1), df := df })
  ((aBinOp P .shl 3 (.int .i64 1) t9).bind fun t18 =>
  (aBinOp P .or 3 t3 t18).bind fun t19 =>
  (aBinOp P .add 3 t7 (.int .i64 1)).bind fun t20 =>
  some { e := .normal, vs := [t2, t19, t6, t20], h := r1.2.1, c := ((r1.2.2 + 1) + 1), df := df }))
 (some { e := (.exit 0), vs := [t2, t3, t6, t7], h := h, c := (c + 1), df := df })
theorem f60_L60000_eq (o : Orc H) (rd : Option Nat) (t2 t3 t6 t7 : Value) (h : H) (c : Nat) (df : List Nat) : jx P o 23 rd f60_c60000 (tmOf [2, 3, 6, 7] [t2, t3, t6, t7]) h c df (Klp [2, 3, 6, 7]) = f60_L60000 o rd t2 t3 t6 t7 h c df := by kernel_rfl
noncomputable def f60_S (o : Orc H) (t0 : Value) (h : H) (c : Nat) : Option (Rt H) :=
 (bif (t0 : Value).cells.toList.all isFlat then
 (ldN (newB h (256 * c + 0) (t0 : Value).cells.toList) 4 (ptrTo (256 * c + 0))).bind fun t6 =>
 (o (f60_k60000 none) [(.bool false), (.int .i64 0), t6, (.int .i64 0)] (newB h (256 * c + 0) (t0 : Value).cells.toList) (((c + 1) + 1) + 1) []).bind fun r0 =>
 cond (exIs r0.e (.exit 0))
 ((aBinOp P .eql 3 (r0.v 1) (.int .i64 15)).bind fun t22 =>
 (takeAll r0.h r0.df).bind fun h2 =>
 some { e := .ret, vs := [t22], h := h2, c := (r0.c + 1), df := [] })
 (cond (exIs r0.e .ret)
  ((takeAll r0.h r0.df).bind fun h1 =>
  some { e := .ret, vs := [(r0.v 0)], h := h1, c := r0.c, df := [] })
  (none))
 else none)
theorem f60_S_eq (o : Orc H) (t0 : Value) (h : H) (c : Nat) : jx P o 23 none f60_c (tmOf (List.range 1) [t0]) h c [] (Kfn P Try.f60.results.toList) = f60_S o t0 h c := by kernel_rfl
theorem f60_go {t0 : Value} {h : FH} {c : Nat} {df : List Nat} {r : Rt FH} (e : f60_S G t0 h c = some r) : G (.fn 60) [t0] h c df = some (gcR h c [] r) := runG_fn (a := f60_f) bk_60 rfl (fun args h c => by cases args <;> rfl) rfl ((f60_S_eq G t0 h c).trans e)
theorem f60_N60000 {rd : Option Nat} {t2 t3 t6 t7 : Value} {h : FH} {c : Nat} {df : List Nat} {q r : Rt FH} (e : f60_L60000 G rd t2 t3 t6 t7 h c df = some q) (hq : q.e = .normal) (k : G (f60_k60000 rd) q.vs (gcR h c df q).h (gcR h c df q).c q.df = some r) : G (f60_k60000 rd) [t2, t3, t6, t7] h c df = some r := runG_lp_next ((f60_L60000_eq G rd t2 t3 t6 t7 h c df).trans e) hq k
theorem f60_Z60000 {rd : Option Nat} {t2 t3 t6 t7 : Value} {h : FH} {c : Nat} {df : List Nat} {q : Rt FH} (e : f60_L60000 G rd t2 t3 t6 t7 h c df = some q) (hq : q.e ≠ .normal) : G (f60_k60000 rd) [t2, t3, t6, t7] h c df = some (gcR h c df q) := runG_lp_last ((f60_L60000_eq G rd t2 t3 t6 t7 h c df).trans e) hq
noncomputable def f65_S (o : Orc H) (t0 t1 : Value) (h : H) (c : Nat) : Option (Rt H) :=
 (bif (t0 : Value).cells.toList.all isFlat then
 (bif (t1 : Value).cells.toList.all isFlat then
 (ixA 4 1 (ptrTo (256 * c + 1)) (.int .i64 0)).bind fun t5 =>
 (ld1 (newB (newB (newB h (256 * c + 0) (t0 : Value).cells.toList) (256 * c + 1) (t1 : Value).cells.toList) (256 * c + 2) [(.int .i64 0), (.int .i64 0), (.int .i64 0), (.int .i64 0)]) t5).bind fun t6 =>
 (ixA 4 1 (ptrTo (256 * c + 0)) t6).bind fun t7 =>
 (ld1 (newB (newB (newB h (256 * c + 0) (t0 : Value).cells.toList) (256 * c + 1) (t1 : Value).cells.toList) (256 * c + 2) [(.int .i64 0), (.int .i64 0), (.int .i64 0), (.int .i64 0)]) t7).bind fun t8 =>
 (ixA 4 1 (ptrTo (256 * c + 1)) (.int .i64 1)).bind fun t9 =>
 (ld1 (newB (newB (newB h (256 * c + 0) (t0 : Value).cells.toList) (256 * c + 1) (t1 : Value).cells.toList) (256 * c + 2) [(.int .i64 0), (.int .i64 0), (.int .i64 0), (.int .i64 0)]) t9).bind fun t10 =>
 (ixA 4 1 (ptrTo (256 * c + 0)) t10).bind fun t11 =>
 (ld1 (newB (newB (newB h (256 * c + 0) (t0 : Value).cells.toList) (256 * c + 1) (t1 : Value).cells.toList) (256 * c + 2) [(.int .i64 0), (.int .i64 0), (.int .i64 0), (.int .i64 0)]) t11).bind fun t12 =>
 (ixA 4 1 (ptrTo (256 * c + 1)) (.int .i64 2)).bind fun t13 =>
 (ld1 (newB (newB (newB h (256 * c + 0) (t0 : Value).cells.toList) (256 * c + 1) (t1 : Value).cells.toList) (256 * c + 2) [(.int .i64 0), (.int .i64 0), (.int .i64 0), (.int .i64 0)]) t13).bind fun t14 =>
 (ixA 4 1 (ptrTo (256 * c + 0)) t14).bind fun t15 =>
 (ld1 (newB (newB (newB h (256 * c + 0) (t0 : Value).cells.toList) (256 * c + 1) (t1 : Value).cells.toList) (256 * c + 2) [(.int .i64 0), (.int .i64 0), (.int .i64 0), (.int .i64 0)]) t15).bind fun t16 =>
 (ixA 4 1 (ptrTo (256 * c + 1)) (.int .i64 3)).bind fun t17 =>
 (ld1 (newB (newB (newB h (256 * c + 0) (t0 : Value).cells.toList) (256 * c + 1) (t1 : Value).cells.toList) (256 * c + 2) [(.int .i64 0), (.int .i64 0), (.int .i64 0), (.int .i64 0)]) t17).bind fun t18 =>
 (ixA 4 1 (ptrTo (256 * c + 0)) t18).bind fun t19 =>
 (ld1 (newB (newB (newB h (256 * c + 0) (t0 : Value).cells.toList) (256 * c + 1) (t1 : Value).cells.toList) (256 * c + 2) [(.int .i64 0), (.int .i64 0), (.int .i64 0), (.int .i64 0)]) t19).bind fun t20 =>
 (bldV [(.int .i64 0), (.int .i64 0), (.int .i64 0), (.int .i64 0)] [(0, 1, t8), (1, 1, t12), (2, 1, t16), (3, 1, t20)]).bind fun t21 =>
 (stN (newB (newB (newB h (256 * c + 0) (t0 : Value).cells.toList) (256 * c + 1) (t1 : Value).cells.toList) (256 * c + 2) [(.int .i64 0), (.int .i64 0), (.int .i64 0), (.int .i64 0)]) 4 (ptrTo (256 * c + 2)) t21).bind fun h1 =>
 (ldN h1 4 (ptrTo (256 * c + 2))).bind fun v2 =>
 some { e := .ret, vs := [v2], h := h1, c := ((c + 1) + 1), df := [] }
 else none)
 else none)
theorem f65_S_eq (o : Orc H) (t0 t1 : Value) (h : H) (c : Nat) : jx P o 22 none f65_c (tmOf (List.range 2) [t0, t1]) h c [] (Kfn P Try.f65.results.toList) = f65_S o t0 t1 h c := by kernel_rfl
theorem f65_go {t0 t1 : Value} {h : FH} {c : Nat} {df : List Nat} {r : Rt FH} (e : f65_S G t0 t1 h c = some r) : G (.fn 65) [t0, t1] h c df = some (gcR h c [] r) := runG_fn (a := f65_f) bk_65 rfl (fun args h c => by cases args <;> rfl) rfl ((f65_S_eq G t0 t1 h c).trans e)
noncomputable def f66_L66000 (o : Orc H) (rd : Option Nat) (t2 t3 t6 t7 : Value) (h : H) (c : Nat) (df : List Nat) : Option (Rt H) :=
 (aBinOp P .lss 3 t7 (.int .i64 4)).bind fun t8 =>
 boolK t8
 ((ixV 4 false 1 t6 t7).bind fun t10 =>
 (ixA 4 1 t3 t10).bind fun t13 =>
 (stN h 1 t13 t7).bind fun h1 =>
 (aBinOp P .add 3 t7 (.int .i64 1)).bind fun t14 =>
 some { e := .normal, vs := [t2, t3, t6, t14], h := h1, c := ((((c + 1) + 1) + 1) + 1), df := df })
 (some { e := (.exit 0), vs := [t2, t3, t6, t7], h := h, c := (c + 1), df := df })
theorem f66_L66000_eq (o : Orc H) (rd : Option Nat) (t2 t3 t6 t7 : Value) (h : H) (c : Nat) (df : List Nat) : jx P o 16 rd f66_c66000 (tmOf [2, 3, 6, 7] [t2, t3, t6, t7]) h c df (Klp [2, 3, 6, 7]) = f66_L66000 o rd t2 t3 t6 t7 h c df := by kernel_rfl
noncomputable def f66_S (o : Orc H) (t0 : Value) (h : H) (c : Nat) : Option (Rt H) :=
 (bif (t0 : Value).cells.toList.all isFlat then
 (ldN (newB (newB (newB h (256 * c + 0) (t0 : Value).cells.toList) (256 * c + 1) [(.int .i64 0), (.int .i64 0), (.int .i64 0), (.int .i64 0)]) (256 * (c + 1) + 0) [(.int .i64 0), (.int .i64 0), (.int .i64 0), (.int .i64 0)]) 4 (ptrTo (256 * c + 0))).bind fun t6 =>
 (o (f66_k66000 none) [(ptrTo (256 * c + 1)), (ptrTo (256 * (c + 1) + 0)), t6, (.int .i64 0)] (newB (newB (newB h (256 * c + 0) (t0 : Value).cells.toList) (256 * c + 1) [(.int .i64 0), (.int .i64 0), (.int .i64 0), (.int .i64 0)]) (256 * (c + 1) + 0) [(.int .i64 0), (.int .i64 0), (.int .i64 0), (.int .i64 0)]) (((c + 1) + 1) + 1) []).bind fun r0 =>
 cond (exIs r0.e (.exit 0))
 ((ldN r0.h 4 (r0.v 1)).bind fun t15 =>
 (stN r0.h 4 (r0.v 0) t15).bind fun h2 =>
 (takeAll h2 r0.df).bind fun h3 =>
 (ldN h3 4 (r0.v 0)).bind fun v4 =>
 some { e := .ret, vs := [v4], h := h3, c := (r0.c + 1), df := [] })
 (none)
 else none)
theorem f66_S_eq (o : Orc H) (t0 : Value) (h : H) (c : Nat) : jx P o 16 none f66_c (tmOf (List.range 1) [t0]) h c [] (Kfn P Try.f66.results.toList) = f66_S o t0 h c := by kernel_rfl
theorem f66_go {t0 : Value} {h : FH} {c : Nat} {df : List Nat} {r : Rt FH} (e : f66_S G t0 h c = some r) : G (.fn 66) [t0] h c df = some (gcR h c [] r) := runG_fn (a := f66_f) bk_66 rfl (fun args h c => by cases args <;> rfl) rfl ((f66_S_eq G t0 h c).trans e)
theorem f66_N66000 {rd : Option Nat} {t2 t3 t6 t7 : Value} {h : FH} {c : Nat} {df : List Nat} {q r : Rt FH} (e : f66_L66000 G rd t2 t3 t6 t7 h c df = some q) (hq : q.e = .normal) (k : G (f66_k66000 rd) q.vs (gcR h c df q).h (gcR h c df q).c q.df = some r) : G (f66_k66000 rd) [t2, t3, t6, t7] h c df = some r := runG_lp_next ((f66_L66000_eq G rd t2 t3 t6 t7 h c df).trans e) hq k
theorem f66_Z66000 {rd : Option Nat} {t2 t3 t6 t7 : Value} {h : FH} {c : Nat} {df : List Nat} {q : Rt FH} (e : f66_L66000 G rd t2 t3 t6 t7 h c df = some q) (hq : q.e ≠ .normal) : G (f66_k66000 rd) [t2, t3, t6, t7] h c df = some (gcR h c df q) := runG_lp_last ((f66_L66000_eq G rd t2 t3 t6 t7 h c df).trans e) hq
end Go.Proofs.Ytemkjcpfgmbibaa.Base

namespace Go.Proofs.Ytemkjcpfgmbibaa.Base
open Go Go.Ab Go.Proofs
set_option maxRecDepth 100000
set_option linter.unusedVariables false
set_option linter.unusedSimpArgs false


theorem aBinOp_or (t : TypeId) (a b : Int) : aBinOp P .or t (.int .i64 a) (.int .i64 b) = some (.int .i64 (orB a b)) := by rw [aBinOp_eq]; simp [aBinOp0, intBin, orB]; rfl
theorem aBinOp_shl1 (t : TypeId) (x : Int) (h : 0 ≤ x) : aBinOp P .shl t (.int .i64 1) (.int .i64 x) = some (.int .i64 (shB x)) := by
  rw [aBinOp_eq]
  have : ¬ x < 0 := by omega
  simp [aBinOp0, shiftBin, shB, this]; rfl

theorem valid_loop (p : List Int) (hp : p.length = 4) (h : FH) (c : Nat) (df : List Nat) : ∀ (k i : Nat) (m : Int), i + k = 4 →
    Ans (G (f60_k60000 none) [.bool false, .int .i64 m, av p, .int .i64 i] h c df) fun r => r.h = h ∧ r.c = c ∧ r.df = df ∧
      (match validL (p.drop i) m with
        | some m' => r.e = .exit 0 ∧ r.v 1 = .int .i64 m'
        | none => r.e = .ret ∧ r.v 0 = .bool false) := by
  intro k
  induction k with
  | zero =>
    intro i m hi
    obtain rfl : i = 4 := by omega
    rw [List.drop_of_length_le (by omega)]
    have e1 : ¬ ((4 : Nat) : Int) < 4 := by omega
    refine .intro (f60_Z60000 (q := ⟨.exit 0, [.bool false, .int .i64 m, av p, .int .i64 (4 : Nat)], h, c + 1, df⟩) (by unfold f60_L60000; simp [e1]) (by simp)) ?_
    rw [gcR_same (by simp)]
    simp [validL]
  | succ k ih =>
    intro i m hi
    have hlt : i < p.length := by omega
    have e0 : (i : Int) < 4 := by omega
    rw [List.drop_eq_getElem_cons hlt]
    have hx : p.getD i 0 = p[i] := by simp [List.getD, List.getElem?_eq_getElem hlt]
    by_cases hc : p[i] < 0 ∨ 3 < p[i]
    · simp only [validL, hc, if_true]
      refine .intro (f60_Z60000 (q := ⟨.ret, [.bool false, .int .i64 m, av p, .int .i64 i], h, _, df⟩) (by
        unfold f60_L60000
        by_cases h1 : p[i] < 0
        · simp (disch := omega) [e0, ixV_av, hx, h1, -List.getD_eq_getElem?_getD]; rfl
        · have h2 : 3 < p[i] := by omega
          simp (disch := omega) [e0, ixV_av, hx, h1, h2, -List.getD_eq_getElem?_getD] <;> rfl) (by simp)) ?_
      rw [gcR_same (by simp)]
      simp
    · have h1 : ¬ p[i] < 0 := by omega
      have h2 : ¬ 3 < p[i] := by omega
      simp only [validL, hc, if_false]
      obtain ⟨r, hr, hq⟩ := ih (i + 1) (orB m (shB p[i])) (by omega)
      refine .intro (f60_N60000 (q := ⟨.normal, [.bool false, .int .i64 (orB m (shB p[i])), av p, .int .i64 (i + 1 : Nat)], h, c + 1 + 1 + 1 + 1 + 1, df⟩) (by
        unfold f60_L60000
        simp (disch := omega) [e0, ixV_av, hx, h1, h2, aBinOp_shl1 _ p[i] (by omega), aBinOp_or, -List.getD_eq_getElem?_getD]) rfl ?_) hq
      rw [gcR_same (by simp)]
      exact hr

theorem valid_sp (p : List Int) (hp : p.length = 4) (h : FH) (c : Nat) (df : List Nat) :
    G (.fn 60) [av p] h c df = some { e := .ret, vs := [.bool (validB p)], h := h, c := c, df := [] } := by
  refine pure_of (fun r e => f60_go e) (by simp) ?_
  obtain ⟨⟨re, rv, rh, rc, rd⟩, hr, h1, h2, h3, h4⟩ := valid_loop p hp (newB h (256 * c) (ints p)) (c + 1 + 1 + 1) [] 4 0 0 rfl
  simp only at h1 h2 h3
  subst h1 h2 h3
  unfold f60_S
  simp only [List.drop_zero] at h4
  have e1 : p.take 4 = p := List.take_of_length_le (by omega)
  simp only [Int.ofNat_eq_natCast, Int.cast_ofNat_Int] at hr
  unfold validB
  cases hv : validL p 0 with
  | none =>
    rw [hv] at h4
    obtain ⟨rfl, h5⟩ := h4
    simp [hr, e1, hp, h5]
  | some m =>
    rw [hv] at h4
    obtain ⟨rfl, h5⟩ := h4
    simp [hr, e1, hp, h5]

theorem inverse_loop (p : List Int) (hp : p.length = 4) (hr : InR p) (h : FH) (b1 b3 c : Nat) (hb1 : b1 < 256 * c) (hb : b3 < 256 * c) (df : List Nat) : ∀ (k i : Nat) (out : List Int), i + k = 4 → out.length = 4 →
    G (f66_k66000 none) [ptrTo b1, ptrTo b3, av p, .int .i64 i] (newB h b3 (ints out)) c df =
      some { e := .exit 0, vs := [ptrTo b1, ptrTo b3, av p, .int .i64 4], h := newB h b3 (ints (invL (p.drop i) i out)), c := c, df := df } := by
  intro k
  induction k with
  | zero =>
    intro i out hi ho
    obtain rfl : i = 4 := by omega
    rw [List.drop_of_length_le (by omega)]
    refine (f66_Z66000 (q := ⟨.exit 0, [ptrTo b1, ptrTo b3, av p, .int .i64 4], newB h b3 (ints out), c + 1, df⟩) (by unfold f66_L66000; simp) (by simp)).trans ?_
    rw [gcR_same (by simp [hb1, hb])]
    rfl
  | succ k ih =>
    intro i out hi ho
    have hlt : i < p.length := by omega
    have e0 : (i : Int) < 4 := by omega
    rw [List.drop_eq_getElem_cons hlt]
    have hx : p.getD i 0 = p[i] := by simp [List.getD, List.getElem?_eq_getElem hlt]
    have hxr := hr p[i] (List.getElem_mem hlt)
    refine f66_N66000 (q := ⟨.normal, [ptrTo b1, ptrTo b3, av p, .int .i64 (i + 1 : Nat)], newB h b3 (ints (out.set p[i].toNat i)), c + 1 + 1 + 1 + 1, df⟩) ?_ rfl ?_
    · unfold f66_L66000
      simp (disch := (first | omega | (simp <;> omega) | fail)) [e0, ixV_av, hx, hxr, ho, -List.getD_eq_getElem?_getD]
    · rw [gcR_upd hb (by simp [hb1, hb]) (by simp)]
      exact ih (i + 1) _ (by omega) (by simpa using ho)

theorem inverse_sp (p : List Int) (hp : p.length = 4) (hr : InR p) (h : FH) (c : Nat) (df : List Nat) :
    G (.fn 66) [av p] h c df = some { e := .ret, vs := [av (inv p)], h := h, c := c, df := [] } := by
  refine pure_of (fun r e => f66_go e) (by simp) ?_
  have e1 : p.take 4 = p := List.take_of_length_le (by omega)
  have hl := inverse_loop p hp hr (newB (newB h (256 * c) (ints p)) (256 * c + 1) (ints [0, 0, 0, 0])) (256 * c + 1) (256 * (c + 1)) (c + 1 + 1 + 1) (by omega) (by omega) [] 4 0 [0, 0, 0, 0] rfl rfl
  have hl2 : (invL p 0 [0, 0, 0, 0]).length = 4 := invL_length p 0 [0, 0, 0, 0]
  have e2 : (invL p 0 [0, 0, 0, 0]).take 4 = invL p 0 [0, 0, 0, 0] := List.take_of_length_le (by omega)
  unfold f66_S
  simp only [ints_cons, ints_nil, Int.ofNat_eq_natCast, Int.cast_ofNat_Int, List.drop_zero] at hl
  simp (disch := (first | omega | (simp <;> omega) | fail)) [hl, e1, e2, hp, hl2, inv]

theorem compose_sp (p q : List Int) (hp : p.length = 4) (hq : q.length = 4) (hr : InR q) (h : FH) (c : Nat) (df : List Nat) :
    G (.fn 65) [av p, av q] h c df = some { e := .ret, vs := [av (comp p q)], h := h, c := c, df := [] } := by
  refine pure_of (fun r e => f65_go e) (by simp) ?_
  have g : ∀ i, i < 4 → 0 ≤ q.getD i 0 ∧ q.getD i 0 < 4 := fun i hi => by
    have : i < q.length := by omega
    have := hr q[i] (List.getElem_mem this)
    simpa [List.getD, List.getElem?_eq_getElem (by omega : i < q.length)] using this
  have g0 := g 0 (by omega)
  have g1 := g 1 (by omega)
  have g2 := g 2 (by omega)
  have g3 := g 3 (by omega)
  have e1 : comp p q = [p.getD (q.getD 0 0).toNat 0, p.getD (q.getD 1 0).toNat 0, p.getD (q.getD 2 0).toNat 0, p.getD (q.getD 3 0).toNat 0] := by
    match q, hq with
    | [a, b, d, e], _ => rfl
  rw [e1]
  unfold f65_S
  simp (disch := (first | omega | (simp <;> omega) | fail)) [hp, hq, ld1_ints, bld4, g0, g1, g2, g3, -List.getD_eq_getElem?_getD, -ld1_newB_same]
end Go.Proofs.Ytemkjcpfgmbibaa.Base

namespace Go.Proofs.Ytemkjcpfgmbibaa.Base
open Go Go.Ab Go.Proofs
set_option maxRecDepth 100000
set_option linter.unusedVariables false
set_option linter.unusedSimpArgs false

theorem ext_none : FnOK P ext := by
  intro f args A c r e
  unfold ext at e
  cases args with
  | cons x xs => cases e
  | nil => cases e

noncomputable def h0 : FH := ⟨fun _ => none⟩

noncomputable def purX (f : FuncId) (args : List Value) : Option Value :=
  cond (Nat.beq f 60) (match args with | [v] => fastValid v | _ => none)
   (cond (Nat.beq f 66) (match args with | [v] => fastInv v | _ => none)
    (cond (Nat.beq f 65) (match args with | [v, w] => fastComp v w | _ => none) none))
noncomputable def extP {H : Type} [HeapC H] : Fo H := fun f args h c => (purX f args).bind fun v => some { e := .ret, vs := [v], h := h, c := c, df := [] }

theorem extP_ok {H : Type} [HeapC H] : FnOKX P (extP (H := H)) := by
  intro f args A c r e
  simp only [extP, Option.bind_eq_some_iff] at e
  obtain ⟨v, e, hr⟩ := e
  cases hr
  unfold purX at e
  cases h1 : Nat.beq f 60 with
  | true =>
    rw [h1] at e
    obtain rfl := Nat.eq_of_beq_eq_true h1
    simp only [cond_true] at e
    split at e
    · obtain ⟨a, b, cc, d, hv, ha, hb, hc, hd, hr⟩ := fastValid_some e
      subst hv hr
      refine ⟨fun vs w => run_callFunc Try.func60 (by kernel_rfl) rfl vs w, fun μ w args' ha' hR hf => ?_⟩
      exact plain_ok (A0 := h0) (args0 := []) rfl (fun μ args' h => av_vrs1 h) (fun μ μ' v' h => bool_vr h) (fun μ w args' ha hR hf => runG_calls bk_ok ext_none mixed ((valid_sp _ rfl h0 0 []).trans (by rw [validB_eq ‹a < 4› hb hc hd])) ha hR hf) A c μ w args' ha' hR hf
    · cases e
  | false =>
    rw [h1] at e
    cases h2 : Nat.beq f 66 with
    | true =>
      rw [h2] at e
      obtain rfl := Nat.eq_of_beq_eq_true h2
      simp only [cond_true, cond_false] at e
      split at e
      · obtain ⟨a, b, cc, d, l, hv, g1, g2, g3, g4, hl, hr⟩ := fastInv_some e
        subst hv hr
        have hin := inR4 g1 g2 g3 g4
        have hinv := inv_eq g1 g2 g3 g4 hl
        refine ⟨fun vs w => run_callFunc Try.func66 (by kernel_rfl) rfl vs w, fun μ w args' ha' hR hf => ?_⟩
        exact plain_ok (A0 := h0) (args0 := []) rfl (fun μ args' h => av_vrs1 h) (fun μ μ' v' h => av_vr h) (fun μ w args' ha hR hf => runG_calls bk_ok ext_none mixed ((inverse_sp _ rfl hin h0 0 []).trans (by rw [hinv])) ha hR hf) A c μ w args' ha' hR hf
      · cases e
    | false =>
      rw [h2] at e
      cases h3 : Nat.beq f 65 with
      | true =>
        rw [h3] at e
        obtain rfl := Nat.eq_of_beq_eq_true h3
        simp only [cond_true, cond_false] at e
        split at e
        · obtain ⟨a, b, cc, d, x, y, z, u, hv, hw, g1, g2, g3, g4, hr⟩ := fastComp_some e
          subst hv hw hr
          have hin := inR4 g1 g2 g3 g4
          refine ⟨fun vs w => run_callFunc Try.func65 (by kernel_rfl) rfl vs w, fun μ w args' ha' hR hf => ?_⟩
          exact plain_ok (A0 := h0) (args0 := []) rfl (fun μ args' h => av_vrs2 h) (fun μ μ' v' h => av_vr h) (fun μ w args' ha hR hf => runG_calls bk_ok ext_none mixed (compose_sp _ _ rfl rfl hin h0 0 []) ha hR hf) A c μ w args' ha' hR hf
        · cases e
      | false => rw [h3] at e; cases e
end Go.Proofs.Ytemkjcpfgmbibaa.Base

/-! A heap that computes. -/
namespace Go.Ab
open Go
set_option linter.unusedVariables false

inductive Tri where
  | leaf
  | node (b : Option ABlk) (l r : Tri)

def Tri.get : Tri → Nat → Option ABlk
  | .leaf, _ => none
  | .node b l r, i => cond (Nat.beq i 0) b (cond (Nat.beq (i % 2) 1) (l.get (i / 2)) (r.get (i / 2 - 1)))

def Tri.upd : Nat → Tri → Nat → Option ABlk → Tri
  | 0, t, _, o => match t with
    | .leaf => .node o .leaf .leaf
    | .node _ l r => .node o l r
  | n + 1, t, i, o => match t with
    | .leaf => cond (Nat.beq i 0) (.node o .leaf .leaf) (cond (Nat.beq (i % 2) 1) (.node none (Tri.upd n .leaf (i / 2) o) .leaf) (.node none .leaf (Tri.upd n .leaf (i / 2 - 1) o)))
    | .node b l r => cond (Nat.beq i 0) (.node o l r) (cond (Nat.beq (i % 2) 1) (.node b (Tri.upd n l (i / 2) o) r) (.node b l (Tri.upd n r (i / 2 - 1) o)))

theorem Tri.get_upd : ∀ (n : Nat) (t : Tri) (i : Nat) (o : Option ABlk) (j : Nat), i ≤ n → (Tri.upd n t i o).get j = if j = i then o else t.get j := by
  have key : ∀ (b : Option ABlk) (l r : Tri) (i : Nat), (Tri.node b l r).get i = if i = 0 then b else if i % 2 = 1 then l.get (i / 2) else r.get (i / 2 - 1) := by
    intro b l r i
    simp only [Tri.get]
    by_cases h0 : i = 0
    · subst h0; rfl
    · have : Nat.beq i 0 = false := by rw [Bool.eq_false_iff]; intro h; exact h0 (Nat.eq_of_beq_eq_true h)
      rw [this]
      simp only [h0, if_false, cond_false]
      by_cases h1 : i % 2 = 1
      · simp [h1]
      · have : Nat.beq (i % 2) 1 = false := by rw [Bool.eq_false_iff]; intro h; exact h1 (Nat.eq_of_beq_eq_true h)
        simp [h1, this]
  have leafg : ∀ j, Tri.leaf.get j = none := fun _ => rfl
  intro n
  induction n with
  | zero =>
    intro t i o j hi
    have : i = 0 := by omega
    subst this
    cases t with
    | leaf =>
      simp only [Tri.upd, key, leafg]
      split <;> simp
    | node b l r =>
      simp only [Tri.upd, key]
      by_cases h : j = 0 <;> simp [h]
  | succ n ih =>
    intro t i o j hi
    by_cases h0 : i = 0
    · subst h0
      cases t with
      | leaf =>
        simp only [Tri.upd, Nat.beq_refl, cond_true, key, leafg]
        split <;> simp
      | node b l r =>
        simp only [Tri.upd, Nat.beq_refl, cond_true, key]
        by_cases h : j = 0 <;> simp [h]
    · have hb0 : Nat.beq i 0 = false := by rw [Bool.eq_false_iff]; intro h; exact h0 (Nat.eq_of_beq_eq_true h)
      by_cases h1 : i % 2 = 1
      · have hb1 : Nat.beq (i % 2) 1 = true := by rw [h1]; rfl
        cases t with
        | leaf =>
          simp only [Tri.upd, hb0, hb1, cond_true, cond_false, key, leafg]
          by_cases hj : j = 0
          · subst hj; simp [Ne.symm h0]
          · simp only [hj, if_false]
            by_cases hj1 : j % 2 = 1
            · simp only [hj1, if_true]
              rw [ih _ _ _ _ (by omega), leafg]
              by_cases e : j = i
              · simp [e]
              · rw [if_neg e, if_neg (by omega)]
            · rw [if_neg hj1, if_neg (by omega)]
        | node b l r =>
          simp only [Tri.upd, hb0, hb1, cond_true, cond_false, key]
          by_cases hj : j = 0
          · subst hj; simp [Ne.symm h0]
          · simp only [hj, if_false]
            by_cases hj1 : j % 2 = 1
            · simp only [hj1, if_true]
              rw [ih _ _ _ _ (by omega)]
              by_cases e : j = i
              · simp [e]
              · rw [if_neg e, if_neg (by omega)]
            · rw [if_neg hj1, if_neg (show ¬ j = i by omega), if_neg hj1]
      · have hb1 : Nat.beq (i % 2) 1 = false := by rw [Bool.eq_false_iff]; intro h; exact h1 (Nat.eq_of_beq_eq_true h)
        cases t with
        | leaf =>
          simp only [Tri.upd, hb0, hb1, cond_true, cond_false, key, leafg]
          by_cases hj : j = 0
          · subst hj; simp [Ne.symm h0]
          · simp only [hj, if_false]
            by_cases hj1 : j % 2 = 1
            · rw [if_pos hj1, if_neg (by omega)]
            · rw [if_neg hj1, ih _ _ _ _ (by omega), leafg]
              by_cases e : j = i
              · simp [e]
              · rw [if_neg e, if_neg (by omega)]
        | node b l r =>
          simp only [Tri.upd, hb0, hb1, cond_true, cond_false, key]
          by_cases hj : j = 0
          · subst hj; simp [Ne.symm h0]
          · simp only [hj, if_false]
            by_cases hj1 : j % 2 = 1
            · rw [if_pos hj1, if_neg (show ¬ j = i by omega), if_pos hj1]
            · rw [if_neg hj1, ih _ _ _ _ (by omega)]
              by_cases e : j = i
              · simp [e]
              · rw [if_neg e, if_neg (by omega), if_neg hj1]

/-- Equality of values, as far as it is cheap. -/
def addrEq : Option Addr → Option Addr → Bool
  | none, none => true
  | some ⟨a, b, none⟩, some ⟨c, d, none⟩ => Nat.beq a c && Nat.beq b d
  | _, _ => false
def valEq : Value → Value → Bool
  | .bool a, .bool b => a == b
  | .int k n, .int k' n' => decide (k = k') && n == n'
  | .pointer a, .pointer b => addrEq a b
  | .slice a l c, .slice b l' c' => addrEq a b && Nat.beq l l' && Nat.beq c c'
  | .map (some a), .map (some b) => Nat.beq a b
  | .map none, .map none => true
  | .nilFunc, .nilFunc => true
  | .nilIface, .nilIface => true
  | _, _ => false
def valsEq : List Value → List Value → Bool
  | [], [] => true
  | x :: xs, y :: ys => valEq x y && valsEq xs ys
  | _, _ => false
def optNatEq : Option Nat → Option Nat → Bool
  | none, none => true
  | some a, some b => Nat.beq a b
  | _, _ => false
def blkEq : Option ABlk → Option ABlk → Bool
  | none, none => true
  | some (.cells ro o c), some (.cells ro' o' c') => ro == ro' && optNatEq o o' && valsEq c c'
  | some .dead, some .dead => true
  | some .dfr, some .dfr => true
  | _, _ => false

theorem addrEq_eq {a b : Option Addr} (h : addrEq a b = true) : a = b := by
  unfold addrEq at h
  split at h
  · rfl
  · simp only [Bool.and_eq_true] at h
    rw [Nat.eq_of_beq_eq_true h.1, Nat.eq_of_beq_eq_true h.2]
  · cases h
theorem valEq_eq {a b : Value} (h : valEq a b = true) : a = b := by
  unfold valEq at h
  split at h
  · simp at h; rw [h]
  · simp at h; rw [h.1, h.2]
  · rw [addrEq_eq h]
  · simp only [Bool.and_eq_true] at h
    rw [addrEq_eq h.1.1, Nat.eq_of_beq_eq_true h.1.2, Nat.eq_of_beq_eq_true h.2]
  · rw [Nat.eq_of_beq_eq_true h]
  · rfl
  · rfl
  · rfl
  · cases h
theorem valsEq_eq : ∀ {a b : List Value}, valsEq a b = true → a = b
  | [], [], _ => rfl
  | x :: xs, y :: ys, h => by
    simp only [valsEq, Bool.and_eq_true] at h
    rw [valEq_eq h.1, valsEq_eq h.2]
  | [], y :: ys, h => by cases h
  | x :: xs, [], h => by cases h
theorem optNatEq_eq {a b : Option Nat} (h : optNatEq a b = true) : a = b := by
  unfold optNatEq at h
  split at h
  · rfl
  · rw [Nat.eq_of_beq_eq_true h]
  · cases h
theorem blkEq_eq (a b : Option ABlk) (h : blkEq a b = true) : a = b := by
  unfold blkEq at h
  split at h
  · rfl
  · simp only [Bool.and_eq_true] at h
    have h1 := h.1.1
    rw [optNatEq_eq h.1.2, valsEq_eq h.2]
    simp at h1
    rw [h1]
  · rfl
  · rfl
  · cases h

instance : HeapC Tri where
  get h i := h.get i
  set h i b := Tri.upd i h i (some b)
  del h i := Tri.upd i h i none
  eqB := blkEq
  eqB_eq := blkEq_eq
  get_set h i b j := Tri.get_upd i h i (some b) j (Nat.le_refl _)
  get_del h i j := Tri.get_upd i h i none j (Nat.le_refl _)

end Go.Ab

/-! A heap for evaluation in the kernel: the blocks touched last in a short list, the others in a tree. -/
namespace Go.Ab
open Go
set_option linter.unusedVariables false

noncomputable def tget (t : Tri) : Nat → Option ABlk :=
  Tri.rec (motive := fun _ => Nat → Option ABlk) (fun _ => none)
    (fun b _ _ l r i => cond (Nat.beq i 0) b (cond (Nat.beq (Nat.mod i 2) 1) (l (Nat.div i 2)) (r (Nat.sub (Nat.div i 2) 1)))) t

theorem tget_eq : ∀ (t : Tri) (i : Nat), tget t i = t.get i
  | .leaf, i => rfl
  | .node b l r, i => by
    show cond (Nat.beq i 0) b (cond (Nat.beq (Nat.mod i 2) 1) (tget l (Nat.div i 2)) (tget r (Nat.sub (Nat.div i 2) 1))) = _
    rw [tget_eq l, tget_eq r]
    rfl

noncomputable def tupd (o : Option ABlk) (n : Nat) : Tri → Nat → Tri :=
  Nat.rec (motive := fun _ => Tri → Nat → Tri)
    (fun t _ => Tri.rec (motive := fun _ => Tri) (.node o .leaf .leaf) (fun _ l r _ _ => .node o l r) t)
    (fun _ ih t i => Tri.rec (motive := fun _ => Tri)
      (cond (Nat.beq i 0) (.node o .leaf .leaf) (cond (Nat.beq (Nat.mod i 2) 1) (.node none (ih .leaf (Nat.div i 2)) .leaf) (.node none .leaf (ih .leaf (Nat.sub (Nat.div i 2) 1)))))
      (fun b l r _ _ => cond (Nat.beq i 0) (.node o l r) (cond (Nat.beq (Nat.mod i 2) 1) (.node b (ih l (Nat.div i 2)) r) (.node b l (ih r (Nat.sub (Nat.div i 2) 1))))) t) n

theorem tupd_eq (o : Option ABlk) : ∀ (n : Nat) (t : Tri) (i : Nat), tupd o n t i = Tri.upd n t i o
  | 0, .leaf, i => rfl
  | 0, .node b l r, i => rfl
  | n + 1, .leaf, i => by
    show (cond (Nat.beq i 0) (Tri.node o .leaf .leaf) (cond (Nat.beq (Nat.mod i 2) 1) (Tri.node none (tupd o n .leaf (Nat.div i 2)) .leaf) (Tri.node none .leaf (tupd o n .leaf (Nat.sub (Nat.div i 2) 1))))) = _
    rw [tupd_eq o n, tupd_eq o n]; rfl
  | n + 1, .node b l r, i => by
    show (cond (Nat.beq i 0) (Tri.node o l r) (cond (Nat.beq (Nat.mod i 2) 1) (Tri.node b (tupd o n l (Nat.div i 2)) r) (Tri.node b l (tupd o n r (Nat.sub (Nat.div i 2) 1))))) = _
    rw [tupd_eq o n, tupd_eq o n]; rfl

theorem tget_tupd (t : Tri) (i : Nat) (o : Option ABlk) (j : Nat) : tget (tupd o i t i) j = if j = i then o else tget t j := by
  rw [tget_eq, tget_eq, tupd_eq]
  exact Tri.get_upd i t i o j (Nat.le_refl _)

abbrev RC := List (Nat × Option ABlk)

noncomputable def findA (i : Nat) (rc : RC) : Option (Option ABlk) :=
  List.rec (motive := fun _ => Option (Option ABlk)) none (fun x _ ih => cond (Nat.beq i x.1) (some x.2) ih) rc
noncomputable def replA (i : Nat) (o : Option ABlk) (rc : RC) : RC :=
  List.rec (motive := fun _ => RC) [] (fun x xs ih => cond (Nat.beq i x.1) ((x.1, o) :: xs) (x :: ih)) rc
noncomputable def flushA (rc : RC) (t : Tri) : Tri :=
  List.rec (motive := fun _ => Tri) t (fun x _ ih => tupd x.2 x.1 ih x.1) rc

theorem findA_cons (i : Nat) (x : Nat × Option ABlk) (xs : RC) : findA i (x :: xs) = if i = x.1 then some x.2 else findA i xs := by
  show cond (Nat.beq i x.1) (some x.2) (findA i xs) = _
  cases h : Nat.beq i x.1 with
  | true => rw [if_pos (Nat.eq_of_beq_eq_true h)]; rfl
  | false => rw [if_neg (fun e => by rw [e, Nat.beq_refl] at h; cases h)]; rfl

theorem replA_cons (i : Nat) (o : Option ABlk) (x : Nat × Option ABlk) (xs : RC) : replA i o (x :: xs) = if i = x.1 then (x.1, o) :: xs else x :: replA i o xs := by
  show cond (Nat.beq i x.1) ((x.1, o) :: xs) (x :: replA i o xs) = _
  cases h : Nat.beq i x.1 with
  | true => rw [if_pos (Nat.eq_of_beq_eq_true h)]; rfl
  | false => rw [if_neg (fun e => by rw [e, Nat.beq_refl] at h; cases h)]; rfl

theorem findA_replA (i : Nat) (o : Option ABlk) (j : Nat) : ∀ (rc : RC), findA i rc ≠ none → findA j (replA i o rc) = if j = i then some o else findA j rc
  | [], h => absurd rfl h
  | x :: xs, h => by
    rw [findA_cons] at h
    rw [replA_cons]
    by_cases e : i = x.1
    · rw [if_pos e, findA_cons, findA_cons]
      by_cases e2 : j = x.1
      · rw [if_pos e2, if_pos (e2.trans e.symm)]
      · rw [if_neg e2, if_neg (fun h => e2 (h.trans e)), if_neg e2]
    · rw [if_neg e] at h ⊢
      rw [findA_cons, findA_cons, findA_replA i o j xs h]
      by_cases e2 : j = x.1
      · rw [if_pos e2, if_pos e2, if_neg (fun h => e (h.symm.trans e2))]
      · rw [if_neg e2, if_neg e2]

theorem get_flushA (j : Nat) (t : Tri) : ∀ (rc : RC), tget (flushA rc t) j = (match findA j rc with | some o => o | none => tget t j)
  | [] => rfl
  | x :: xs => by
    show tget (tupd x.2 x.1 (flushA xs t) x.1) j = _
    rw [tget_tupd, findA_cons]
    by_cases e : j = x.1
    · rw [if_pos e, if_pos e]
    · rw [if_neg e, if_neg e, get_flushA j t xs]

structure TH where
  rc : RC
  n : Nat
  old : Tri

noncomputable def TH.put (h : TH) (i : Nat) (o : Option ABlk) : TH :=
  match findA i h.rc with
  | some _ => { rc := replA i o h.rc, n := h.n, old := h.old }
  | none => cond (Nat.blt h.n 24) { rc := (i, o) :: h.rc, n := Nat.add h.n 1, old := h.old } { rc := [(i, o)], n := 1, old := flushA h.rc h.old }

noncomputable def TH.look (h : TH) (i : Nat) : Option ABlk :=
  match findA i h.rc with
  | some o => o
  | none => tget h.old i

theorem TH.look_put (h : TH) (i : Nat) (o : Option ABlk) (j : Nat) : (h.put i o).look j = if j = i then o else h.look j := by
  unfold TH.put TH.look
  cases e : findA i h.rc with
  | some x =>
    dsimp only
    rw [findA_replA i o j h.rc (by rw [e]; simp)]
    by_cases e2 : j = i
    · rw [if_pos e2, if_pos e2]
    · rw [if_neg e2, if_neg e2]
  | none =>
    dsimp only
    cases Nat.blt h.n 24 with
    | true =>
      dsimp only [cond_true]
      rw [findA_cons]
      by_cases e2 : j = i
      · rw [if_pos e2, if_pos e2]
      · rw [if_neg e2, if_neg e2]
    | false =>
      dsimp only [cond_false]
      rw [findA_cons]
      by_cases e2 : j = i
      · rw [if_pos e2, if_pos e2]
      · rw [if_neg e2, if_neg e2]
        exact get_flushA j h.old h.rc

noncomputable instance : HeapC TH where
  get h i := h.look i
  set h i b := h.put i (some b)
  del h i := h.put i none
  eqB := blkEq
  eqB_eq := blkEq_eq
  get_set h i b j := TH.look_put h i (some b) j
  get_del h i j := TH.look_put h i none j

noncomputable def TH.empty : TH := { rc := [], n := 0, old := .leaf }
theorem TH.inv_empty (h : TH) (e : h = TH.empty) (i : Nat) : HeapC.get h i = none := by subst e; rfl

end Go.Ab
