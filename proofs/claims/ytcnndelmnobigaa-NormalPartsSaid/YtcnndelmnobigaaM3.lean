/- Parts of a proof: S2 S3 S4 S5 S6 E. Conditions: none. -/
import Derived.Test.YtcnndelmnobigaaM2
set_option linter.all false
namespace Go.Proofs.Ytcnndelmnobigaa
open Go Go.Ab Go.Proofs
set_option maxRecDepth 100000
set_option linter.unusedVariables false
variable {H : Type} [HeapC H]
noncomputable def f23_L23001 (o : Orc H) (rd : Option Nat) (t1 t4 t5 t8 t11 t12 t33 t34 t35 t53 t54 : Value) (h : H) (c : Nat) (df : List Nat) : Option (Rt H) :=
 (aBinOp P .lss 3 t54 t53).bind fun t55 =>
 boolK t55
 ((aNilCheck t8).bind fun t58 =>
 (addOff t58 0).bind fun t59 =>
 (callF o 46 [t59, t54] h (((c + 1) + 1) + 1)).bind fun r0 =>
 (aBinOp P .eql 3 r0.1 t11).bind fun t63 =>
 (boolK t63
   ((aBinOp P .quo 3 t54 (.int .i64 4)).bind fun t67 =>
   (aBinOp P .mul 3 t67 (.int .i64 7)).bind fun t68 =>
   (aBinOp P .rem 3 t54 (.int .i64 4)).bind fun t70 =>
   (aBinOp P .add 3 t68 t70).bind fun t71 =>
   (ixS 1 t1 t71).bind fun t72 =>
   (ld1 r0.2.1 t72).bind fun t73 =>
   (foldV min2 [t12, t73]).bind fun t74 =>
   some { e := .normal, vs := [t1, t4, t5, t8, t11, t74, t33, t34, t35, t53, t54], h := r0.2.1, c := (r0.2.2 + 1), df := df })
   (some { e := .normal, vs := [t1, t4, t5, t8, t11, t12, t33, t34, t35, t53, t54], h := r0.2.1, c := r0.2.2, df := df }) : Option (Rt H)).bind fun r2 =>
 cond (exIs r2.e .normal)
  ((aBinOp P .add 3 (r2.v 10) (.int .i64 1)).bind fun t75 =>
  some { e := .normal, vs := [(r2.v 0), (r2.v 1), (r2.v 2), (r2.v 3), (r2.v 4), (r2.v 5), (r2.v 6), (r2.v 7), (r2.v 8), (r2.v 9), t75], h := r2.h, c := (r2.c + 1), df := r2.df })
  (none))
 (some { e := (.exit 2), vs := [t1, t4, t5, t8, t11, t12, t33, t34, t35, t53, t54], h := h, c := (c + 1), df := df })
theorem f23_L23001_eq (o : Orc H) (rd : Option Nat) (t1 t4 t5 t8 t11 t12 t33 t34 t35 t53 t54 : Value) (h : H) (c : Nat) (df : List Nat) : jx P o 112 rd f23_c23001 (tmOf [1, 4, 5, 8, 11, 12, 33, 34, 35, 53, 54] [t1, t4, t5, t8, t11, t12, t33, t34, t35, t53, t54]) h c df (Klp [1, 4, 5, 8, 11, 12, 33, 34, 35, 53, 54]) = f23_L23001 o rd t1 t4 t5 t8 t11 t12 t33 t34 t35 t53 t54 h c df := by kernel_rfl
noncomputable def f23_L23002 (o : Orc H) (rd : Option Nat) (t1 t4 t5 t8 t11 t12 t33 t34 t35 t81 t82 : Value) (h : H) (c : Nat) (df : List Nat) : Option (Rt H) :=
 (aBinOp P .lss 3 t82 t81).bind fun t83 =>
 boolK t83
 ((aNilCheck t8).bind fun t86 =>
 (addOff t86 0).bind fun t87 =>
 (callF o 46 [t87, t82] h (((c + 1) + 1) + 1)).bind fun r0 =>
 (aBinOp P .eql 3 r0.1 t11).bind fun t91 =>
 (boolK t91
   ((aBinOp P .quo 3 t82 (.int .i64 4)).bind fun t94 =>
   (aBinOp P .mul 3 t94 (.int .i64 7)).bind fun t95 =>
   (aBinOp P .rem 3 t82 (.int .i64 4)).bind fun t97 =>
   (aBinOp P .add 3 t95 t97).bind fun t98 =>
   (ixS 1 t5 t98).bind fun t99 =>
   (ld1 r0.2.1 t99).bind fun t100 =>
   (aBinOp P .sub 3 t100 t12).bind fun t102 =>
   (ixS 1 t5 t98).bind fun t103 =>
   (stN r0.2.1 1 t103 t102).bind fun h2 =>
   some { e := .normal, vs := [t1, t4, t5, t8, t11, t12, t33, t34, t35, t81, t82], h := h2, c := (r0.2.2 + 1), df := df })
   (some { e := .normal, vs := [t1, t4, t5, t8, t11, t12, t33, t34, t35, t81, t82], h := r0.2.1, c := r0.2.2, df := df }) : Option (Rt H)).bind fun r3 =>
 cond (exIs r3.e .normal)
  ((aBinOp P .add 3 (r3.v 10) (.int .i64 1)).bind fun t104 =>
  some { e := .normal, vs := [(r3.v 0), (r3.v 1), (r3.v 2), (r3.v 3), (r3.v 4), (r3.v 5), (r3.v 6), (r3.v 7), (r3.v 8), (r3.v 9), t104], h := r3.h, c := (r3.c + 1), df := r3.df })
  (none))
 (some { e := (.exit 4), vs := [t1, t4, t5, t8, t11, t12, t33, t34, t35, t81, t82], h := h, c := (c + 1), df := df })
theorem f23_L23002_eq (o : Orc H) (rd : Option Nat) (t1 t4 t5 t8 t11 t12 t33 t34 t35 t81 t82 : Value) (h : H) (c : Nat) (df : List Nat) : jx P o 112 rd f23_c23002 (tmOf [1, 4, 5, 8, 11, 12, 33, 34, 35, 81, 82] [t1, t4, t5, t8, t11, t12, t33, t34, t35, t81, t82]) h c df (Klp [1, 4, 5, 8, 11, 12, 33, 34, 35, 81, 82]) = f23_L23002 o rd t1 t4 t5 t8 t11 t12 t33 t34 t35 t81 t82 h c df := by kernel_rfl
noncomputable def f23_L23000 (o : Orc H) (rd : Option Nat) (t1 t4 t5 t8 t33 t34 t35 : Value) (h : H) (c : Nat) (df : List Nat) : Option (Rt H) :=
 (aBinOp P .lss 3 t35 t34).bind fun t36 =>
 boolK t36
 ((ixS 1 t33 t35).bind fun t37 =>
 (ld1 h t37).bind fun t38 =>
 (aBinOp P .quo 3 t38 (.int .i64 4)).bind fun t41 =>
 (aBinOp P .mul 3 t41 (.int .i64 7)).bind fun t42 =>
 (aBinOp P .rem 3 t38 (.int .i64 4)).bind fun t44 =>
 (aBinOp P .add 3 t42 t44).bind fun t45 =>
 (ixS 1 t1 t45).bind fun t46 =>
 (ld1 h t46).bind fun t47 =>
 (aNilCheck t8).bind fun t49 =>
 (addOff t49 0).bind fun t50 =>
 (addOff t50 0).bind fun t51 =>
 (ld1 h t51).bind fun t52 =>
 (lenS t52).bind fun t53 =>
 (o (f23_k23001 rd) [t1, t4, t5, t8, t38, t47, t33, t34, t35, t53, (.int .i64 0)] h ((((c + 1) + 1) + 1) + 1) df).bind fun r0 =>
 cond (exIs r0.e (.exit 2))
  ((aNilCheck (r0.v 3)).bind fun t77 =>
  (addOff t77 0).bind fun t78 =>
  (addOff t78 0).bind fun t79 =>
  (ld1 r0.h t79).bind fun t80 =>
  (lenS t80).bind fun t81 =>
  (o (f23_k23002 rd) [(r0.v 0), (r0.v 1), (r0.v 2), (r0.v 3), (r0.v 4), (r0.v 5), (r0.v 6), (r0.v 7), (r0.v 8), t81, (.int .i64 0)] r0.h (r0.c + 1) r0.df).bind fun r1 =>
  cond (exIs r1.e (.exit 4))
   ((bldL [(.int .i64 0)] [(0, 1, (r1.v 5))]).bind fun r2 =>
   (appV (newB r1.h (256 * r1.c + 2) r2) (256 * r1.c + 3) 1 8 (r1.v 1) (.slice (some ⟨(256 * r1.c + 2), 0, none⟩) 1 1)).bind fun r3 =>
   (aBinOp P .add 3 (r1.v 8) (.int .i64 1)).bind fun t109 =>
   some { e := .normal, vs := [(r1.v 0), r3.1, (r1.v 2), (r1.v 3), (r1.v 6), (r1.v 7), t109], h := r3.2, c := ((r1.c + 1) + 1), df := r1.df })
   (none))
  (none))
 (some { e := (.exit 0), vs := [t1, t4, t5, t8, t33, t34, t35], h := h, c := (c + 1), df := df })
theorem f23_L23000_eq (o : Orc H) (rd : Option Nat) (t1 t4 t5 t8 t33 t34 t35 : Value) (h : H) (c : Nat) (df : List Nat) : jx P o 112 rd f23_c23000 (tmOf [1, 4, 5, 8, 33, 34, 35] [t1, t4, t5, t8, t33, t34, t35]) h c df (Klp [1, 4, 5, 8, 33, 34, 35]) = f23_L23000 o rd t1 t4 t5 t8 t33 t34 t35 h c df := by kernel_rfl
noncomputable def f23_S (o : Orc H) (t0 t1 : Value) (h : H) (c : Nat) : Option (Rt H) :=
 (bif (t0 : Value).cells.toList.all isFlat then
 (ldN (newB h (256 * c + 0) (t0 : Value).cells.toList) 1 (ptrTo (256 * c + 0))).bind fun t15 =>
 (bldL [(.slice none 0 0)] [(0, 1, t1)]).bind fun r0 =>
 (callF o 47 [t15, (.slice (some ⟨(256 * (c + 1) + 2), 0, none⟩) 1 1)] (newB (newB h (256 * c + 0) (t0 : Value).cells.toList) (256 * (c + 1) + 2) r0) ((c + 1) + 1)).bind fun r1 =>
 (aBinOp P .neq 27 r1.1 (.int .i64 0)).bind fun t20 =>
 boolK t20
 (some { e := .ret, vs := [.tuple #[(.slice none 0 0), (.slice none 0 0), r1.1]], h := r1.2.1, c := ((r1.2.2 + 1) + 1), df := [] })
 ((ldN r1.2.1 1 (ptrTo (256 * c + 0))).bind fun t23 =>
 (callF o 44 [t23] r1.2.1 ((r1.2.2 + 1) + 1)).bind fun r2 =>
 (extV r2.1 0).bind fun t25 =>
 (extV r2.1 1).bind fun t26 =>
 (callF o 53 [t1] r2.2.1 (r2.2.2 + 1)).bind fun r3 =>
 (bldL [] []).bind fun r4 =>
 (aNilCheck t25).bind fun t31 =>
 (addOff t31 0).bind fun t32 =>
 (callF o 45 [t32] (newB r3.2.1 (256 * r3.2.2 + 0) r4) ((r3.2.2 + 1) + 1)).bind fun r5 =>
 (lenS r5.1).bind fun t34 =>
 (o (f23_k23000 none) [t1, (.slice (some ⟨(256 * r3.2.2 + 0), 0, none⟩) 0 0), r3.1, t25, r5.1, t34, (.int .i64 0)] r5.2.1 r5.2.2 []).bind fun r6 =>
 cond (exIs r6.e (.exit 0))
  ((takeAll r6.h r6.df).bind fun h7 =>
  some { e := .ret, vs := [.tuple #[(r6.v 1), (r6.v 2), (.int .i64 0)]], h := h7, c := (r6.c + 1), df := [] })
  (none))
 else none)
theorem f23_S_eq (o : Orc H) (t0 t1 : Value) (h : H) (c : Nat) : jx P o 112 none f23_c (tmOf (List.range 2) [t0, t1]) h c [] (Kfn P Try.f23.results.toList) = f23_S o t0 t1 h c := by kernel_rfl
theorem f23_go {t0 t1 : Value} {h : FH} {c : Nat} {df : List Nat} {r : Rt FH} (e : f23_S G t0 t1 h c = some r) : G (.fn 23) [t0, t1] h c df = some r := runG_fn (a := f23_f) bk_23 rfl (fun args h c => by cases args <;> rfl) rfl ((f23_S_eq G t0 t1 h c).trans e)
theorem f23_N23001 {rd : Option Nat} {t1 t4 t5 t8 t11 t12 t33 t34 t35 t53 t54 : Value} {h : FH} {c : Nat} {df : List Nat} {q r : Rt FH} (e : f23_L23001 G rd t1 t4 t5 t8 t11 t12 t33 t34 t35 t53 t54 h c df = some q) (hq : q.e = .normal) (k : G (f23_k23001 rd) q.vs (gcR h c df q).h (gcR h c df q).c q.df = some r) : G (f23_k23001 rd) [t1, t4, t5, t8, t11, t12, t33, t34, t35, t53, t54] h c df = some r := runG_lp_next ((f23_L23001_eq G rd t1 t4 t5 t8 t11 t12 t33 t34 t35 t53 t54 h c df).trans e) hq k
theorem f23_Z23001 {rd : Option Nat} {t1 t4 t5 t8 t11 t12 t33 t34 t35 t53 t54 : Value} {h : FH} {c : Nat} {df : List Nat} {q : Rt FH} (e : f23_L23001 G rd t1 t4 t5 t8 t11 t12 t33 t34 t35 t53 t54 h c df = some q) (hq : q.e ≠ .normal) : G (f23_k23001 rd) [t1, t4, t5, t8, t11, t12, t33, t34, t35, t53, t54] h c df = some (gcR h c df q) := runG_lp_last ((f23_L23001_eq G rd t1 t4 t5 t8 t11 t12 t33 t34 t35 t53 t54 h c df).trans e) hq
theorem f23_N23002 {rd : Option Nat} {t1 t4 t5 t8 t11 t12 t33 t34 t35 t81 t82 : Value} {h : FH} {c : Nat} {df : List Nat} {q r : Rt FH} (e : f23_L23002 G rd t1 t4 t5 t8 t11 t12 t33 t34 t35 t81 t82 h c df = some q) (hq : q.e = .normal) (k : G (f23_k23002 rd) q.vs (gcR h c df q).h (gcR h c df q).c q.df = some r) : G (f23_k23002 rd) [t1, t4, t5, t8, t11, t12, t33, t34, t35, t81, t82] h c df = some r := runG_lp_next ((f23_L23002_eq G rd t1 t4 t5 t8 t11 t12 t33 t34 t35 t81 t82 h c df).trans e) hq k
theorem f23_Z23002 {rd : Option Nat} {t1 t4 t5 t8 t11 t12 t33 t34 t35 t81 t82 : Value} {h : FH} {c : Nat} {df : List Nat} {q : Rt FH} (e : f23_L23002 G rd t1 t4 t5 t8 t11 t12 t33 t34 t35 t81 t82 h c df = some q) (hq : q.e ≠ .normal) : G (f23_k23002 rd) [t1, t4, t5, t8, t11, t12, t33, t34, t35, t81, t82] h c df = some (gcR h c df q) := runG_lp_last ((f23_L23002_eq G rd t1 t4 t5 t8 t11 t12 t33 t34 t35 t81 t82 h c df).trans e) hq
theorem f23_N23000 {rd : Option Nat} {t1 t4 t5 t8 t33 t34 t35 : Value} {h : FH} {c : Nat} {df : List Nat} {q r : Rt FH} (e : f23_L23000 G rd t1 t4 t5 t8 t33 t34 t35 h c df = some q) (hq : q.e = .normal) (k : G (f23_k23000 rd) q.vs q.h q.c q.df = some r) : G (f23_k23000 rd) [t1, t4, t5, t8, t33, t34, t35] h c df = some r := runG_lp_next ((f23_L23000_eq G rd t1 t4 t5 t8 t33 t34 t35 h c df).trans e) hq k
theorem f23_Z23000 {rd : Option Nat} {t1 t4 t5 t8 t33 t34 t35 : Value} {h : FH} {c : Nat} {df : List Nat} {q : Rt FH} (e : f23_L23000 G rd t1 t4 t5 t8 t33 t34 t35 h c df = some q) (hq : q.e ≠ .normal) : G (f23_k23000 rd) [t1, t4, t5, t8, t33, t34, t35] h c df = some q := runG_lp_last ((f23_L23000_eq G rd t1 t4 t5 t8 t33 t34 t35 h c df).trans e) hq
noncomputable def f24_S (o : Orc H) (t0 t1 : Value) (h : H) (c : Nat) : Option (Rt H) :=
 (bif (t0 : Value).cells.toList.all isFlat then
 (ldN (newB h (256 * c + 0) (t0 : Value).cells.toList) 1 (ptrTo (256 * c + 0))).bind fun t7 =>
 (bldL [(.slice none 0 0)] [(0, 1, t1)]).bind fun r0 =>
 (callF o 47 [t7, (.slice (some ⟨(256 * (c + 1) + 2), 0, none⟩) 1 1)] (newB (newB h (256 * c + 0) (t0 : Value).cells.toList) (256 * (c + 1) + 2) r0) ((c + 1) + 1)).bind fun r1 =>
 (aBinOp P .neq 27 r1.1 (.int .i64 0)).bind fun t12 =>
 boolK t12
 (some { e := .ret, vs := [.tuple #[(.slice none 0 0), r1.1]], h := r1.2.1, c := ((r1.2.2 + 1) + 1), df := [] })
 ((ldN r1.2.1 1 (ptrTo (256 * c + 0))).bind fun t14 =>
 (callF o 54 [t14, t1] r1.2.1 ((r1.2.2 + 1) + 1)).bind fun r2 =>
 some { e := .ret, vs := [.tuple #[r2.1, (.int .i64 0)]], h := r2.2.1, c := r2.2.2, df := [] })
 else none)
theorem f24_S_eq (o : Orc H) (t0 t1 : Value) (h : H) (c : Nat) : jx P o 17 none f24_c (tmOf (List.range 2) [t0, t1]) h c [] (Kfn P Try.f24.results.toList) = f24_S o t0 t1 h c := by kernel_rfl
theorem f24_go {t0 t1 : Value} {h : FH} {c : Nat} {df : List Nat} {r : Rt FH} (e : f24_S G t0 t1 h c = some r) : G (.fn 24) [t0, t1] h c df = some r := runG_fn (a := f24_f) bk_24 rfl (fun args h c => by cases args <;> rfl) rfl ((f24_S_eq G t0 t1 h c).trans e)
noncomputable def f25_L25000 (o : Orc H) (rd : Option Nat) (t1 t2 t4 t5 t29 t30 : Value) (h : H) (c : Nat) (df : List Nat) : Option (Rt H) :=
 (aBinOp P .lss 3 t30 t29).bind fun t31 =>
 boolK t31
 ((aBinOp P .mul 3 (.int .i64 3) t30).bind fun t35 =>
 (aBinOp P .mul 3 (.int .i64 3) t30).bind fun t37 =>
 (aBinOp P .add 3 t37 (.int .i64 3)).bind fun t38 =>
 (slS h 1 t1 (some t35) (some t38) none).bind fun t39 =>
 (callF o 56 [t39] h (((c + 1) + 1) + 1)).bind fun r0 =>
 (aUnOp .not r0.1).bind fun t41 =>
 boolK t41
  (some { e := .ret, vs := [t1, t2, (.slice none 0 0), (.int .i64 1), t29, t30], h := r0.2.1, c := (r0.2.2 + 1), df := df })
  ((aBinOp P .add 3 t30 (.int .i64 1)).bind fun t42 =>
  some { e := .normal, vs := [t1, t2, t4, t5, t29, t42], h := r0.2.1, c := (r0.2.2 + 1), df := df }))
 (some { e := (.exit 0), vs := [t1, t2, t4, t5, t29, t30], h := h, c := (c + 1), df := df })
theorem f25_L25000_eq (o : Orc H) (rd : Option Nat) (t1 t2 t4 t5 t29 t30 : Value) (h : H) (c : Nat) (df : List Nat) : jx P o 52 rd f25_c25000 (tmOf [1, 2, 4, 5, 29, 30] [t1, t2, t4, t5, t29, t30]) h c df (Klp [1, 2, 4, 5, 29, 30]) = f25_L25000 o rd t1 t2 t4 t5 t29 t30 h c df := by kernel_rfl
noncomputable def f25_S (o : Orc H) (t0 t1 : Value) (h : H) (c : Nat) : Option (Rt H) :=
 (bif (t0 : Value).cells.toList.all isFlat then
 (ldN (newB h (256 * c + 0) (t0 : Value).cells.toList) 1 (ptrTo (256 * c + 0))).bind fun t10 =>
 (callF o 43 [t10] (newB h (256 * c + 0) (t0 : Value).cells.toList) ((c + 1) + 1)).bind fun r0 =>
 (aBinOp P .neq 27 r0.1 (.int .i64 0)).bind fun t13 =>
 boolK t13
 (some { e := .ret, vs := [.tuple #[(.slice none 0 0), r0.1]], h := r0.2.1, c := ((r0.2.2 + 1) + 1), df := [] })
 ((lenS t1).bind fun t16 =>
 (addOff (ptrTo (256 * c + 0)) 0).bind fun t17 =>
 (ld1 r0.2.1 t17).bind fun t18 =>
 (lenS t18).bind fun t19 =>
 (aBinOp P .mul 3 (.int .i64 3) t19).bind fun t20 =>
 (aBinOp P .neq 3 t16 t20).bind fun t21 =>
 ((gv t21 false).bind fun w => cond w (ret1 r0.2.1 ((r0.2.2 + 1) + 1) (some t1)) (some (undef, r0.2.1, ((r0.2.2 + 1) + 1)))).bind fun r1 =>
 ((gv t21 false).bind fun w => cond w (callF o 55 [r1.1] r1.2.1 r1.2.2) (some (undef, r1.2.1, r1.2.2))).bind fun r2 =>
 ((gv t21 false).bind fun w => cond w (ret1 r2.2.1 r2.2.2 (aUnOp .not r2.1)) (some (undef, r2.2.1, r2.2.2))).bind fun r3 =>
 (pickV t21 (.bool true) r3.1).bind fun t26 =>
 boolK t26
  (some { e := .ret, vs := [.tuple #[(.slice none 0 0), (.int .i64 1)]], h := r3.2.1, c := (r3.2.2 + 1), df := [] })
  ((addOff (ptrTo (256 * c + 0)) 0).bind fun t27 =>
  (ld1 r3.2.1 t27).bind fun t28 =>
  (lenS t28).bind fun t29 =>
  (o (f25_k25000 none) [t1, (ptrTo (256 * c + 0)), (.slice none 0 0), (.int .i64 0), t29, (.int .i64 0)] r3.2.1 (r3.2.2 + 1) []).bind fun r4 =>
  cond (exIs r4.e (.exit 0))
   ((ldN r4.h 1 (r4.v 1)).bind fun t44 =>
   (callF o 57 [t44, (r4.v 0)] r4.h (r4.c + 1)).bind fun r6 =>
   (extV r6.1 0).bind fun t47 =>
   (extV r6.1 1).bind fun t48 =>
   (aUnOp .not t48).bind fun t50 =>
   boolK t50
    ((takeAll r6.2.1 r4.df).bind fun h7 =>
    some { e := .ret, vs := [.tuple #[(.slice none 0 0), (.int .i64 3)]], h := h7, c := ((r6.2.2 + 1) + 1), df := [] })
    ((takeAll r6.2.1 r4.df).bind fun h8 =>
    some { e := .ret, vs := [.tuple #[t47, (.int .i64 0)]], h := h8, c := ((r6.2.2 + 1) + 1), df := [] }))
   (cond (exIs r4.e .ret)
    ((takeAll r4.h r4.df).bind fun h5 =>
    some { e := .ret, vs := [.tuple #[(r4.v 2), (r4.v 3)]], h := h5, c := r4.c, df := [] })
    (none))))
 else none)
theorem f25_S_eq (o : Orc H) (t0 t1 : Value) (h : H) (c : Nat) : jx P o 52 none f25_c (tmOf (List.range 2) [t0, t1]) h c [] (Kfn P Try.f25.results.toList) = f25_S o t0 t1 h c := by kernel_rfl
theorem f25_go {t0 t1 : Value} {h : FH} {c : Nat} {df : List Nat} {r : Rt FH} (e : f25_S G t0 t1 h c = some r) : G (.fn 25) [t0, t1] h c df = some r := runG_fn (a := f25_f) bk_25 rfl (fun args h c => by cases args <;> rfl) rfl ((f25_S_eq G t0 t1 h c).trans e)
theorem f25_N25000 {rd : Option Nat} {t1 t2 t4 t5 t29 t30 : Value} {h : FH} {c : Nat} {df : List Nat} {q r : Rt FH} (e : f25_L25000 G rd t1 t2 t4 t5 t29 t30 h c df = some q) (hq : q.e = .normal) (k : G (f25_k25000 rd) q.vs (gcR h c df q).h (gcR h c df q).c q.df = some r) : G (f25_k25000 rd) [t1, t2, t4, t5, t29, t30] h c df = some r := runG_lp_next ((f25_L25000_eq G rd t1 t2 t4 t5 t29 t30 h c df).trans e) hq k
theorem f25_Z25000 {rd : Option Nat} {t1 t2 t4 t5 t29 t30 : Value} {h : FH} {c : Nat} {df : List Nat} {q : Rt FH} (e : f25_L25000 G rd t1 t2 t4 t5 t29 t30 h c df = some q) (hq : q.e ≠ .normal) : G (f25_k25000 rd) [t1, t2, t4, t5, t29, t30] h c df = some (gcR h c df q) := runG_lp_last ((f25_L25000_eq G rd t1 t2 t4 t5 t29 t30 h c df).trans e) hq
noncomputable def f40_L40002 (o : Orc H) (rd : Option Nat) (t2 t3 t4 t5 t7 t8 t9 t10 t11 t14 : Value) (h : H) (c : Nat) (df : List Nat) : Option (Rt H) :=
 (aBinOp P .lss 3 t14 (.int .i64 4)).bind fun t92 =>
 boolK t92
 ((aBinOp P .add 3 t8 (.int .i64 1)).bind fun t97 =>
 (ixS 1 t4 t97).bind fun t98 =>
 (ld1 h t98).bind fun t99 =>
 (ixStr t99 t14).bind fun t101 =>
 (aBinOp P .lss 5 t101 (.int .u8 48)).bind fun t103 =>
 ((gv t103 false).bind fun w => cond w (ret1 h (((c + 1) + 1) + 1) (some t101)) (some (undef, h, (((c + 1) + 1) + 1)))).bind fun r0 =>
 ((gv t103 false).bind fun w => cond w (ret1 r0.2.1 r0.2.2 (aBinOp P .gtr 5 r0.1 (.int .u8 57))) (some (undef, r0.2.1, r0.2.2))).bind fun r1 =>
 (pickV t103 (.bool true) r1.1).bind fun t107 =>
 boolK t107
  ((bldV [(.slice none 0 0)] []).bind fun t108 =>
  (stN r1.2.1 1 t2 t108).bind fun h3 =>
  some { e := .ret, vs := [t2, (.int .i64 4), t4, t5, t7, t8, t9, t10, t11, t14], h := h3, c := (r1.2.2 + 1), df := df })
  ((aBinOp P .sub 5 t101 (.int .u8 48)).bind fun t112 =>
  (cnvI .i64 t112).bind fun t113 =>
  (ixA 4 5 t10 t11).bind fun t114 =>
  (addOff t114 1).bind fun t115 =>
  (ixA 4 1 t115 t14).bind fun t116 =>
  (stN r1.2.1 1 t116 t113).bind fun h6 =>
  (aBinOp P .add 3 t14 (.int .i64 1)).bind fun t94 =>
  some { e := .normal, vs := [t2, t3, t4, t5, t7, t8, t9, t10, t11, t94], h := h6, c := ((r1.2.2 + 1) + 1), df := df }))
 (some { e := (.exit 4), vs := [t2, t3, t4, t5, t7, t8, t9, t10, t11, t14], h := h, c := (c + 1), df := df })
theorem f40_L40002_eq (o : Orc H) (rd : Option Nat) (t2 t3 t4 t5 t7 t8 t9 t10 t11 t14 : Value) (h : H) (c : Nat) (df : List Nat) : jx P o 135 rd f40_c40002 (tmOf [2, 3, 4, 5, 7, 8, 9, 10, 11, 14] [t2, t3, t4, t5, t7, t8, t9, t10, t11, t14]) h c df (Klp [2, 3, 4, 5, 7, 8, 9, 10, 11, 14]) = f40_L40002 o rd t2 t3 t4 t5 t7 t8 t9 t10 t11 t14 h c df := by kernel_rfl
noncomputable def f40_L40001 (o : Orc H) (rd : Option Nat) (t2 t3 t4 t5 t7 t8 t9 t10 t11 : Value) (h : H) (c : Nat) (df : List Nat) : Option (Rt H) :=
 (aBinOp P .lss 3 t11 (.int .i64 4)).bind fun t42 =>
 boolK t42
 (((lenS t4).bind fun t47 =>
  (aBinOp P .geq 3 t8 t47).bind fun t48 =>
  boolK t48
   ((bldV [(.slice none 0 0)] []).bind fun t49 =>
   (stN h 1 t2 t49).bind fun h1 =>
   some { e := .ret, vs := [t2, (.int .i64 4), t4, t5, t7, t8, t9, t10, t11], h := h1, c := (((c + 1) + 1) + 1), df := df })
   ((ixS 1 t4 t8).bind fun t52 =>
   (ld1 h t52).bind fun t53 =>
   (aBinOp P .eql 9 t53 (.string (ByteArray.mk #[45]))).bind fun t54 =>
   boolK t54
    ((ixA 4 5 t10 t11).bind fun t56 =>
    (addOff t56 0).bind fun t57 =>
    (stN h 1 t57 (.int .i64 (-1))).bind fun h4 =>
    (aBinOp P .add 3 t8 (.int .i64 1)).bind fun t59 =>
    some { e := .normal, vs := [t2, t3, t4, t5, t7, t59, t9, t10, t11], h := h4, c := (((((c + 1) + 1) + 1) + 1) + 1), df := df })
    ((ixS 1 t4 t8).bind fun t63 =>
    (ld1 h t63).bind fun t64 =>
    (callF o 69 [t64] h ((((c + 1) + 1) + 1) + 1)).bind fun r6 =>
    (extV r6.1 0).bind fun t66 =>
    (extV r6.1 1).bind fun t67 =>
    (aUnOp .not t67).bind fun t69 =>
    ((gv t69 false).bind fun w => cond w (ret1 r6.2.1 (r6.2.2 + 1) (some t8)) (some (undef, r6.2.1, (r6.2.2 + 1)))).bind fun r7 =>
    ((gv t69 false).bind fun w => cond w (ret1 r7.2.1 r7.2.2 (aBinOp P .add 3 r7.1 (.int .i64 1))) (some (undef, r7.2.1, r7.2.2))).bind fun r8 =>
    ((gv t69 false).bind fun w => cond w (ret1 r8.2.1 r8.2.2 (some t4)) (some (undef, r8.2.1, r8.2.2))).bind fun r9 =>
    ((gv t69 false).bind fun w => cond w (((lenS r9.1).bind fun v => some (v, r9.2.1)).bind fun r => some (r.1, r.2, r9.2.2)) (some (undef, r9.2.1, r9.2.2))).bind fun r10 =>
    ((gv t69 false).bind fun w => cond w (ret1 r10.2.1 r10.2.2 (aBinOp P .geq 3 r8.1 r10.1)) (some (undef, r10.2.1, r10.2.2))).bind fun r11 =>
    (pickV t69 (.bool true) r11.1).bind fun t76 =>
    ((gv t76 false).bind fun w => cond w (ret1 r11.2.1 r11.2.2 (some t4)) (some (undef, r11.2.1, r11.2.2))).bind fun r12 =>
    ((gv t76 false).bind fun w => cond w (ret1 r12.2.1 r12.2.2 (some t8)) (some (undef, r12.2.1, r12.2.2))).bind fun r13 =>
    ((gv t76 false).bind fun w => cond w (ret1 r13.2.1 r13.2.2 (aBinOp P .add 3 r13.1 (.int .i64 1))) (some (undef, r13.2.1, r13.2.2))).bind fun r14 =>
    ((gv t76 false).bind fun w => cond w (ret1 r14.2.1 r14.2.2 (ixS 1 r12.1 r14.1)) (some (undef, r14.2.1, r14.2.2))).bind fun r15 =>
    ((gv t76 false).bind fun w => cond w (ret1 r15.2.1 r15.2.2 (ld1 r15.2.1 r15.1)) (some (undef, r15.2.1, r15.2.2))).bind fun r16 =>
    ((gv t76 false).bind fun w => cond w (((aLen P r16.2.1 9 r16.1).bind fun v => some (v, r16.2.1)).bind fun r => some (r.1, r.2, r16.2.2)) (some (undef, r16.2.1, r16.2.2))).bind fun r17 =>
    ((gv t76 false).bind fun w => cond w (ret1 r17.2.1 r17.2.2 (aBinOp P .neq 3 r17.1 (.int .i64 4))) (some (undef, r17.2.1, r17.2.2))).bind fun r18 =>
    (pickV t76 (.bool true) r18.1).bind fun t85 =>
    boolK t85
     ((bldV [(.slice none 0 0)] []).bind fun t86 =>
     (stN r18.2.1 1 t2 t86).bind fun h20 =>
     some { e := .ret, vs := [t2, (.int .i64 4), t4, t5, t7, t8, t9, t10, t11], h := h20, c := (r18.2.2 + 1), df := df })
     ((ixA 4 5 t10 t11).bind fun t89 =>
     (addOff t89 0).bind fun t90 =>
     (stN r18.2.1 1 t90 t66).bind fun h23 =>
     (o (f40_k40002 rd) [t2, t3, t4, t5, t7, t8, t9, t10, t11, (.int .i64 0)] h23 ((r18.2.2 + 1) + 1) df).bind fun r24 =>
     cond (exIs r24.e (.exit 4))
      ((aBinOp P .add 3 (r24.v 5) (.int .i64 2)).bind fun t118 =>
      some { e := .normal, vs := [(r24.v 0), (r24.v 1), (r24.v 2), (r24.v 3), (r24.v 4), t118, (r24.v 6), (r24.v 7), (r24.v 8)], h := r24.h, c := (r24.c + 1), df := r24.df })
      (cond (exIs r24.e .ret)
       (some { e := .ret, vs := [(r24.v 0), (r24.v 1), (r24.v 2), (r24.v 3), (r24.v 4), (r24.v 5), (r24.v 6), (r24.v 7), (r24.v 8)], h := r24.h, c := r24.c, df := r24.df })
       (none))))) : Option (Rt H)).bind fun r26 =>
 cond (exIs r26.e .ret)
  (some { e := .ret, vs := [(r26.v 0), (r26.v 1), (r26.v 2), (r26.v 3), (r26.v 4), (r26.v 5), (r26.v 6), (r26.v 7), (r26.v 8)], h := r26.h, c := r26.c, df := r26.df })
  (cond (exIs r26.e .normal)
   ((aBinOp P .add 3 (r26.v 8) (.int .i64 1)).bind fun t44 =>
   some { e := .normal, vs := [(r26.v 0), (r26.v 1), (r26.v 2), (r26.v 3), (r26.v 4), (r26.v 5), (r26.v 6), (r26.v 7), t44], h := r26.h, c := (r26.c + 1), df := r26.df })
   (none)))
 (some { e := (.exit 2), vs := [t2, t3, t4, t5, t7, t8, t9, t10, t11], h := h, c := (c + 1), df := df })
theorem f40_L40001_eq (o : Orc H) (rd : Option Nat) (t2 t3 t4 t5 t7 t8 t9 t10 t11 : Value) (h : H) (c : Nat) (df : List Nat) : jx P o 135 rd f40_c40001 (tmOf [2, 3, 4, 5, 7, 8, 9, 10, 11] [t2, t3, t4, t5, t7, t8, t9, t10, t11]) h c df (Klp [2, 3, 4, 5, 7, 8, 9, 10, 11]) = f40_L40001 o rd t2 t3 t4 t5 t7 t8 t9 t10 t11 h c df := by kernel_rfl
noncomputable def f40_L40000 (o : Orc H) (rd : Option Nat) (t2 t3 t4 t5 t7 t8 t9 : Value) (h : H) (c : Nat) (df : List Nat) : Option (Rt H) :=
 (aBinOp P .lss 3 t9 t5).bind fun t38 =>
 boolK t38
 ((o (f40_k40001 rd) [t2, t3, t4, t5, t7, t8, t9, (ptrTo (256 * (c + 1) + 0)), (.int .i64 0)] (newB h (256 * (c + 1) + 0) [(.int .i64 0), (.int .i64 0), (.int .i64 0), (.int .i64 0), (.int .i64 0), (.int .i64 0), (.int .i64 0), (.int .i64 0), (.int .i64 0), (.int .i64 0), (.int .i64 0), (.int .i64 0), (.int .i64 0), (.int .i64 0), (.int .i64 0), (.int .i64 0), (.int .i64 0), (.int .i64 0), (.int .i64 0), (.int .i64 0)]) (((c + 1) + 1) + 1) df).bind fun r0 =>
 cond (exIs r0.e (.exit 2))
  ((addOff (r0.v 4) 0).bind fun t119 =>
  (ld1 r0.h t119).bind fun t120 =>
  (ldN r0.h 20 (r0.v 7)).bind fun t121 =>
  (bldL [(.int .i64 0), (.int .i64 0), (.int .i64 0), (.int .i64 0), (.int .i64 0), (.int .i64 0), (.int .i64 0), (.int .i64 0), (.int .i64 0), (.int .i64 0), (.int .i64 0), (.int .i64 0), (.int .i64 0), (.int .i64 0), (.int .i64 0), (.int .i64 0), (.int .i64 0), (.int .i64 0), (.int .i64 0), (.int .i64 0)] [(0, 20, t121)]).bind fun r1 =>
  (appV (newB r0.h (256 * r0.c + 3) r1) (256 * r0.c + 4) 20 160 t120 (.slice (some ⟨(256 * r0.c + 3), 0, none⟩) 1 1)).bind fun r2 =>
  (addOff (r0.v 4) 0).bind fun t124 =>
  (stN r2.2 1 t124 r2.1).bind fun h4 =>
  (aBinOp P .add 3 (r0.v 6) (.int .i64 1)).bind fun t40 =>
  some { e := .normal, vs := [(r0.v 0), (r0.v 1), (r0.v 2), (r0.v 3), (r0.v 4), (r0.v 5), t40], h := h4, c := ((r0.c + 1) + 1), df := r0.df })
  (cond (exIs r0.e .ret)
   (some { e := .ret, vs := [(r0.v 0), (r0.v 1), (r0.v 2), (r0.v 3), (r0.v 4), (r0.v 5), (r0.v 6)], h := r0.h, c := r0.c, df := r0.df })
   (none)))
 (some { e := (.exit 0), vs := [t2, t3, t4, t5, t7, t8, t9], h := h, c := (c + 1), df := df })
theorem f40_L40000_eq (o : Orc H) (rd : Option Nat) (t2 t3 t4 t5 t7 t8 t9 : Value) (h : H) (c : Nat) (df : List Nat) : jx P o 135 rd f40_c40000 (tmOf [2, 3, 4, 5, 7, 8, 9] [t2, t3, t4, t5, t7, t8, t9]) h c df (Klp [2, 3, 4, 5, 7, 8, 9]) = f40_L40000 o rd t2 t3 t4 t5 t7 t8 t9 h c df := by kernel_rfl
noncomputable def f40_S (o : Orc H) (t0 : Value) (h : H) (c : Nat) : Option (Rt H) :=
 (aLen P (newB h (256 * c + 0) [(.slice none 0 0)]) 9 t0).bind fun t17 =>
 (aBinOp P .gtr 3 t17 (.int .i64 200000)).bind fun t18 =>
 boolK t18
 ((bldV [(.slice none 0 0)] []).bind fun t19 =>
 (stN (newB h (256 * c + 0) [(.slice none 0 0)]) 1 (ptrTo (256 * c + 0)) t19).bind fun h1 =>
 (ldN h1 1 (ptrTo (256 * c + 0))).bind fun v2 =>
 some { e := .ret, vs := [.tuple #[v2, (.int .i64 2)]], h := h1, c := (((c + 1) + 1) + 1), df := [] })
 ((callF o 68 [t0] (newB h (256 * c + 0) [(.slice none 0 0)]) (((c + 1) + 1) + 1)).bind fun r3 =>
 (lenS r3.1).bind fun t23 =>
 (aBinOp P .eql 3 t23 (.int .i64 0)).bind fun t24 =>
 boolK t24
  ((bldV [(.slice none 0 0)] []).bind fun t25 =>
  (stN r3.2.1 1 (ptrTo (256 * c + 0)) t25).bind fun h5 =>
  (ldN h5 1 (ptrTo (256 * c + 0))).bind fun v6 =>
  some { e := .ret, vs := [.tuple #[v6, (.int .i64 4)]], h := h5, c := ((r3.2.2 + 1) + 1), df := [] })
  ((ixS 1 r3.1 (.int .i64 0)).bind fun t28 =>
  (ld1 r3.2.1 t28).bind fun t29 =>
  (callF o 69 [t29] r3.2.1 ((r3.2.2 + 1) + 1)).bind fun r7 =>
  (extV r7.1 0).bind fun t31 =>
  (extV r7.1 1).bind fun t32 =>
  (aUnOp .not t32).bind fun t34 =>
  boolK t34
   ((bldV [(.slice none 0 0)] []).bind fun t35 =>
   (stN r7.2.1 1 (ptrTo (256 * c + 0)) t35).bind fun h9 =>
   (ldN h9 1 (ptrTo (256 * c + 0))).bind fun v10 =>
   some { e := .ret, vs := [.tuple #[v10, (.int .i64 4)]], h := h9, c := ((r7.2.2 + 1) + 1), df := [] })
   ((o (f40_k40000 none) [(ptrTo (256 * c + 0)), (.int .i64 0), r3.1, t31, (ptrTo (256 * (r7.2.2 + 1) + 0)), (.int .i64 1), (.int .i64 0)] (newB r7.2.1 (256 * (r7.2.2 + 1) + 0) [(.slice none 0 0)]) ((((r7.2.2 + 1) + 1) + 1) + 1) []).bind fun r11 =>
   cond (exIs r11.e (.exit 0))
    ((lenS (r11.v 2)).bind fun t127 =>
    (aBinOp P .neq 3 (r11.v 5) t127).bind fun t128 =>
    boolK t128
     ((bldV [(.slice none 0 0)] []).bind fun t129 =>
     (stN r11.h 1 (r11.v 0) t129).bind fun h15 =>
     (takeAll h15 r11.df).bind fun h16 =>
     (ldN h16 1 (r11.v 0)).bind fun v17 =>
     some { e := .ret, vs := [.tuple #[v17, (.int .i64 4)]], h := h16, c := ((r11.c + 1) + 1), df := [] })
     ((ldN r11.h 1 (r11.v 4)).bind fun t130 =>
     (callF o 13 [t130] r11.h ((r11.c + 1) + 1)).bind fun r18 =>
     (aBinOp P .neq 27 r18.1 (.int .i64 0)).bind fun t132 =>
     boolK t132
      ((bldV [(.slice none 0 0)] []).bind fun t133 =>
      (stN r18.2.1 1 (r11.v 0) t133).bind fun h20 =>
      (takeAll h20 r11.df).bind fun h21 =>
      (ldN h21 1 (r11.v 0)).bind fun v22 =>
      some { e := .ret, vs := [.tuple #[v22, (.int .i64 7)]], h := h21, c := (r18.2.2 + 1), df := [] })
      ((ldN r18.2.1 1 (r11.v 4)).bind fun t134 =>
      (stN r18.2.1 1 (r11.v 0) t134).bind fun h24 =>
      (takeAll h24 r11.df).bind fun h25 =>
      (ldN h25 1 (r11.v 0)).bind fun v26 =>
      some { e := .ret, vs := [.tuple #[v26, (.int .i64 0)]], h := h25, c := (r18.2.2 + 1), df := [] })))
    (cond (exIs r11.e .ret)
     ((takeAll r11.h r11.df).bind fun h12 =>
     (ldN h12 1 (r11.v 0)).bind fun v13 =>
     some { e := .ret, vs := [.tuple #[v13, (r11.v 1)]], h := h12, c := r11.c, df := [] })
     (none)))))
theorem f40_S_eq (o : Orc H) (t0 : Value) (h : H) (c : Nat) : jx P o 135 none f40_c (tmOf (List.range 1) [t0]) h c [] (Kfn P Try.f40.results.toList) = f40_S o t0 h c := by kernel_rfl
noncomputable def f41_L41000 (o : Orc H) (rd : Option Nat) (t1 t2 t3 t4 : Value) (h : H) (c : Nat) (df : List Nat) : Option (Rt H) :=
 (aBinOp P .lss 3 t4 (.int .i64 4)).bind fun t6 =>
 boolK t6
 ((ixA 4 1 t1 t4).bind fun t10 =>
 (ld1 h t10).bind fun t11 =>
 (aBinOp P .lss 3 t11 (.int .i64 0)).bind fun t12 =>
 ((gv t12 false).bind fun w => cond w (ret1 h ((c + 1) + 1) (some t4)) (some (undef, h, ((c + 1) + 1)))).bind fun r0 =>
 ((gv t12 false).bind fun w => cond w (ret1 r0.2.1 r0.2.2 (ixA 4 1 t1 r0.1)) (some (undef, r0.2.1, r0.2.2))).bind fun r1 =>
 ((gv t12 false).bind fun w => cond w (ret1 r1.2.1 r1.2.2 (ld1 r1.2.1 r1.1)) (some (undef, r1.2.1, r1.2.2))).bind fun r2 =>
 ((gv t12 false).bind fun w => cond w (ret1 r2.2.1 r2.2.2 (aBinOp P .gtr 3 r2.1 (.int .i64 3))) (some (undef, r2.2.1, r2.2.2))).bind fun r3 =>
 (pickV t12 (.bool true) r3.1).bind fun t18 =>
 ((gv t18 false).bind fun w => cond w (ret1 r3.2.1 r3.2.2 (some t4)) (some (undef, r3.2.1, r3.2.2))).bind fun r4 =>
 ((gv t18 false).bind fun w => cond w (ret1 r4.2.1 r4.2.2 (ixA 4 1 t1 r4.1)) (some (undef, r4.2.1, r4.2.2))).bind fun r5 =>
 ((gv t18 false).bind fun w => cond w (ret1 r5.2.1 r5.2.2 (ld1 r5.2.1 r5.1)) (some (undef, r5.2.1, r5.2.2))).bind fun r6 =>
 ((gv t18 false).bind fun w => cond w (ret1 r6.2.1 r6.2.2 (ixA 4 1 t3 r6.1)) (some (undef, r6.2.1, r6.2.2))).bind fun r7 =>
 ((gv t18 false).bind fun w => cond w (ret1 r7.2.1 r7.2.2 (ld1 r7.2.1 r7.1)) (some (undef, r7.2.1, r7.2.2))).bind fun r8 =>
 (pickV t18 (.bool true) r8.1).bind fun t25 =>
 boolK t25
  (some { e := .ret, vs := [t1, (.bool false), t3, t4], h := r8.2.1, c := (r8.2.2 + 1), df := df })
  ((ixA 4 1 t1 t4).bind fun t27 =>
  (ld1 r8.2.1 t27).bind fun t28 =>
  (ixA 4 1 t3 t28).bind fun t29 =>
  (stN r8.2.1 1 t29 (.bool true)).bind fun h11 =>
  (aBinOp P .add 3 t4 (.int .i64 1)).bind fun t8 =>
  some { e := .normal, vs := [t1, t2, t3, t8], h := h11, c := ((r8.2.2 + 1) + 1), df := df }))
 (some { e := (.exit 0), vs := [t1, t2, t3, t4], h := h, c := (c + 1), df := df })
theorem f41_L41000_eq (o : Orc H) (rd : Option Nat) (t1 t2 t3 t4 : Value) (h : H) (c : Nat) (df : List Nat) : jx P o 30 rd f41_c41000 (tmOf [1, 2, 3, 4] [t1, t2, t3, t4]) h c df (Klp [1, 2, 3, 4]) = f41_L41000 o rd t1 t2 t3 t4 h c df := by kernel_rfl
noncomputable def f41_S (o : Orc H) (t0 : Value) (h : H) (c : Nat) : Option (Rt H) :=
 (bif (t0 : Value).cells.toList.all isFlat then
 (o (f41_k41000 none) [(ptrTo (256 * c + 0)), (.bool false), (ptrTo (256 * (c + 1) + 0)), (.int .i64 0)] (newB (newB h (256 * c + 0) (t0 : Value).cells.toList) (256 * (c + 1) + 0) [(.bool false), (.bool false), (.bool false), (.bool false)]) (((c + 1) + 1) + 1) []).bind fun r0 =>
 cond (exIs r0.e (.exit 0))
 ((takeAll r0.h r0.df).bind fun h2 =>
 some { e := .ret, vs := [(.bool true)], h := h2, c := (r0.c + 1), df := [] })
 (cond (exIs r0.e .ret)
  ((takeAll r0.h r0.df).bind fun h1 =>
  some { e := .ret, vs := [(r0.v 1)], h := h1, c := r0.c, df := [] })
  (none))
 else none)
theorem f41_S_eq (o : Orc H) (t0 : Value) (h : H) (c : Nat) : jx P o 30 none f41_c (tmOf (List.range 1) [t0]) h c [] (Kfn P Try.f41.results.toList) = f41_S o t0 h c := by kernel_rfl
end Go.Proofs.Ytcnndelmnobigaa

namespace Go.Proofs.Ytcnndelmnobigaa
open Go Go.Ab Go.Proofs
set_option maxRecDepth 100000
set_option linter.unusedVariables false
variable {H : Type} [HeapC H]
noncomputable def f42_L42000 (o : Orc H) (rd : Option Nat) (t1 t2 t3 t4 : Value) (h : H) (c : Nat) (df : List Nat) : Option (Rt H) :=
 (aBinOp P .lss 3 t4 (.int .i64 4)).bind fun t10 =>
 boolK t10
 ((ixA 4 1 t1 t4).bind fun t14 =>
 (ld1 h t14).bind fun t15 =>
 (ixA 4 1 t3 t15).bind fun t17 =>
 (stN h 1 t17 t4).bind fun h1 =>
 (aBinOp P .add 3 t4 (.int .i64 1)).bind fun t12 =>
 some { e := .normal, vs := [t1, t2, t3, t12], h := h1, c := (((c + 1) + 1) + 1), df := df })
 (some { e := (.exit 0), vs := [t1, t2, t3, t4], h := h, c := (c + 1), df := df })
theorem f42_L42000_eq (o : Orc H) (rd : Option Nat) (t1 t2 t3 t4 : Value) (h : H) (c : Nat) (df : List Nat) : jx P o 19 rd f42_c42000 (tmOf [1, 2, 3, 4] [t1, t2, t3, t4]) h c df (Klp [1, 2, 3, 4]) = f42_L42000 o rd t1 t2 t3 t4 h c df := by kernel_rfl
noncomputable def f42_S (o : Orc H) (t0 : Value) (h : H) (c : Nat) : Option (Rt H) :=
 (bif (t0 : Value).cells.toList.all isFlat then
 (ldN (newB (newB (newB h (256 * c + 0) (t0 : Value).cells.toList) (256 * c + 1) [(.int .i64 0), (.int .i64 0), (.int .i64 0), (.int .i64 0)]) (256 * (c + 1) + 0) [(.int .i64 0), (.int .i64 0), (.int .i64 0), (.int .i64 0)]) 4 (ptrTo (256 * c + 0))).bind fun t5 =>
 (callF o 41 [t5] (newB (newB (newB h (256 * c + 0) (t0 : Value).cells.toList) (256 * c + 1) [(.int .i64 0), (.int .i64 0), (.int .i64 0), (.int .i64 0)]) (256 * (c + 1) + 0) [(.int .i64 0), (.int .i64 0), (.int .i64 0), (.int .i64 0)]) (((c + 1) + 1) + 1)).bind fun r0 =>
 (aUnOp .not r0.1).bind fun t7 =>
 boolK t7
 ((ldN r0.2.1 4 (ptrTo (256 * (c + 1) + 0))).bind fun t8 =>
 (stN r0.2.1 4 (ptrTo (256 * c + 1)) t8).bind fun h2 =>
 (ldN h2 4 (ptrTo (256 * c + 1))).bind fun v3 =>
 some { e := .ret, vs := [v3], h := h2, c := (r0.2.2 + 1), df := [] })
 ((o (f42_k42000 none) [(ptrTo (256 * c + 0)), (ptrTo (256 * c + 1)), (ptrTo (256 * (c + 1) + 0)), (.int .i64 0)] r0.2.1 (r0.2.2 + 1) []).bind fun r4 =>
 cond (exIs r4.e (.exit 0))
  ((ldN r4.h 4 (r4.v 2)).bind fun t18 =>
  (stN r4.h 4 (r4.v 1) t18).bind fun h6 =>
  (takeAll h6 r4.df).bind fun h7 =>
  (ldN h7 4 (r4.v 1)).bind fun v8 =>
  some { e := .ret, vs := [v8], h := h7, c := (r4.c + 1), df := [] })
  (none))
 else none)
theorem f42_S_eq (o : Orc H) (t0 : Value) (h : H) (c : Nat) : jx P o 19 none f42_c (tmOf (List.range 1) [t0]) h c [] (Kfn P Try.f42.results.toList) = f42_S o t0 h c := by kernel_rfl
noncomputable def f43_S (o : Orc H) (t0 : Value) (h : H) (c : Nat) : Option (Rt H) :=
 (bif (t0 : Value).cells.toList.all isFlat then
 (ldN (newB h (256 * c + 0) (t0 : Value).cells.toList) 1 (ptrTo (256 * c + 0))).bind fun t4 =>
 (callF o 70 [t4] (newB h (256 * c + 0) (t0 : Value).cells.toList) ((c + 1) + 1)).bind fun r0 =>
 (aBinOp P .neq 27 r0.1 (.int .i64 0)).bind fun t6 =>
 boolK t6
 (some { e := .ret, vs := [(.int .i64 7)], h := r0.2.1, c := (r0.2.2 + 1), df := [] })
 ((addOff (ptrTo (256 * c + 0)) 0).bind fun t8 =>
 (ld1 r0.2.1 t8).bind fun t9 =>
 (lenS t9).bind fun t10 =>
 (aBinOp P .gtr 3 t10 (.int .i64 60)).bind fun t11 =>
 boolK t11
  (some { e := .ret, vs := [(.int .i64 2)], h := r0.2.1, c := ((r0.2.2 + 1) + 1), df := [] })
  (some { e := .ret, vs := [(.int .i64 0)], h := r0.2.1, c := ((r0.2.2 + 1) + 1), df := [] }))
 else none)
theorem f43_S_eq (o : Orc H) (t0 : Value) (h : H) (c : Nat) : jx P o 12 none f43_c (tmOf (List.range 1) [t0]) h c [] (Kfn P Try.f43.results.toList) = f43_S o t0 h c := by kernel_rfl
theorem f43_go {t0 : Value} {h : FH} {c : Nat} {df : List Nat} {r : Rt FH} (e : f43_S G t0 h c = some r) : G (.fn 43) [t0] h c df = some (gcR h c [] r) := runG_fn (a := f43_f) bk_43 rfl (fun args h c => by cases args <;> rfl) rfl ((f43_S_eq G t0 h c).trans e)
noncomputable def f44_L44001 (o : Orc H) (rd : Option Nat) (t6 t7 t8 t52 : Value) (h : H) (c : Nat) (df : List Nat) : Option (Rt H) :=
 (aBinOp P .lss 3 t52 (.int .i64 4)).bind fun t53 =>
 boolK t53
 ((addOff t7 1).bind fun t56 =>
 (ld1 h t56).bind fun t57 =>
 (aBinOp P .neq 3 t52 t57).bind fun t58 =>
 ((gv t58 true).bind fun w => cond w (ret1 h (((c + 1) + 1) + 1) (some t52)) (some (undef, h, (((c + 1) + 1) + 1)))).bind fun r0 =>
 ((gv t58 true).bind fun w => cond w (ret1 r0.2.1 r0.2.2 (addOff t7 2)) (some (undef, r0.2.1, r0.2.2))).bind fun r1 =>
 ((gv t58 true).bind fun w => cond w (ret1 r1.2.1 r1.2.2 (ld1 r1.2.1 r1.1)) (some (undef, r1.2.1, r1.2.2))).bind fun r2 =>
 ((gv t58 true).bind fun w => cond w (ret1 r2.2.1 r2.2.2 (aBinOp P .neq 3 r0.1 r2.1)) (some (undef, r2.2.1, r2.2.2))).bind fun r3 =>
 (pickV t58 r3.1 (.bool false)).bind fun t64 =>
 (boolK t64
   ((ld1 r3.2.1 t6).bind fun t65 =>
   (aNilCheck t65).bind fun t66 =>
   (addOff t66 0).bind fun t67 =>
   (addOff t7 0).bind fun t68 =>
   (ld1 r3.2.1 t68).bind fun t69 =>
   (aBinOp P .mul 3 (.int .i64 6) t69).bind fun t70 =>
   (addOff t7 2).bind fun t71 =>
   (ld1 r3.2.1 t71).bind fun t72 =>
   (callF o 73 [t72, t52] r3.2.1 (r3.2.2 + 1)).bind fun r4 =>
   (aBinOp P .add 3 t70 r4.1).bind fun t75 =>
   (addOff t7 3).bind fun t76 =>
   (ld1 r4.2.1 t76).bind fun t77 =>
   (aBinOp P .mul 3 (.int .i64 6) t77).bind fun t78 =>
   (addOff t7 2).bind fun t79 =>
   (ld1 r4.2.1 t79).bind fun t80 =>
   (ixA 4 1 t8 t80).bind fun t81 =>
   (ld1 r4.2.1 t81).bind fun t82 =>
   (ixA 4 1 t8 t52).bind fun t84 =>
   (ld1 r4.2.1 t84).bind fun t85 =>
   (callF o 73 [t82, t85] r4.2.1 r4.2.2).bind fun r5 =>
   (aBinOp P .add 3 t78 r5.1).bind fun t87 =>
   (callF o 72 [t67, t75, t87] r5.2.1 r5.2.2).bind fun r6 =>
   (bif (sameB (ridV t6) r3.2.1 r4.2.1 && (sameB (ridV t6) r4.2.1 r5.2.1 && (sameB (ridV t68) r3.2.1 r4.2.1 && (sameB (ridV t68) r4.2.1 r5.2.1 && (sameB (ridV t76) r3.2.1 r4.2.1 && (sameB (ridV t76) r4.2.1 r5.2.1 && (sameB (ridV t79) r3.2.1 r4.2.1 && (sameB (ridV t81) r3.2.1 r4.2.1 && (sameB (ridV t84) r3.2.1 r4.2.1 && true))))))))) then
   some { e := .normal, vs := [t6, t7, t8, t52], h := r6.2.1, c := r6.2.2, df := df }
   else none))
   (some { e := .normal, vs := [t6, t7, t8, t52], h := r3.2.1, c := r3.2.2, df := df }) : Option (Rt H)).bind fun r7 =>
 cond (exIs r7.e .normal)
  ((aBinOp P .add 3 (r7.v 3) (.int .i64 1)).bind fun t89 =>
  some { e := .normal, vs := [(r7.v 0), (r7.v 1), (r7.v 2), t89], h := r7.h, c := (r7.c + 1), df := r7.df })
  (none))
 (some { e := (.exit 2), vs := [t6, t7, t8, t52], h := h, c := (c + 1), df := df })
theorem f44_L44001_eq (o : Orc H) (rd : Option Nat) (t6 t7 t8 t52 : Value) (h : H) (c : Nat) (df : List Nat) : jx P o 92 rd f44_c44001 (tmOf [6, 7, 8, 52] [t6, t7, t8, t52]) h c df (Klp [6, 7, 8, 52]) = f44_L44001 o rd t6 t7 t8 t52 h c df := by kernel_rfl
noncomputable def f44_R44000 (o : Orc H) (l : Nat) (t25 t1 t5 t6 : Value) (h : H) (c : Nat) : Option (Rt H) :=
 (stN (newB h (256 * c + 0) [(.int .i64 0), (.int .i64 0), (.int .i64 0), (.int .i64 0), (.int .i64 0), (.int .i64 0)]) 6 (ptrTo (256 * c + 0)) t25).bind fun h1 =>
 (beginSt h1 l).bind fun h2 =>
 (ld1 h2 t5).bind fun t26 =>
 (aNilCheck t26).bind fun t27 =>
 (addOff t27 0).bind fun t28 =>
 (addOff (ptrTo (256 * c + 0)) 0).bind fun t29 =>
 (ld1 h2 t29).bind fun t30 =>
 (aBinOp P .mul 3 (.int .i64 4) t30).bind fun t31 =>
 (addOff (ptrTo (256 * c + 0)) 2).bind fun t32 =>
 (ld1 h2 t32).bind fun t33 =>
 (aBinOp P .add 3 t31 t33).bind fun t34 =>
 (addOff (ptrTo (256 * c + 0)) 3).bind fun t35 =>
 (ld1 h2 t35).bind fun t36 =>
 (aBinOp P .mul 3 (.int .i64 4) t36).bind fun t37 =>
 (addOff (ptrTo (256 * c + 0)) 5).bind fun t38 =>
 (ld1 h2 t38).bind fun t39 =>
 (aBinOp P .add 3 t37 t39).bind fun t40 =>
 (callF o 72 [t28, t34, t40] h2 ((c + 1) + 1)).bind fun r3 =>
 (addOff t1 0).bind fun t42 =>
 (ld1 r3.2.1 t42).bind fun t43 =>
 (addOff (ptrTo (256 * c + 0)) 0).bind fun t44 =>
 (ld1 r3.2.1 t44).bind fun t45 =>
 (addOff (ptrTo (256 * c + 0)) 1).bind fun t46 =>
 (ld1 r3.2.1 t46).bind fun t47 =>
 (ixS 20 t43 t45).bind fun t48 =>
 (ixA 4 5 t48 t47).bind fun t49 =>
 (addOff t49 1).bind fun t50 =>
 (ldN r3.2.1 4 t50).bind fun t51 =>
 (stN (newB r3.2.1 (256 * r3.2.2 + 10) [(.int .i64 0), (.int .i64 0), (.int .i64 0), (.int .i64 0)]) 4 (ptrTo (256 * r3.2.2 + 10)) t51).bind fun h5 =>
 (o (f44_k44001 (some l)) [t6, (ptrTo (256 * c + 0)), (ptrTo (256 * r3.2.2 + 10)), (.int .i64 0)] h5 ((r3.2.2 + 1) + 1) []).bind fun r6 =>
 cond (exIs r6.e (.exit 2))
 ((setState r6.h l .ready none).bind fun h7 =>
 cond (List.isEmpty (r6.df : List Nat)) (some { e := .ret, vs := [.bool true], h := h7, c := r6.c, df := [] }) none)
 (none)
theorem f44_R44000_eq (o : Orc H) (l : Nat) (t25 t1 t5 t6 : Value) (h : H) (c : Nat) : jx P o 92 (some l) f44_a44000 (tmOf ([25] ++ [1, 5, 6]) [t25, t1, t5, t6]) h c [] (rndK P o 92 l f44_c44000) = f44_R44000 o l t25 t1 t5 t6 h c := by kernel_rfl
noncomputable def f44_S (o : Orc H) (t0 : Value) (h : H) (c : Nat) : Option (Rt H) :=
 (bif (t0 : Value).cells.toList.all isFlat then
 (addOff (ptrTo (256 * c + 0)) 0).bind fun t10 =>
 (ld1 (newB h (256 * c + 0) (t0 : Value).cells.toList) t10).bind fun t11 =>
 (lenS t11).bind fun t12 =>
 (aBinOp P .mul 3 (.int .i64 4) t12).bind fun t14 =>
 (callF o 71 [t14] (newB h (256 * c + 0) (t0 : Value).cells.toList) (((c + 1) + 1) + 1)).bind fun r0 =>
 (bldV [(.slice none 0 0)] [(0, 1, r0.1)]).bind fun t16 =>
 (bif (t16 : Value).cells.toList.all isFlat then
 (aBinOp P .mul 3 (.int .i64 6) t12).bind fun t19 =>
 (callF o 71 [t19] (newB r0.2.1 (256 * ((c + 1) + 1) + 4) (t16 : Value).cells.toList) r0.2.2).bind fun r1 =>
 (bldV [(.slice none 0 0)] [(0, 1, r1.1)]).bind fun t21 =>
 (bif (t21 : Value).cells.toList.all isFlat then
 (stN (newB (newB (newB r1.2.1 (256 * ((c + 1) + 1) + 9) (t21 : Value).cells.toList) (256 * ((c + 1) + 1) + 10) [(.pointer none)]) (256 * ((c + 1) + 1) + 11) [(.pointer none)]) 1 (ptrTo (256 * ((c + 1) + 1) + 10)) (ptrTo (256 * ((c + 1) + 1) + 4))).bind fun h3 =>
 (stN h3 1 (ptrTo (256 * ((c + 1) + 1) + 11)) (ptrTo (256 * ((c + 1) + 1) + 9))).bind fun h5 =>
 (ldN h5 1 (ptrTo (256 * c + 0))).bind fun t23 =>
 (callF o 59 [t23] h5 (r1.2.2 + 1)).bind fun r6 =>
 (rangeV o 92 none [1, 5, 6] [] #[25] f44_a44000 f44_c44000 r6.1 [(ptrTo (256 * c + 0)), (ptrTo (256 * ((c + 1) + 1) + 10)), (ptrTo (256 * ((c + 1) + 1) + 11))] r6.2.1 r6.2.2 []).bind fun q7 =>
 cond (exIs q7.1 .normal)
 ((ld1 q7.2.1 (ptrTo (256 * ((c + 1) + 1) + 10))).bind fun t90 =>
 (ld1 q7.2.1 (ptrTo (256 * ((c + 1) + 1) + 11))).bind fun t91 =>
 (takeAll q7.2.1 q7.2.2.2).bind fun h8 =>
 some { e := .ret, vs := [.tuple #[t90, t91]], h := h8, c := (q7.2.2.1 + 1), df := [] })
 (none)
 else none)
 else none)
 else none)
theorem f44_S_eq (o : Orc H) (t0 : Value) (h : H) (c : Nat) : jx P o 92 none f44_c (tmOf (List.range 1) [t0]) h c [] (Kfn P Try.f44.results.toList) = f44_S o t0 h c := by kernel_rfl
theorem f44_go {t0 : Value} {h : FH} {c : Nat} {df : List Nat} {r : Rt FH} (e : f44_S G t0 h c = some r) : G (.fn 44) [t0] h c df = some r := runG_fn (a := f44_f) bk_44 rfl (fun args h c => by cases args <;> rfl) rfl ((f44_S_eq G t0 h c).trans e)
theorem f44_N44001 {rd : Option Nat} {t6 t7 t8 t52 : Value} {h : FH} {c : Nat} {df : List Nat} {q r : Rt FH} (e : f44_L44001 G rd t6 t7 t8 t52 h c df = some q) (hq : q.e = .normal) (k : G (f44_k44001 rd) q.vs (gcR h c df q).h (gcR h c df q).c q.df = some r) : G (f44_k44001 rd) [t6, t7, t8, t52] h c df = some r := runG_lp_next ((f44_L44001_eq G rd t6 t7 t8 t52 h c df).trans e) hq k
theorem f44_Z44001 {rd : Option Nat} {t6 t7 t8 t52 : Value} {h : FH} {c : Nat} {df : List Nat} {q : Rt FH} (e : f44_L44001 G rd t6 t7 t8 t52 h c df = some q) (hq : q.e ≠ .normal) : G (f44_k44001 rd) [t6, t7, t8, t52] h c df = some (gcR h c df q) := runG_lp_last ((f44_L44001_eq G rd t6 t7 t8 t52 h c df).trans e) hq
theorem f44_G44000 {t25 t1 t5 t6 : Value} {l : Nat} {h : FH} {c : Nat} {df : List Nat} {r : Rt FH} (e : f44_R44000 G l t25 t1 t5 t6 h c = some r) : G (.rnd 92 [1, 5, 6] [] [25] l f44_a44000 f44_c44000) [t25, t1, t5, t6] h c df = some r := runG_rnd ((f44_R44000_eq G l t25 t1 t5 t6 h c).trans e)
noncomputable def f45_L45000 (o : Orc H) (rd : Option Nat) (t0 t3 t9 t10 : Value) (h : H) (c : Nat) (df : List Nat) : Option (Rt H) :=
 (aBinOp P .lss 3 t10 t9).bind fun t11 =>
 boolK t11
 ((callF o 46 [t0, t10] h (((c + 1) + 1) + 1)).bind fun r0 =>
 (aBinOp P .eql 3 r0.1 t10).bind fun t17 =>
 (boolK t17
   ((bldL [(.int .i64 0)] [(0, 1, t10)]).bind fun r1 =>
   (appV (newB r0.2.1 (256 * r0.2.2 + 2) r1) (256 * r0.2.2 + 3) 1 8 t3 (.slice (some ⟨(256 * r0.2.2 + 2), 0, none⟩) 1 1)).bind fun r2 =>
   some { e := .normal, vs := [t0, r2.1, t9, t10], h := r2.2, c := (r0.2.2 + 1), df := df })
   (some { e := .normal, vs := [t0, t3, t9, t10], h := r0.2.1, c := r0.2.2, df := df }) : Option (Rt H)).bind fun r4 =>
 cond (exIs r4.e .normal)
  ((aBinOp P .add 3 (r4.v 3) (.int .i64 1)).bind fun t22 =>
  some { e := .normal, vs := [(r4.v 0), (r4.v 1), (r4.v 2), t22], h := r4.h, c := (r4.c + 1), df := r4.df })
  (none))
 (some { e := (.exit 0), vs := [t0, t3, t9, t10], h := h, c := (c + 1), df := df })
theorem f45_L45000_eq (o : Orc H) (rd : Option Nat) (t0 t3 t9 t10 : Value) (h : H) (c : Nat) (df : List Nat) : jx P o 24 rd f45_c45000 (tmOf [0, 3, 9, 10] [t0, t3, t9, t10]) h c df (Klp [0, 3, 9, 10]) = f45_L45000 o rd t0 t3 t9 t10 h c df := by kernel_rfl
noncomputable def f45_S (o : Orc H) (t0 : Value) (h : H) (c : Nat) : Option (Rt H) :=
 (aNilCheck t0).bind fun t6 =>
 (addOff t6 0).bind fun t7 =>
 (ld1 h t7).bind fun t8 =>
 (lenS t8).bind fun t9 =>
 (o (f45_k45000 none) [t0, (.slice none 0 0), t9, (.int .i64 0)] h (((c + 1) + 1) + 1) []).bind fun r0 =>
 cond (exIs r0.e (.exit 0))
 ((takeAll r0.h r0.df).bind fun h1 =>
 some { e := .ret, vs := [(r0.v 1)], h := h1, c := (r0.c + 1), df := [] })
 (none)
theorem f45_S_eq (o : Orc H) (t0 : Value) (h : H) (c : Nat) : jx P o 24 none f45_c (tmOf (List.range 1) [t0]) h c [] (Kfn P Try.f45.results.toList) = f45_S o t0 h c := by kernel_rfl
theorem f45_go {t0 : Value} {h : FH} {c : Nat} {df : List Nat} {r : Rt FH} (e : f45_S G t0 h c = some r) : G (.fn 45) [t0] h c df = some r := runG_fn (a := f45_f) bk_45 rfl (fun args h c => by cases args <;> rfl) rfl ((f45_S_eq G t0 h c).trans e)
theorem f45_N45000 {rd : Option Nat} {t0 t3 t9 t10 : Value} {h : FH} {c : Nat} {df : List Nat} {q r : Rt FH} (e : f45_L45000 G rd t0 t3 t9 t10 h c df = some q) (hq : q.e = .normal) (k : G (f45_k45000 rd) q.vs q.h q.c q.df = some r) : G (f45_k45000 rd) [t0, t3, t9, t10] h c df = some r := runG_lp_next ((f45_L45000_eq G rd t0 t3 t9 t10 h c df).trans e) hq k
theorem f45_Z45000 {rd : Option Nat} {t0 t3 t9 t10 : Value} {h : FH} {c : Nat} {df : List Nat} {q : Rt FH} (e : f45_L45000 G rd t0 t3 t9 t10 h c df = some q) (hq : q.e ≠ .normal) : G (f45_k45000 rd) [t0, t3, t9, t10] h c df = some q := runG_lp_last ((f45_L45000_eq G rd t0 t3 t9 t10 h c df).trans e) hq
noncomputable def f46_L46000 (o : Orc H) (rd : Option Nat) (t0 t1 : Value) (h : H) (c : Nat) (df : List Nat) : Option (Rt H) :=
 (aNilCheck t0).bind fun t6 =>
 (addOff t6 0).bind fun t7 =>
 (ld1 h t7).bind fun t8 =>
 (ixS 1 t8 t1).bind fun t10 =>
 (ld1 h t10).bind fun t11 =>
 (aBinOp P .neq 3 t11 t1).bind fun t13 =>
 boolK t13
 ((aNilCheck t0).bind fun t15 =>
 (addOff t15 0).bind fun t16 =>
 (ld1 h t16).bind fun t17 =>
 (ixS 1 t17 t1).bind fun t19 =>
 (ld1 h t19).bind fun t20 =>
 some { e := .normal, vs := [t0, t20], h := h, c := ((c + 1) + 1), df := df })
 (some { e := (.exit 0), vs := [t0, t1], h := h, c := (c + 1), df := df })
theorem f46_L46000_eq (o : Orc H) (rd : Option Nat) (t0 t1 : Value) (h : H) (c : Nat) (df : List Nat) : jx P o 22 rd f46_c46000 (tmOf [0, 1] [t0, t1]) h c df (Klp [0, 1]) = f46_L46000 o rd t0 t1 h c df := by kernel_rfl
noncomputable def f46_S (o : Orc H) (t0 t1 : Value) (h : H) (c : Nat) : Option (Rt H) :=
 (o (f46_k46000 none) [t0, t1] h (c + 1) []).bind fun r0 =>
 cond (exIs r0.e (.exit 0))
 ((takeAll r0.h r0.df).bind fun h1 =>
 some { e := .ret, vs := [(r0.v 1)], h := h1, c := (r0.c + 1), df := [] })
 (none)
theorem f46_S_eq (o : Orc H) (t0 t1 : Value) (h : H) (c : Nat) : jx P o 22 none f46_c (tmOf (List.range 2) [t0, t1]) h c [] (Kfn P Try.f46.results.toList) = f46_S o t0 t1 h c := by kernel_rfl
theorem f46_go {t0 t1 : Value} {h : FH} {c : Nat} {df : List Nat} {r : Rt FH} (e : f46_S G t0 t1 h c = some r) : G (.fn 46) [t0, t1] h c df = some (gcR h c [] r) := runG_fn (a := f46_f) bk_46 rfl (fun args h c => by cases args <;> rfl) rfl ((f46_S_eq G t0 t1 h c).trans e)
theorem f46_N46000 {rd : Option Nat} {t0 t1 : Value} {h : FH} {c : Nat} {df : List Nat} {q r : Rt FH} (e : f46_L46000 G rd t0 t1 h c df = some q) (hq : q.e = .normal) (k : G (f46_k46000 rd) q.vs (gcR h c df q).h (gcR h c df q).c q.df = some r) : G (f46_k46000 rd) [t0, t1] h c df = some r := runG_lp_next ((f46_L46000_eq G rd t0 t1 h c df).trans e) hq k
theorem f46_Z46000 {rd : Option Nat} {t0 t1 : Value} {h : FH} {c : Nat} {df : List Nat} {q : Rt FH} (e : f46_L46000 G rd t0 t1 h c df = some q) (hq : q.e ≠ .normal) : G (f46_k46000 rd) [t0, t1] h c df = some (gcR h c df q) := runG_lp_last ((f46_L46000_eq G rd t0 t1 h c df).trans e) hq
noncomputable def f47_L47001 (o : Orc H) (rd : Option Nat) (t2 t4 t7 t15 t16 t17 t35 t36 : Value) (h : H) (c : Nat) (df : List Nat) : Option (Rt H) :=
 (aBinOp P .lss 3 t36 t35).bind fun t37 =>
 boolK t37
 ((ld1 h t7).bind fun t39 =>
 (aBinOp P .mul 3 (.int .i64 7) t36).bind fun t41 =>
 (aBinOp P .add 3 t41 (.int .i64 4)).bind fun t42 =>
 (aBinOp P .mul 3 (.int .i64 7) t36).bind fun t44 =>
 (aBinOp P .add 3 t44 (.int .i64 7)).bind fun t45 =>
 (slS h 1 t39 (some t42) (some t45) none).bind fun t46 =>
 (callF o 56 [t46] h (((c + 1) + 1) + 1)).bind fun r0 =>
 (aUnOp .not r0.1).bind fun t48 =>
 boolK t48
  ((stN r0.2.1 1 t4 (.int .i64 130)).bind fun h2 =>
  some { e := .ret, vs := [t2, t4, t7, t15, t16, t17, t35, t36], h := h2, c := (r0.2.2 + 1), df := df })
  ((aBinOp P .add 3 t36 (.int .i64 1)).bind fun t49 =>
  some { e := .normal, vs := [t2, t4, t7, t15, t16, t17, t35, t49], h := r0.2.1, c := (r0.2.2 + 1), df := df }))
 (some { e := (.exit 2), vs := [t2, t4, t7, t15, t16, t17, t35, t36], h := h, c := (c + 1), df := df })
theorem f47_L47001_eq (o : Orc H) (rd : Option Nat) (t2 t4 t7 t15 t16 t17 t35 t36 : Value) (h : H) (c : Nat) (df : List Nat) : jx P o 71 rd f47_c47001 (tmOf [2, 4, 7, 15, 16, 17, 35, 36] [t2, t4, t7, t15, t16, t17, t35, t36]) h c df (Klp [2, 4, 7, 15, 16, 17, 35, 36]) = f47_L47001 o rd t2 t4 t7 t15 t16 t17 t35 t36 h c df := by kernel_rfl
noncomputable def f47_R47002 (o : Orc H) (l : Nat) (t52 t4 t7 : Value) (h : H) (c : Nat) : Option (Rt H) :=
 (stN (newB h (256 * c + 0) [(.int .i64 0), (.int .i64 0), (.int .i64 0), (.int .i64 0), (.int .i64 0), (.int .i64 0)]) 6 (ptrTo (256 * c + 0)) t52).bind fun h1 =>
 (beginSt h1 l).bind fun h2 =>
 (ld1 h2 t7).bind fun t53 =>
 (addOff (ptrTo (256 * c + 0)) 0).bind fun t54 =>
 (ld1 h2 t54).bind fun t55 =>
 (addOff (ptrTo (256 * c + 0)) 1).bind fun t56 =>
 (ld1 h2 t56).bind fun t57 =>
 (addOff (ptrTo (256 * c + 0)) 2).bind fun t58 =>
 (ld1 h2 t58).bind fun t59 =>
 (callF o 50 [t53, t55, t57, t59] h2 ((c + 1) + 1)).bind fun r3 =>
 (ld1 r3.2.1 t7).bind fun t61 =>
 (addOff (ptrTo (256 * c + 0)) 3).bind fun t62 =>
 (ld1 r3.2.1 t62).bind fun t63 =>
 (addOff (ptrTo (256 * c + 0)) 4).bind fun t64 =>
 (ld1 r3.2.1 t64).bind fun t65 =>
 (addOff (ptrTo (256 * c + 0)) 5).bind fun t66 =>
 (ld1 r3.2.1 t66).bind fun t67 =>
 (callF o 50 [t61, t63, t65, t67] r3.2.1 r3.2.2).bind fun r4 =>
 (aBinOp P .neq 3 r3.1 r4.1).bind fun t69 =>
 (bif (sameB (ridV t7) h2 r3.2.1 && (sameB (ridV t62) h2 r3.2.1 && (sameB (ridV t64) h2 r3.2.1 && (sameB (ridV t66) h2 r3.2.1 && true)))) then
 boolK t69
 ((stN r4.2.1 1 t4 (.int .i64 130)).bind fun h6 =>
 (setState h6 l .done (some .ret)).bind fun h7 =>
 cond (List.isEmpty ([] : List Nat)) (some { e := .ret, vs := [.bool false], h := h7, c := (r4.2.2 + 1), df := [] }) none)
 ((setState r4.2.1 l .ready none).bind fun h8 =>
 cond (List.isEmpty ([] : List Nat)) (some { e := .ret, vs := [.bool true], h := h8, c := r4.2.2, df := [] }) none)
 else none)
theorem f47_R47002_eq (o : Orc H) (l : Nat) (t52 t4 t7 : Value) (h : H) (c : Nat) : jx P o 71 (some l) f47_a47002 (tmOf ([52] ++ [4, 7]) [t52, t4, t7]) h c [] (rndK P o 71 l f47_c47002) = f47_R47002 o l t52 t4 t7 h c := by kernel_rfl
noncomputable def f47_L47000 (o : Orc H) (rd : Option Nat) (t2 t4 t15 t16 t17 : Value) (h : H) (c : Nat) (df : List Nat) : Option (Rt H) :=
 (aBinOp P .lss 3 t17 t16).bind fun t18 =>
 boolK t18
 ((ixS 1 t15 t17).bind fun t19 =>
 (ld1 h t19).bind fun t20 =>
 (stN (newB h (256 * (c + 1) + 2) [(.slice none 0 0)]) 1 (ptrTo (256 * (c + 1) + 2)) t20).bind fun h1 =>
 (ld1 h1 (ptrTo (256 * (c + 1) + 2))).bind fun t21 =>
 (lenS t21).bind fun t22 =>
 (addOff t2 0).bind fun t23 =>
 (ld1 h1 t23).bind fun t24 =>
 (lenS t24).bind fun t25 =>
 (aBinOp P .mul 3 (.int .i64 7) t25).bind fun t26 =>
 (aBinOp P .neq 3 t22 t26).bind fun t27 =>
 ((gv t27 false).bind fun w => cond w (ret1 h1 (((c + 1) + 1) + 1) (ld1 h1 (ptrTo (256 * (c + 1) + 2)))) (some (undef, h1, (((c + 1) + 1) + 1)))).bind fun r2 =>
 ((gv t27 false).bind fun w => cond w (callF o 55 [r2.1] r2.2.1 r2.2.2) (some (undef, r2.2.1, r2.2.2))).bind fun r3 =>
 ((gv t27 false).bind fun w => cond w (ret1 r3.2.1 r3.2.2 (aUnOp .not r3.1)) (some (undef, r3.2.1, r3.2.2))).bind fun r4 =>
 (pickV t27 (.bool true) r4.1).bind fun t32 =>
 boolK t32
  ((stN r4.2.1 1 t4 (.int .i64 130)).bind fun h6 =>
  some { e := .ret, vs := [t2, t4, t15, t16, t17], h := h6, c := (r4.2.2 + 1), df := df })
  ((addOff t2 0).bind fun t33 =>
  (ld1 r4.2.1 t33).bind fun t34 =>
  (lenS t34).bind fun t35 =>
  (o (f47_k47001 rd) [t2, t4, (ptrTo (256 * (c + 1) + 2)), t15, t16, t17, t35, (.int .i64 0)] r4.2.1 (r4.2.2 + 1) df).bind fun r7 =>
  cond (exIs r7.e (.exit 2))
   ((ldN r7.h 1 (r7.v 0)).bind fun t50 =>
   (callF o 59 [t50] r7.h (r7.c + 1)).bind fun r8 =>
   (rangeV o 71 rd [4, 7] [] #[52] f47_a47002 f47_c47002 r8.1 [(r7.v 1), (r7.v 2)] r8.2.1 r8.2.2 r7.df).bind fun q9 =>
   cond (exIs q9.1 .normal)
    ((aBinOp P .add 3 (r7.v 5) (.int .i64 1)).bind fun t70 =>
    some { e := .normal, vs := [(r7.v 0), (r7.v 1), (r7.v 3), (r7.v 4), t70], h := q9.2.1, c := (q9.2.2.1 + 1), df := q9.2.2.2 })
    (cond (exIs q9.1 .ret)
     (some { e := .ret, vs := [(r7.v 0), (r7.v 1), (r7.v 3), (r7.v 4), (r7.v 5)], h := q9.2.1, c := q9.2.2.1, df := q9.2.2.2 })
     (none)))
   (cond (exIs r7.e .ret)
    (some { e := .ret, vs := [(r7.v 0), (r7.v 1), (r7.v 3), (r7.v 4), (r7.v 5)], h := r7.h, c := r7.c, df := r7.df })
    (none))))
 (some { e := (.exit 0), vs := [t2, t4, t15, t16, t17], h := h, c := (c + 1), df := df })
theorem f47_L47000_eq (o : Orc H) (rd : Option Nat) (t2 t4 t15 t16 t17 : Value) (h : H) (c : Nat) (df : List Nat) : jx P o 71 rd f47_c47000 (tmOf [2, 4, 15, 16, 17] [t2, t4, t15, t16, t17]) h c df (Klp [2, 4, 15, 16, 17]) = f47_L47000 o rd t2 t4 t15 t16 t17 h c df := by kernel_rfl
noncomputable def f47_S (o : Orc H) (t0 t1 : Value) (h : H) (c : Nat) : Option (Rt H) :=
 (bif (t0 : Value).cells.toList.all isFlat then
 (ldN (newB (newB h (256 * c + 0) (t0 : Value).cells.toList) (256 * c + 1) [(.int .i64 0)]) 1 (ptrTo (256 * c + 0))).bind fun t10 =>
 (callF o 43 [t10] (newB (newB h (256 * c + 0) (t0 : Value).cells.toList) (256 * c + 1) [(.int .i64 0)]) ((c + 1) + 1)).bind fun r0 =>
 (aBinOp P .neq 27 r0.1 (.int .i64 0)).bind fun t13 =>
 boolK t13
 ((stN r0.2.1 1 (ptrTo (256 * c + 1)) r0.1).bind fun h2 =>
 (ld1 h2 (ptrTo (256 * c + 1))).bind fun v3 =>
 some { e := .ret, vs := [v3], h := h2, c := ((r0.2.2 + 1) + 1), df := [] })
 ((lenS t1).bind fun t16 =>
 (o (f47_k47000 none) [(ptrTo (256 * c + 0)), (ptrTo (256 * c + 1)), t1, t16, (.int .i64 0)] r0.2.1 ((r0.2.2 + 1) + 1) []).bind fun r4 =>
 cond (exIs r4.e (.exit 0))
  ((stN r4.h 1 (r4.v 1) (.int .i64 0)).bind fun h8 =>
  (takeAll h8 r4.df).bind fun h9 =>
  (ld1 h9 (r4.v 1)).bind fun v10 =>
  some { e := .ret, vs := [v10], h := h9, c := (r4.c + 1), df := [] })
  (cond (exIs r4.e .ret)
   ((takeAll r4.h r4.df).bind fun h5 =>
   (ld1 h5 (r4.v 1)).bind fun v6 =>
   some { e := .ret, vs := [v6], h := h5, c := r4.c, df := [] })
   (none)))
 else none)
theorem f47_S_eq (o : Orc H) (t0 t1 : Value) (h : H) (c : Nat) : jx P o 71 none f47_c (tmOf (List.range 2) [t0, t1]) h c [] (Kfn P Try.f47.results.toList) = f47_S o t0 t1 h c := by kernel_rfl
theorem f47_go {t0 t1 : Value} {h : FH} {c : Nat} {df : List Nat} {r : Rt FH} (e : f47_S G t0 t1 h c = some r) : G (.fn 47) [t0, t1] h c df = some (gcR h c [] r) := runG_fn (a := f47_f) bk_47 rfl (fun args h c => by cases args <;> rfl) rfl ((f47_S_eq G t0 t1 h c).trans e)
theorem f47_N47001 {rd : Option Nat} {t2 t4 t7 t15 t16 t17 t35 t36 : Value} {h : FH} {c : Nat} {df : List Nat} {q r : Rt FH} (e : f47_L47001 G rd t2 t4 t7 t15 t16 t17 t35 t36 h c df = some q) (hq : q.e = .normal) (k : G (f47_k47001 rd) q.vs (gcR h c df q).h (gcR h c df q).c q.df = some r) : G (f47_k47001 rd) [t2, t4, t7, t15, t16, t17, t35, t36] h c df = some r := runG_lp_next ((f47_L47001_eq G rd t2 t4 t7 t15 t16 t17 t35 t36 h c df).trans e) hq k
theorem f47_Z47001 {rd : Option Nat} {t2 t4 t7 t15 t16 t17 t35 t36 : Value} {h : FH} {c : Nat} {df : List Nat} {q : Rt FH} (e : f47_L47001 G rd t2 t4 t7 t15 t16 t17 t35 t36 h c df = some q) (hq : q.e ≠ .normal) : G (f47_k47001 rd) [t2, t4, t7, t15, t16, t17, t35, t36] h c df = some (gcR h c df q) := runG_lp_last ((f47_L47001_eq G rd t2 t4 t7 t15 t16 t17 t35 t36 h c df).trans e) hq
theorem f47_N47000 {rd : Option Nat} {t2 t4 t15 t16 t17 : Value} {h : FH} {c : Nat} {df : List Nat} {q r : Rt FH} (e : f47_L47000 G rd t2 t4 t15 t16 t17 h c df = some q) (hq : q.e = .normal) (k : G (f47_k47000 rd) q.vs q.h q.c q.df = some r) : G (f47_k47000 rd) [t2, t4, t15, t16, t17] h c df = some r := runG_lp_next ((f47_L47000_eq G rd t2 t4 t15 t16 t17 h c df).trans e) hq k
theorem f47_Z47000 {rd : Option Nat} {t2 t4 t15 t16 t17 : Value} {h : FH} {c : Nat} {df : List Nat} {q : Rt FH} (e : f47_L47000 G rd t2 t4 t15 t16 t17 h c df = some q) (hq : q.e ≠ .normal) : G (f47_k47000 rd) [t2, t4, t15, t16, t17] h c df = some q := runG_lp_last ((f47_L47000_eq G rd t2 t4 t15 t16 t17 h c df).trans e) hq
theorem f47_G47002 {t52 t4 t7 : Value} {l : Nat} {h : FH} {c : Nat} {df : List Nat} {r : Rt FH} (e : f47_R47002 G l t52 t4 t7 h c = some r) : G (.rnd 71 [4, 7] [] [52] l f47_a47002 f47_c47002) [t52, t4, t7] h c df = some r := runG_rnd ((f47_R47002_eq G l t52 t4 t7 h c).trans e)
noncomputable def f48_L48000 (o : Orc H) (rd : Option Nat) (t3 t6 t7 t8 : Value) (h : H) (c : Nat) (df : List Nat) : Option (Rt H) :=
 (aBinOp P .lss 3 t8 t7).bind fun t9 =>
 boolK t9
 ((ixS 1 t6 t8).bind fun t10 =>
 (ld1 h t10).bind fun t11 =>
 (aBinOp P .add 3 t3 t11).bind fun t14 =>
 (aBinOp P .add 3 t8 (.int .i64 1)).bind fun t15 =>
 some { e := .normal, vs := [t14, t6, t7, t15], h := h, c := ((((c + 1) + 1) + 1) + 1), df := df })
 (some { e := (.exit 0), vs := [t3, t6, t7, t8], h := h, c := (c + 1), df := df })
theorem f48_L48000_eq (o : Orc H) (rd : Option Nat) (t3 t6 t7 t8 : Value) (h : H) (c : Nat) (df : List Nat) : jx P o 17 rd f48_c48000 (tmOf [3, 6, 7, 8] [t3, t6, t7, t8]) h c df (Klp [3, 6, 7, 8]) = f48_L48000 o rd t3 t6 t7 t8 h c df := by kernel_rfl
noncomputable def f48_S (o : Orc H) (t0 : Value) (h : H) (c : Nat) : Option (Rt H) :=
 (lenS t0).bind fun t7 =>
 (o (f48_k48000 none) [(.int .i64 0), t0, t7, (.int .i64 0)] h (((c + 1) + 1) + 1) []).bind fun r0 =>
 cond (exIs r0.e (.exit 0))
 ((takeAll r0.h r0.df).bind fun h1 =>
 some { e := .ret, vs := [(r0.v 0)], h := h1, c := (r0.c + 1), df := [] })
 (none)
theorem f48_S_eq (o : Orc H) (t0 : Value) (h : H) (c : Nat) : jx P o 17 none f48_c (tmOf (List.range 1) [t0]) h c [] (Kfn P Try.f48.results.toList) = f48_S o t0 h c := by kernel_rfl
noncomputable def f49_L49000 (o : Orc H) (rd : Option Nat) (t1 t7 t19 t20 t21 : Value) (h : H) (c : Nat) (df : List Nat) : Option (Rt H) :=
 (aBinOp P .lss 3 t21 t20).bind fun t22 =>
 boolK t22
 ((ixS 1 t19 t21).bind fun t23 =>
 (ld1 h t23).bind fun t24 =>
 (aBinOp P .quo 3 t24 (.int .i64 6)).bind fun t28 =>
 (aBinOp P .rem 3 t24 (.int .i64 6)).bind fun t30 =>
 (callF o 74 [t1, t28, t30] h (((c + 1) + 1) + 1)).bind fun r0 =>
 (bldL [(.int .i64 0)] [(0, 1, r0.1)]).bind fun r1 =>
 (appV (newB r0.2.1 (256 * ((c + 1) + 1) + 7) r1) (256 * ((c + 1) + 1) + 8) 1 8 t7 (.slice (some ⟨(256 * ((c + 1) + 1) + 7), 0, none⟩) 1 1)).bind fun r2 =>
 (aBinOp P .add 3 t21 (.int .i64 1)).bind fun t34 =>
 some { e := .normal, vs := [t1, r2.1, t19, t20, t34], h := r2.2, c := (r0.2.2 + 1), df := df })
 (some { e := (.exit 0), vs := [t1, t7, t19, t20, t21], h := h, c := (c + 1), df := df })
theorem f49_L49000_eq (o : Orc H) (rd : Option Nat) (t1 t7 t19 t20 t21 : Value) (h : H) (c : Nat) (df : List Nat) : jx P o 36 rd f49_c49000 (tmOf [1, 7, 19, 20, 21] [t1, t7, t19, t20, t21]) h c df (Klp [1, 7, 19, 20, 21]) = f49_L49000 o rd t1 t7 t19 t20 t21 h c df := by kernel_rfl
noncomputable def f49_S (o : Orc H) (t0 t1 : Value) (h : H) (c : Nat) : Option (Rt H) :=
 (bif (t0 : Value).cells.toList.all isFlat then
 (ldN (newB h (256 * c + 0) (t0 : Value).cells.toList) 1 (ptrTo (256 * c + 0))).bind fun t11 =>
 (callF o 44 [t11] (newB h (256 * c + 0) (t0 : Value).cells.toList) ((c + 1) + 1)).bind fun r0 =>
 (extV r0.1 0).bind fun t13 =>
 (extV r0.1 1).bind fun t14 =>
 (bldL [] []).bind fun r1 =>
 (aNilCheck t14).bind fun t17 =>
 (addOff t17 0).bind fun t18 =>
 (callF o 45 [t18] (newB r0.2.1 (256 * r0.2.2 + 0) r1) ((r0.2.2 + 1) + 1)).bind fun r2 =>
 (lenS r2.1).bind fun t20 =>
 (o (f49_k49000 none) [t1, (.slice (some ⟨(256 * r0.2.2 + 0), 0, none⟩) 0 0), r2.1, t20, (.int .i64 0)] r2.2.1 r2.2.2 []).bind fun r3 =>
 cond (exIs r3.e (.exit 0))
 ((takeAll r3.h r3.df).bind fun h4 =>
 some { e := .ret, vs := [(r3.v 1)], h := h4, c := (r3.c + 1), df := [] })
 (none)
 else none)
theorem f49_S_eq (o : Orc H) (t0 t1 : Value) (h : H) (c : Nat) : jx P o 36 none f49_c (tmOf (List.range 2) [t0, t1]) h c [] (Kfn P Try.f49.results.toList) = f49_S o t0 t1 h c := by kernel_rfl
noncomputable def f50_S (o : Orc H) (t0 t1 t2 t3 : Value) (h : H) (c : Nat) : Option (Rt H) :=
 (aBinOp P .mul 3 (.int .i64 7) t1).bind fun t11 =>
 (aBinOp P .add 3 t11 t3).bind fun t13 =>
 (ixS 1 t0 t13).bind fun t14 =>
 (ld1 h t14).bind fun t15 =>
 (aBinOp P .mul 3 (.int .i64 7) t1).bind fun t18 =>
 (aBinOp P .add 3 t18 (.int .i64 4)).bind fun t19 =>
 (callF o 60 [] h ((c + 1) + 1)).bind fun r0 =>
 (ixV 4 true 4 r0.1 t3).bind fun t22 =>
 (ixV 4 false 1 t22 t2).bind fun t24 =>
 (aBinOp P .add 3 t19 t24).bind fun t25 =>
 (ixS 1 t0 t25).bind fun t26 =>
 (ld1 r0.2.1 t26).bind fun t27 =>
 (aBinOp P .add 3 t15 t27).bind fun t28 =>
 (bif (sameB (ridV t14) h r0.2.1 && true) then
 some { e := .ret, vs := [t28], h := r0.2.1, c := r0.2.2, df := [] }
 else none)
theorem f50_S_eq (o : Orc H) (t0 t1 t2 t3 : Value) (h : H) (c : Nat) : jx P o 29 none f50_c (tmOf (List.range 4) [t0, t1, t2, t3]) h c [] (Kfn P Try.f50.results.toList) = f50_S o t0 t1 t2 t3 h c := by kernel_rfl
theorem f50_go {t0 t1 t2 t3 : Value} {h : FH} {c : Nat} {df : List Nat} {r : Rt FH} (e : f50_S G t0 t1 t2 t3 h c = some r) : G (.fn 50) [t0, t1, t2, t3] h c df = some (gcR h c [] r) := runG_fn (a := f50_f) bk_50 rfl (fun args h c => by cases args <;> rfl) rfl ((f50_S_eq G t0 t1 t2 t3 h c).trans e)
noncomputable def f53_S (o : Orc H) (t0 : Value) (h : H) (c : Nat) : Option (Rt H) :=
 (aBinOp P .eql 34 t0 (.slice none 0 0)).bind fun t4 =>
 boolK t4
 (some { e := .ret, vs := [(.slice none 0 0)], h := h, c := (((c + 1) + 1) + 1), df := [] })
 ((bldL [] []).bind fun r0 =>
 (appV (newB h (256 * ((c + 1) + 1) + 0) r0) (256 * ((c + 1) + 1) + 2) 1 8 (.slice (some ⟨(256 * ((c + 1) + 1) + 0), 0, none⟩) 0 0) t0).bind fun r1 =>
 some { e := .ret, vs := [r1.1], h := r1.2, c := (((c + 1) + 1) + 1), df := [] })
theorem f53_S_eq (o : Orc H) (t0 : Value) (h : H) (c : Nat) : jx P o 8 none f53_c (tmOf (List.range 1) [t0]) h c [] (Kfn P Try.f53.results.toList) = f53_S o t0 h c := by kernel_rfl
theorem f53_go {t0 : Value} {h : FH} {c : Nat} {df : List Nat} {r : Rt FH} (e : f53_S G t0 h c = some r) : G (.fn 53) [t0] h c df = some r := runG_fn (a := f53_f) bk_53 rfl (fun args h c => by cases args <;> rfl) rfl ((f53_S_eq G t0 h c).trans e)
noncomputable def f54_L54000 (o : Orc H) (rd : Option Nat) (t1 t5 t10 t11 : Value) (h : H) (c : Nat) (df : List Nat) : Option (Rt H) :=
 (aBinOp P .lss 3 t11 t10).bind fun t12 =>
 boolK t12
 ((aBinOp P .mul 3 (.int .i64 7) t11).bind fun t17 =>
 (aBinOp P .add 3 t17 (.int .i64 4)).bind fun t18 =>
 (aBinOp P .mul 3 (.int .i64 7) t11).bind fun t20 =>
 (aBinOp P .add 3 t20 (.int .i64 7)).bind fun t21 =>
 (slS h 1 t1 (some t18) (some t21) none).bind fun t22 =>
 (appV h (256 * ((c + 1) + 1) + 9) 1 8 t5 t22).bind fun r0 =>
 (aBinOp P .add 3 t11 (.int .i64 1)).bind fun t24 =>
 some { e := .normal, vs := [t1, r0.1, t10, t24], h := r0.2, c := ((((c + 1) + 1) + 1) + 1), df := df })
 (some { e := (.exit 0), vs := [t1, t5, t10, t11], h := h, c := (c + 1), df := df })
theorem f54_L54000_eq (o : Orc H) (rd : Option Nat) (t1 t5 t10 t11 : Value) (h : H) (c : Nat) (df : List Nat) : jx P o 26 rd f54_c54000 (tmOf [1, 5, 10, 11] [t1, t5, t10, t11]) h c df (Klp [1, 5, 10, 11]) = f54_L54000 o rd t1 t5 t10 t11 h c df := by kernel_rfl
noncomputable def f54_S (o : Orc H) (t0 t1 : Value) (h : H) (c : Nat) : Option (Rt H) :=
 (bif (t0 : Value).cells.toList.all isFlat then
 (bldL [] []).bind fun r0 =>
 (addOff (ptrTo (256 * c + 0)) 0).bind fun t8 =>
 (ld1 (newB (newB h (256 * c + 0) (t0 : Value).cells.toList) (256 * (c + 1) + 0) r0) t8).bind fun t9 =>
 (lenS t9).bind fun t10 =>
 (o (f54_k54000 none) [t1, (.slice (some ⟨(256 * (c + 1) + 0), 0, none⟩) 0 0), t10, (.int .i64 0)] (newB (newB h (256 * c + 0) (t0 : Value).cells.toList) (256 * (c + 1) + 0) r0) (((c + 1) + 1) + 1) []).bind fun r1 =>
 cond (exIs r1.e (.exit 0))
 ((takeAll r1.h r1.df).bind fun h2 =>
 some { e := .ret, vs := [(r1.v 1)], h := h2, c := (r1.c + 1), df := [] })
 (none)
 else none)
theorem f54_S_eq (o : Orc H) (t0 t1 : Value) (h : H) (c : Nat) : jx P o 26 none f54_c (tmOf (List.range 2) [t0, t1]) h c [] (Kfn P Try.f54.results.toList) = f54_S o t0 t1 h c := by kernel_rfl
theorem f54_go {t0 t1 : Value} {h : FH} {c : Nat} {df : List Nat} {r : Rt FH} (e : f54_S G t0 t1 h c = some r) : G (.fn 54) [t0, t1] h c df = some r := runG_fn (a := f54_f) bk_54 rfl (fun args h c => by cases args <;> rfl) rfl ((f54_S_eq G t0 t1 h c).trans e)
theorem f54_N54000 {rd : Option Nat} {t1 t5 t10 t11 : Value} {h : FH} {c : Nat} {df : List Nat} {q r : Rt FH} (e : f54_L54000 G rd t1 t5 t10 t11 h c df = some q) (hq : q.e = .normal) (k : G (f54_k54000 rd) q.vs q.h q.c q.df = some r) : G (f54_k54000 rd) [t1, t5, t10, t11] h c df = some r := runG_lp_next ((f54_L54000_eq G rd t1 t5 t10 t11 h c df).trans e) hq k
theorem f54_Z54000 {rd : Option Nat} {t1 t5 t10 t11 : Value} {h : FH} {c : Nat} {df : List Nat} {q : Rt FH} (e : f54_L54000 G rd t1 t5 t10 t11 h c df = some q) (hq : q.e ≠ .normal) : G (f54_k54000 rd) [t1, t5, t10, t11] h c df = some q := runG_lp_last ((f54_L54000_eq G rd t1 t5 t10 t11 h c df).trans e) hq
noncomputable def f55_S (o : Orc H) (t0 : Value) (h : H) (c : Nat) : Option (Rt H) :=
 (callF o 75 [t0, (.func (.func 76) #[] #[])] h ((c + 1) + 1)).bind fun r0 =>
 (aUnOp .not r0.1).bind fun t5 =>
 some { e := .ret, vs := [t5], h := r0.2.1, c := r0.2.2, df := [] }
theorem f55_S_eq (o : Orc H) (t0 : Value) (h : H) (c : Nat) : jx P o 6 none f55_c (tmOf (List.range 1) [t0]) h c [] (Kfn P Try.f55.results.toList) = f55_S o t0 h c := by kernel_rfl
theorem f55_go {t0 : Value} {h : FH} {c : Nat} {df : List Nat} {r : Rt FH} (e : f55_S G t0 h c = some r) : G (.fn 55) [t0] h c df = some (gcR h c [] r) := runG_fn (a := f55_f) bk_55 rfl (fun args h c => by cases args <;> rfl) rfl ((f55_S_eq G t0 h c).trans e)
end Go.Proofs.Ytcnndelmnobigaa

namespace Go.Proofs.Ytcnndelmnobigaa
open Go Go.Ab Go.Proofs
set_option maxRecDepth 100000
set_option linter.unusedVariables false
variable {H : Type} [HeapC H]
noncomputable def f56_L56000 (o : Orc H) (rd : Option Nat) (t3 t6 t7 t8 : Value) (h : H) (c : Nat) (df : List Nat) : Option (Rt H) :=
 (aBinOp P .lss 3 t8 t7).bind fun t9 =>
 boolK t9
 ((ixS 1 t6 t8).bind fun t10 =>
 (ld1 h t10).bind fun t11 =>
 (aBinOp P .neq 3 t11 (.int .i64 0)).bind fun t13 =>
 (boolK t13
   ((aBinOp P .add 3 t3 (.int .i64 1)).bind fun t15 =>
   some { e := .normal, vs := [t15, t6, t7, t8], h := h, c := ((((c + 1) + 1) + 1) + 1), df := df })
   (some { e := .normal, vs := [t3, t6, t7, t8], h := h, c := (((c + 1) + 1) + 1), df := df }) : Option (Rt H)).bind fun r1 =>
 cond (exIs r1.e .normal)
  ((aBinOp P .add 3 (r1.v 3) (.int .i64 1)).bind fun t16 =>
  some { e := .normal, vs := [(r1.v 0), (r1.v 1), (r1.v 2), t16], h := r1.h, c := (r1.c + 1), df := r1.df })
  (none))
 (some { e := (.exit 0), vs := [t3, t6, t7, t8], h := h, c := (c + 1), df := df })
theorem f56_L56000_eq (o : Orc H) (rd : Option Nat) (t3 t6 t7 t8 : Value) (h : H) (c : Nat) (df : List Nat) : jx P o 19 rd f56_c56000 (tmOf [3, 6, 7, 8] [t3, t6, t7, t8]) h c df (Klp [3, 6, 7, 8]) = f56_L56000 o rd t3 t6 t7 t8 h c df := by kernel_rfl
noncomputable def f56_S (o : Orc H) (t0 : Value) (h : H) (c : Nat) : Option (Rt H) :=
 (lenS t0).bind fun t7 =>
 (o (f56_k56000 none) [(.int .i64 0), t0, t7, (.int .i64 0)] h (((c + 1) + 1) + 1) []).bind fun r0 =>
 cond (exIs r0.e (.exit 0))
 ((aBinOp P .leq 3 (r0.v 0) (.int .i64 1)).bind fun t18 =>
 (takeAll r0.h r0.df).bind fun h1 =>
 some { e := .ret, vs := [t18], h := h1, c := (r0.c + 1), df := [] })
 (none)
theorem f56_S_eq (o : Orc H) (t0 : Value) (h : H) (c : Nat) : jx P o 19 none f56_c (tmOf (List.range 1) [t0]) h c [] (Kfn P Try.f56.results.toList) = f56_S o t0 h c := by kernel_rfl
theorem f56_go {t0 : Value} {h : FH} {c : Nat} {df : List Nat} {r : Rt FH} (e : f56_S G t0 h c = some r) : G (.fn 56) [t0] h c df = some (gcR h c [] r) := runG_fn (a := f56_f) bk_56 rfl (fun args h c => by cases args <;> rfl) rfl ((f56_S_eq G t0 h c).trans e)
theorem f56_N56000 {rd : Option Nat} {t3 t6 t7 t8 : Value} {h : FH} {c : Nat} {df : List Nat} {q r : Rt FH} (e : f56_L56000 G rd t3 t6 t7 t8 h c df = some q) (hq : q.e = .normal) (k : G (f56_k56000 rd) q.vs (gcR h c df q).h (gcR h c df q).c q.df = some r) : G (f56_k56000 rd) [t3, t6, t7, t8] h c df = some r := runG_lp_next ((f56_L56000_eq G rd t3 t6 t7 t8 h c df).trans e) hq k
theorem f56_Z56000 {rd : Option Nat} {t3 t6 t7 t8 : Value} {h : FH} {c : Nat} {df : List Nat} {q : Rt FH} (e : f56_L56000 G rd t3 t6 t7 t8 h c df = some q) (hq : q.e ≠ .normal) : G (f56_k56000 rd) [t3, t6, t7, t8] h c df = some (gcR h c df q) := runG_lp_last ((f56_L56000_eq G rd t3 t6 t7 t8 h c df).trans e) hq
noncomputable def f57_L57000 (o : Orc H) (rd : Option Nat) (t1 t2 t4 t5 t6 t7 t33 t34 : Value) (h : H) (c : Nat) (df : List Nat) : Option (Rt H) :=
 (aBinOp P .lss 3 t34 t33).bind fun t35 =>
 boolK t35
 ((aBinOp P .mul 3 (.int .i64 7) t34).bind fun t39 =>
 (aBinOp P .add 3 t39 (.int .i64 4)).bind fun t40 =>
 (slS h 1 t7 (some t40) none none).bind fun t41 =>
 (aBinOp P .mul 3 (.int .i64 3) t34).bind fun t44 =>
 (aBinOp P .mul 3 (.int .i64 3) t34).bind fun t46 =>
 (aBinOp P .add 3 t46 (.int .i64 3)).bind fun t47 =>
 (slS h 1 t1 (some t44) (some t47) none).bind fun t48 =>
 (aBuiltin P h (256 * ((c + 1) + 1) + 12) .copy [34, 34] [t41, t48]).bind fun r0 =>
 (aBinOp P .add 3 t34 (.int .i64 1)).bind fun t50 =>
 some { e := .normal, vs := [t1, t2, t4, t5, t6, t7, t33, t50], h := r0.2, c := ((((c + 1) + 1) + 1) + 1), df := df })
 (some { e := (.exit 0), vs := [t1, t2, t4, t5, t6, t7, t33, t34], h := h, c := (c + 1), df := df })
theorem f57_L57000_eq (o : Orc H) (rd : Option Nat) (t1 t2 t4 t5 t6 t7 t33 t34 : Value) (h : H) (c : Nat) (df : List Nat) : jx P o 200 rd f57_c57000 (tmOf [1, 2, 4, 5, 6, 7, 33, 34] [t1, t2, t4, t5, t6, t7, t33, t34]) h c df (Klp [1, 2, 4, 5, 6, 7, 33, 34]) = f57_L57000 o rd t1 t2 t4 t5 t6 t7 t33 t34 h c df := by kernel_rfl
noncomputable def f57_L57003 (o : Orc H) (rd : Option Nat) (t2 t4 t5 t7 t11 t14 t15 t16 t17 t18 t62 t63 t64 t93 t94 : Value) (h : H) (c : Nat) (df : List Nat) : Option (Rt H) :=
 (aBinOp P .lss 3 t94 (.int .i64 4)).bind fun t95 =>
 boolK t95
 (((ixV 4 true 5 t93 t94).bind fun t97 =>
  (stN (newB h (256 * (c + 1) + 2) [(.int .i64 0), (.int .i64 0), (.int .i64 0), (.int .i64 0), (.int .i64 0)]) 5 (ptrTo (256 * (c + 1) + 2)) t97).bind fun h1 =>
  (aBinOp P .eql 3 t94 t18).bind fun t100 =>
  ((gv t100 false).bind fun w => cond w (ret1 h1 (((c + 1) + 1) + 1) (addOff (ptrTo (256 * (c + 1) + 2)) 0)) (some (undef, h1, (((c + 1) + 1) + 1)))).bind fun r2 =>
  ((gv t100 false).bind fun w => cond w (ret1 r2.2.1 r2.2.2 (ld1 r2.2.1 r2.1)) (some (undef, r2.2.1, r2.2.2))).bind fun r3 =>
  ((gv t100 false).bind fun w => cond w (ret1 r3.2.1 r3.2.2 (aBinOp P .lss 3 r3.1 (.int .i64 0))) (some (undef, r3.2.1, r3.2.2))).bind fun r4 =>
  (pickV t100 (.bool true) r4.1).bind fun t105 =>
  boolK t105
   (some { e := .normal, vs := [t2, t4, t5, t7, t11, t14, t15, t16, t17, t18, t62, t63, t64, t93, t94], h := r4.2.1, c := r4.2.2, df := df })
   ((addOff (ptrTo (256 * (c + 1) + 2)) 0).bind fun t106 =>
   (ld1 r4.2.1 t106).bind fun t107 =>
   (addOff (ptrTo (256 * (c + 1) + 2)) 1).bind fun t109 =>
   (ixA 4 1 t109 t18).bind fun t110 =>
   (ld1 r4.2.1 t110).bind fun t111 =>
   (addOff (ptrTo (256 * (c + 1) + 2)) 1).bind fun t113 =>
   (ixA 4 1 t113 t94).bind fun t114 =>
   (ld1 r4.2.1 t114).bind fun t115 =>
   (callF o 50 [t7, t17, t94, t18] r4.2.1 ((r4.2.2 + 1) + 1)).bind fun r5 =>
   (aBinOp P .mul 3 (.int .i64 7) t107).bind fun t123 =>
   (aBinOp P .add 3 t123 (.int .i64 4)).bind fun t124 =>
   (callF o 60 [] r5.2.1 r5.2.2).bind fun r6 =>
   (ixV 4 true 4 r6.1 t111).bind fun t127 =>
   (ixV 4 false 1 t127 t115).bind fun t129 =>
   (aBinOp P .add 3 t124 t129).bind fun t130 =>
   (ixS 1 t7 t130).bind fun t131 =>
   (ld1 r6.2.1 t131).bind fun t132 =>
   (aBinOp P .sub 3 r5.1 t132).bind fun t133 =>
   (aBinOp P .mul 3 (.int .i64 4) t107).bind fun t137 =>
   (aBinOp P .add 3 t137 t111).bind fun t139 =>
   (ixS 1 t11 t139).bind fun t140 =>
   (ld1 r6.2.1 t140).bind fun t141 =>
   (aUnOp .not t141).bind fun t142 =>
   (boolK t142
     ((aBinOp P .mul 3 (.int .i64 4) t107).bind fun t145 =>
     (aBinOp P .add 3 t145 t111).bind fun t147 =>
     (ixS 1 t11 t147).bind fun t148 =>
     (stN r6.2.1 1 t148 (.bool true)).bind fun h8 =>
     (aBinOp P .mul 3 (.int .i64 7) t107).bind fun t151 =>
     (aBinOp P .add 3 t151 t111).bind fun t153 =>
     (ixS 1 t7 t153).bind fun t155 =>
     (stN h8 1 t155 t133).bind fun h10 =>
     (foldV min2 [t15, t133]).bind fun t158 =>
     (aBinOp P .mul 3 (.int .i64 4) t107).bind fun t161 =>
     (aBinOp P .add 3 t161 t111).bind fun t163 =>
     (bldL [(.int .i64 0)] [(0, 1, t163)]).bind fun r12 =>
     (appV (newB h10 (256 * ((((r6.2.2 + 1) + 1) + 1) + 1) + 5) r12) (256 * ((((r6.2.2 + 1) + 1) + 1) + 1) + 6) 1 8 t14 (.slice (some ⟨(256 * ((((r6.2.2 + 1) + 1) + 1) + 1) + 5), 0, none⟩) 1 1)).bind fun r13 =>
     some { e := .normal, vs := [t2, t4, t5, t7, t11, r13.1, t158, t16, t17, t18, t62, t63, t64, t93, t94], h := r13.2, c := (((((r6.2.2 + 1) + 1) + 1) + 1) + 1), df := df })
     ((aBinOp P .mul 3 (.int .i64 7) t107).bind fun t169 =>
     (aBinOp P .add 3 t169 t111).bind fun t171 =>
     (ixS 1 t7 t171).bind fun t172 =>
     (ld1 r6.2.1 t172).bind fun t173 =>
     (aBinOp P .neq 3 t173 t133).bind fun t175 =>
     boolK t175
      (some { e := .ret, vs := [t2, (.slice none 0 0), (.bool false), t7, t11, t14, t15, t16, t17, t18, t62, t63, t64, t93, t94], h := r6.2.1, c := (((r6.2.2 + 1) + 1) + 1), df := df })
      (some { e := .normal, vs := [t2, t4, t5, t7, t11, t14, t15, t16, t17, t18, t62, t63, t64, t93, t94], h := r6.2.1, c := ((r6.2.2 + 1) + 1), df := df })) : Option (Rt H)).bind fun r17 =>
   cond (exIs r17.e .normal)
    (some { e := .normal, vs := [(r17.v 0), (r17.v 1), (r17.v 2), (r17.v 3), (r17.v 4), (r17.v 5), (r17.v 6), (r17.v 7), (r17.v 8), (r17.v 9), (r17.v 10), (r17.v 11), (r17.v 12), (r17.v 13), (r17.v 14)], h := r17.h, c := r17.c, df := r17.df })
    (cond (exIs r17.e .ret)
     (some { e := .ret, vs := [(r17.v 0), (r17.v 1), (r17.v 2), (r17.v 3), (r17.v 4), (r17.v 5), (r17.v 6), (r17.v 7), (r17.v 8), (r17.v 9), (r17.v 10), (r17.v 11), (r17.v 12), (r17.v 13), (r17.v 14)], h := r17.h, c := r17.c, df := r17.df })
     (none))) : Option (Rt H)).bind fun r18 =>
 cond (exIs r18.e .normal)
  ((aBinOp P .add 3 (r18.v 14) (.int .i64 1)).bind fun t176 =>
  some { e := .normal, vs := [(r18.v 0), (r18.v 1), (r18.v 2), (r18.v 3), (r18.v 4), (r18.v 5), (r18.v 6), (r18.v 7), (r18.v 8), (r18.v 9), (r18.v 10), (r18.v 11), (r18.v 12), (r18.v 13), t176], h := r18.h, c := (r18.c + 1), df := r18.df })
  (cond (exIs r18.e .ret)
   (some { e := .ret, vs := [(r18.v 0), (r18.v 1), (r18.v 2), (r18.v 3), (r18.v 4), (r18.v 5), (r18.v 6), (r18.v 7), (r18.v 8), (r18.v 9), (r18.v 10), (r18.v 11), (r18.v 12), (r18.v 13), (r18.v 14)], h := r18.h, c := r18.c, df := r18.df })
   (none)))
 (some { e := (.exit 6), vs := [t2, t4, t5, t7, t11, t14, t15, t16, t17, t18, t62, t63, t64, t93, t94], h := h, c := (c + 1), df := df })
theorem f57_L57003_eq (o : Orc H) (rd : Option Nat) (t2 t4 t5 t7 t11 t14 t15 t16 t17 t18 t62 t63 t64 t93 t94 : Value) (h : H) (c : Nat) (df : List Nat) : jx P o 200 rd f57_c57003 (tmOf [2, 4, 5, 7, 11, 14, 15, 16, 17, 18, 62, 63, 64, 93, 94] [t2, t4, t5, t7, t11, t14, t15, t16, t17, t18, t62, t63, t64, t93, t94]) h c df (Klp [2, 4, 5, 7, 11, 14, 15, 16, 17, 18, 62, 63, 64, 93, 94]) = f57_L57003 o rd t2 t4 t5 t7 t11 t14 t15 t16 t17 t18 t62 t63 t64 t93 t94 h c df := by kernel_rfl
noncomputable def f57_L57002 (o : Orc H) (rd : Option Nat) (t2 t4 t5 t7 t11 t14 t15 t16 t62 t63 t64 : Value) (h : H) (c : Nat) (df : List Nat) : Option (Rt H) :=
 (lenS t14).bind fun t75 =>
 (aBinOp P .lss 3 t16 t75).bind fun t76 =>
 boolK t76
 ((ixS 1 t14 t16).bind fun t81 =>
 (ld1 h t81).bind fun t82 =>
 (aBinOp P .quo 3 t82 (.int .i64 4)).bind fun t83 =>
 (ixS 1 t14 t16).bind fun t86 =>
 (ld1 h t86).bind fun t87 =>
 (aBinOp P .rem 3 t87 (.int .i64 4)).bind fun t88 =>
 (addOff t2 0).bind fun t89 =>
 (ld1 h t89).bind fun t90 =>
 (ixS 20 t90 t83).bind fun t92 =>
 (ldN h 20 t92).bind fun t93 =>
 (o (f57_k57003 rd) [t2, t4, t5, t7, t11, t14, t15, t16, t83, t88, t62, t63, t64, t93, (.int .i64 0)] h (((c + 1) + 1) + 1) df).bind fun r0 =>
 cond (exIs r0.e (.exit 6))
  ((aBinOp P .add 3 (r0.v 7) (.int .i64 1)).bind fun t78 =>
  some { e := .normal, vs := [(r0.v 0), (r0.v 1), (r0.v 2), (r0.v 3), (r0.v 4), (r0.v 5), (r0.v 6), t78, (r0.v 10), (r0.v 11), (r0.v 12)], h := r0.h, c := (r0.c + 1), df := r0.df })
  (cond (exIs r0.e .ret)
   (some { e := .ret, vs := [(r0.v 0), (r0.v 1), (r0.v 2), (r0.v 3), (r0.v 4), (r0.v 5), (r0.v 6), (r0.v 7), (r0.v 10), (r0.v 11), (r0.v 12)], h := r0.h, c := r0.c, df := r0.df })
   (none)))
 (some { e := (.exit 4), vs := [t2, t4, t5, t7, t11, t14, t15, t16, t62, t63, t64], h := h, c := (c + 1), df := df })
theorem f57_L57002_eq (o : Orc H) (rd : Option Nat) (t2 t4 t5 t7 t11 t14 t15 t16 t62 t63 t64 : Value) (h : H) (c : Nat) (df : List Nat) : jx P o 200 rd f57_c57002 (tmOf [2, 4, 5, 7, 11, 14, 15, 16, 62, 63, 64] [t2, t4, t5, t7, t11, t14, t15, t16, t62, t63, t64]) h c df (Klp [2, 4, 5, 7, 11, 14, 15, 16, 62, 63, 64]) = f57_L57002 o rd t2 t4 t5 t7 t11 t14 t15 t16 t62 t63 t64 h c df := by kernel_rfl
noncomputable def f57_L57004 (o : Orc H) (rd : Option Nat) (t2 t4 t5 t7 t11 t15 t62 t63 t64 t177 t178 t179 : Value) (h : H) (c : Nat) (df : List Nat) : Option (Rt H) :=
 (aBinOp P .lss 3 t179 t178).bind fun t180 =>
 boolK t180
 ((ixS 1 t177 t179).bind fun t181 =>
 (ld1 h t181).bind fun t182 =>
 (aBinOp P .quo 3 t182 (.int .i64 4)).bind fun t185 =>
 (aBinOp P .mul 3 t185 (.int .i64 7)).bind fun t186 =>
 (aBinOp P .rem 3 t182 (.int .i64 4)).bind fun t188 =>
 (aBinOp P .add 3 t186 t188).bind fun t189 =>
 (ixS 1 t7 t189).bind fun t190 =>
 (ld1 h t190).bind fun t191 =>
 (aBinOp P .sub 3 t191 t15).bind fun t193 =>
 (ixS 1 t7 t189).bind fun t194 =>
 (stN h 1 t194 t193).bind fun h1 =>
 (aBinOp P .add 3 t179 (.int .i64 1)).bind fun t195 =>
 some { e := .normal, vs := [t2, t4, t5, t7, t11, t15, t62, t63, t64, t177, t178, t195], h := h1, c := ((((c + 1) + 1) + 1) + 1), df := df })
 (some { e := (.exit 9), vs := [t2, t4, t5, t7, t11, t15, t62, t63, t64, t177, t178, t179], h := h, c := (c + 1), df := df })
theorem f57_L57004_eq (o : Orc H) (rd : Option Nat) (t2 t4 t5 t7 t11 t15 t62 t63 t64 t177 t178 t179 : Value) (h : H) (c : Nat) (df : List Nat) : jx P o 200 rd f57_c57004 (tmOf [2, 4, 5, 7, 11, 15, 62, 63, 64, 177, 178, 179] [t2, t4, t5, t7, t11, t15, t62, t63, t64, t177, t178, t179]) h c df (Klp [2, 4, 5, 7, 11, 15, 62, 63, 64, 177, 178, 179]) = f57_L57004 o rd t2 t4 t5 t7 t11 t15 t62 t63 t64 t177 t178 t179 h c df := by kernel_rfl
noncomputable def f57_L57001 (o : Orc H) (rd : Option Nat) (t2 t4 t5 t7 t11 t62 t63 t64 : Value) (h : H) (c : Nat) (df : List Nat) : Option (Rt H) :=
 (aBinOp P .lss 3 t64 t63).bind fun t65 =>
 boolK t65
 ((ixS 1 t62 t64).bind fun t66 =>
 (ld1 h t66).bind fun t67 =>
 (ixS 1 t11 t67).bind fun t70 =>
 (stN h 1 t70 (.bool true)).bind fun h1 =>
 (bldL [(.int .i64 0)] [(0, 1, t67)]).bind fun r2 =>
 (o (f57_k57002 rd) [t2, t4, t5, t7, t11, (.slice (some ⟨(256 * (((c + 1) + 1) + 1) + 1), 0, none⟩) 1 1), (.int .i64 0), (.int .i64 0), t62, t63, t64] (newB h1 (256 * (((c + 1) + 1) + 1) + 1) r2) ((((((c + 1) + 1) + 1) + 1) + 1) + 1) df).bind fun r3 =>
 cond (exIs r3.e (.exit 4))
  ((lenS (r3.v 5)).bind fun t178 =>
  (o (f57_k57004 rd) [(r3.v 0), (r3.v 1), (r3.v 2), (r3.v 3), (r3.v 4), (r3.v 6), (r3.v 8), (r3.v 9), (r3.v 10), (r3.v 5), t178, (.int .i64 0)] r3.h (r3.c + 1) r3.df).bind fun r4 =>
  cond (exIs r4.e (.exit 9))
   ((aBinOp P .add 3 (r4.v 8) (.int .i64 1)).bind fun t196 =>
   some { e := .normal, vs := [(r4.v 0), (r4.v 1), (r4.v 2), (r4.v 3), (r4.v 4), (r4.v 6), (r4.v 7), t196], h := r4.h, c := (r4.c + 1), df := r4.df })
   (none))
  (cond (exIs r3.e .ret)
   (some { e := .ret, vs := [(r3.v 0), (r3.v 1), (r3.v 2), (r3.v 3), (r3.v 4), (r3.v 8), (r3.v 9), (r3.v 10)], h := r3.h, c := r3.c, df := r3.df })
   (none)))
 (some { e := (.exit 2), vs := [t2, t4, t5, t7, t11, t62, t63, t64], h := h, c := (c + 1), df := df })
theorem f57_L57001_eq (o : Orc H) (rd : Option Nat) (t2 t4 t5 t7 t11 t62 t63 t64 : Value) (h : H) (c : Nat) (df : List Nat) : jx P o 200 rd f57_c57001 (tmOf [2, 4, 5, 7, 11, 62, 63, 64] [t2, t4, t5, t7, t11, t62, t63, t64]) h c df (Klp [2, 4, 5, 7, 11, 62, 63, 64]) = f57_L57001 o rd t2 t4 t5 t7 t11 t62 t63 t64 h c df := by kernel_rfl
noncomputable def f57_S (o : Orc H) (t0 t1 : Value) (h : H) (c : Nat) : Option (Rt H) :=
 (bif (t0 : Value).cells.toList.all isFlat then
 (addOff (ptrTo (256 * c + 0)) 0).bind fun t27 =>
 (ld1 (newB h (256 * c + 0) (t0 : Value).cells.toList) t27).bind fun t28 =>
 (lenS t28).bind fun t29 =>
 (aBinOp P .mul 3 (.int .i64 7) t29).bind fun t31 =>
 (mkS 1 8 [(.int .i64 0)] t31 t31).bind fun r0 =>
 (o (f57_k57000 none) [t1, (ptrTo (256 * c + 0)), (.slice none 0 0), (.bool false), t29, (.slice (some ⟨(256 * ((c + 1) + 1) + 2), 0, none⟩) r0.2.1 r0.2.2), t29, (.int .i64 0)] (newB (newB h (256 * c + 0) (t0 : Value).cells.toList) (256 * ((c + 1) + 1) + 2) r0.1) ((((c + 1) + 1) + 1) + 1) []).bind fun r1 =>
 cond (exIs r1.e (.exit 0))
 ((ldN r1.h 1 (r1.v 1)).bind fun t52 =>
 (callF o 44 [t52] r1.h (r1.c + 1)).bind fun r2 =>
 (extV r2.1 0).bind fun t54 =>
 (extV r2.1 1).bind fun t55 =>
 (aBinOp P .mul 3 (.int .i64 4) (r1.v 4)).bind fun t57 =>
 (mkS 1 1 [(.bool false)] t57 t57).bind fun r3 =>
 (aNilCheck t54).bind fun t60 =>
 (addOff t60 0).bind fun t61 =>
 (callF o 45 [t61] (newB r2.2.1 (256 * r2.2.2 + 2) r3.1) ((r2.2.2 + 1) + 1)).bind fun r4 =>
 (lenS r4.1).bind fun t63 =>
 (o (f57_k57001 none) [(r1.v 1), (r1.v 2), (r1.v 3), (r1.v 5), (.slice (some ⟨(256 * r2.2.2 + 2), 0, none⟩) r3.2.1 r3.2.2), r4.1, t63, (.int .i64 0)] r4.2.1 r4.2.2 r1.df).bind fun r5 =>
 cond (exIs r5.e (.exit 2))
  ((callF o 55 [(r5.v 3)] r5.h (r5.c + 1)).bind fun r7 =>
  (takeAll r7.2.1 r5.df).bind fun h8 =>
  some { e := .ret, vs := [.tuple #[(r5.v 3), r7.1]], h := h8, c := r7.2.2, df := [] })
  (cond (exIs r5.e .ret)
   ((takeAll r5.h r5.df).bind fun h6 =>
   some { e := .ret, vs := [.tuple #[(r5.v 1), (r5.v 2)]], h := h6, c := r5.c, df := [] })
   (none)))
 (none)
 else none)
theorem f57_S_eq (o : Orc H) (t0 t1 : Value) (h : H) (c : Nat) : jx P o 200 none f57_c (tmOf (List.range 2) [t0, t1]) h c [] (Kfn P Try.f57.results.toList) = f57_S o t0 t1 h c := by kernel_rfl
theorem f57_go {t0 t1 : Value} {h : FH} {c : Nat} {df : List Nat} {r : Rt FH} (e : f57_S G t0 t1 h c = some r) : G (.fn 57) [t0, t1] h c df = some r := runG_fn (a := f57_f) bk_57 rfl (fun args h c => by cases args <;> rfl) rfl ((f57_S_eq G t0 t1 h c).trans e)
theorem f57_N57000 {rd : Option Nat} {t1 t2 t4 t5 t6 t7 t33 t34 : Value} {h : FH} {c : Nat} {df : List Nat} {q r : Rt FH} (e : f57_L57000 G rd t1 t2 t4 t5 t6 t7 t33 t34 h c df = some q) (hq : q.e = .normal) (k : G (f57_k57000 rd) q.vs (gcR h c df q).h (gcR h c df q).c q.df = some r) : G (f57_k57000 rd) [t1, t2, t4, t5, t6, t7, t33, t34] h c df = some r := runG_lp_next ((f57_L57000_eq G rd t1 t2 t4 t5 t6 t7 t33 t34 h c df).trans e) hq k
theorem f57_Z57000 {rd : Option Nat} {t1 t2 t4 t5 t6 t7 t33 t34 : Value} {h : FH} {c : Nat} {df : List Nat} {q : Rt FH} (e : f57_L57000 G rd t1 t2 t4 t5 t6 t7 t33 t34 h c df = some q) (hq : q.e ≠ .normal) : G (f57_k57000 rd) [t1, t2, t4, t5, t6, t7, t33, t34] h c df = some (gcR h c df q) := runG_lp_last ((f57_L57000_eq G rd t1 t2 t4 t5 t6 t7 t33 t34 h c df).trans e) hq
theorem f57_N57003 {rd : Option Nat} {t2 t4 t5 t7 t11 t14 t15 t16 t17 t18 t62 t63 t64 t93 t94 : Value} {h : FH} {c : Nat} {df : List Nat} {q r : Rt FH} (e : f57_L57003 G rd t2 t4 t5 t7 t11 t14 t15 t16 t17 t18 t62 t63 t64 t93 t94 h c df = some q) (hq : q.e = .normal) (k : G (f57_k57003 rd) q.vs q.h q.c q.df = some r) : G (f57_k57003 rd) [t2, t4, t5, t7, t11, t14, t15, t16, t17, t18, t62, t63, t64, t93, t94] h c df = some r := runG_lp_next ((f57_L57003_eq G rd t2 t4 t5 t7 t11 t14 t15 t16 t17 t18 t62 t63 t64 t93 t94 h c df).trans e) hq k
theorem f57_Z57003 {rd : Option Nat} {t2 t4 t5 t7 t11 t14 t15 t16 t17 t18 t62 t63 t64 t93 t94 : Value} {h : FH} {c : Nat} {df : List Nat} {q : Rt FH} (e : f57_L57003 G rd t2 t4 t5 t7 t11 t14 t15 t16 t17 t18 t62 t63 t64 t93 t94 h c df = some q) (hq : q.e ≠ .normal) : G (f57_k57003 rd) [t2, t4, t5, t7, t11, t14, t15, t16, t17, t18, t62, t63, t64, t93, t94] h c df = some q := runG_lp_last ((f57_L57003_eq G rd t2 t4 t5 t7 t11 t14 t15 t16 t17 t18 t62 t63 t64 t93 t94 h c df).trans e) hq
theorem f57_N57002 {rd : Option Nat} {t2 t4 t5 t7 t11 t14 t15 t16 t62 t63 t64 : Value} {h : FH} {c : Nat} {df : List Nat} {q r : Rt FH} (e : f57_L57002 G rd t2 t4 t5 t7 t11 t14 t15 t16 t62 t63 t64 h c df = some q) (hq : q.e = .normal) (k : G (f57_k57002 rd) q.vs q.h q.c q.df = some r) : G (f57_k57002 rd) [t2, t4, t5, t7, t11, t14, t15, t16, t62, t63, t64] h c df = some r := runG_lp_next ((f57_L57002_eq G rd t2 t4 t5 t7 t11 t14 t15 t16 t62 t63 t64 h c df).trans e) hq k
theorem f57_Z57002 {rd : Option Nat} {t2 t4 t5 t7 t11 t14 t15 t16 t62 t63 t64 : Value} {h : FH} {c : Nat} {df : List Nat} {q : Rt FH} (e : f57_L57002 G rd t2 t4 t5 t7 t11 t14 t15 t16 t62 t63 t64 h c df = some q) (hq : q.e ≠ .normal) : G (f57_k57002 rd) [t2, t4, t5, t7, t11, t14, t15, t16, t62, t63, t64] h c df = some q := runG_lp_last ((f57_L57002_eq G rd t2 t4 t5 t7 t11 t14 t15 t16 t62 t63 t64 h c df).trans e) hq
theorem f57_N57004 {rd : Option Nat} {t2 t4 t5 t7 t11 t15 t62 t63 t64 t177 t178 t179 : Value} {h : FH} {c : Nat} {df : List Nat} {q r : Rt FH} (e : f57_L57004 G rd t2 t4 t5 t7 t11 t15 t62 t63 t64 t177 t178 t179 h c df = some q) (hq : q.e = .normal) (k : G (f57_k57004 rd) q.vs (gcR h c df q).h (gcR h c df q).c q.df = some r) : G (f57_k57004 rd) [t2, t4, t5, t7, t11, t15, t62, t63, t64, t177, t178, t179] h c df = some r := runG_lp_next ((f57_L57004_eq G rd t2 t4 t5 t7 t11 t15 t62 t63 t64 t177 t178 t179 h c df).trans e) hq k
theorem f57_Z57004 {rd : Option Nat} {t2 t4 t5 t7 t11 t15 t62 t63 t64 t177 t178 t179 : Value} {h : FH} {c : Nat} {df : List Nat} {q : Rt FH} (e : f57_L57004 G rd t2 t4 t5 t7 t11 t15 t62 t63 t64 t177 t178 t179 h c df = some q) (hq : q.e ≠ .normal) : G (f57_k57004 rd) [t2, t4, t5, t7, t11, t15, t62, t63, t64, t177, t178, t179] h c df = some (gcR h c df q) := runG_lp_last ((f57_L57004_eq G rd t2 t4 t5 t7 t11 t15 t62 t63 t64 t177 t178 t179 h c df).trans e) hq
theorem f57_N57001 {rd : Option Nat} {t2 t4 t5 t7 t11 t62 t63 t64 : Value} {h : FH} {c : Nat} {df : List Nat} {q r : Rt FH} (e : f57_L57001 G rd t2 t4 t5 t7 t11 t62 t63 t64 h c df = some q) (hq : q.e = .normal) (k : G (f57_k57001 rd) q.vs q.h q.c q.df = some r) : G (f57_k57001 rd) [t2, t4, t5, t7, t11, t62, t63, t64] h c df = some r := runG_lp_next ((f57_L57001_eq G rd t2 t4 t5 t7 t11 t62 t63 t64 h c df).trans e) hq k
theorem f57_Z57001 {rd : Option Nat} {t2 t4 t5 t7 t11 t62 t63 t64 : Value} {h : FH} {c : Nat} {df : List Nat} {q : Rt FH} (e : f57_L57001 G rd t2 t4 t5 t7 t11 t62 t63 t64 h c df = some q) (hq : q.e ≠ .normal) : G (f57_k57001 rd) [t2, t4, t5, t7, t11, t62, t63, t64] h c df = some q := runG_lp_last ((f57_L57001_eq G rd t2 t4 t5 t7 t11 t62 t63 t64 h c df).trans e) hq
noncomputable def f59_S (o : Orc H) (t0 : Value) (h : H) (c : Nat) : Option (Rt H) :=
 (bif (t0 : Value).cells.toList.all isFlat then
 some { e := .ret, vs := [(.func (.func 77) [].toArray [(ptrTo (256 * c + 0))].toArray)], h := (newB h (256 * c + 0) (t0 : Value).cells.toList), c := ((c + 1) + 1), df := [] }
 else none)
theorem f59_S_eq (o : Orc H) (t0 : Value) (h : H) (c : Nat) : jx P o 4 none f59_c (tmOf (List.range 1) [t0]) h c [] (Kfn P Try.f59.results.toList) = f59_S o t0 h c := by kernel_rfl
theorem f59_go {t0 : Value} {h : FH} {c : Nat} {df : List Nat} {r : Rt FH} (e : f59_S G t0 h c = some r) : G (.fn 59) [t0] h c df = some r := runG_fn (a := f59_f) bk_59 rfl (fun args h c => by cases args <;> rfl) rfl ((f59_S_eq G t0 h c).trans e)
noncomputable def f60_S (o : Orc H) (h : H) (c : Nat) : Option (Rt H) :=
 (bldV [(.int .i64 0), (.int .i64 0), (.int .i64 0), (.int .i64 0)] [(0, 1, (.int .i64 (-1))), (1, 1, (.int .i64 0)), (2, 1, (.int .i64 1)), (3, 1, (.int .i64 2))]).bind fun t1 =>
 (bldV [(.int .i64 0), (.int .i64 0), (.int .i64 0), (.int .i64 0)] [(0, 1, (.int .i64 0)), (1, 1, (.int .i64 (-1))), (2, 1, (.int .i64 2)), (3, 1, (.int .i64 1))]).bind fun t2 =>
 (bldV [(.int .i64 0), (.int .i64 0), (.int .i64 0), (.int .i64 0)] [(0, 1, (.int .i64 1)), (1, 1, (.int .i64 2)), (2, 1, (.int .i64 (-1))), (3, 1, (.int .i64 0))]).bind fun t3 =>
 (bldV [(.int .i64 0), (.int .i64 0), (.int .i64 0), (.int .i64 0)] [(0, 1, (.int .i64 2)), (1, 1, (.int .i64 1)), (2, 1, (.int .i64 0)), (3, 1, (.int .i64 (-1)))]).bind fun t4 =>
 (bldV [(.int .i64 0), (.int .i64 0), (.int .i64 0), (.int .i64 0), (.int .i64 0), (.int .i64 0), (.int .i64 0), (.int .i64 0), (.int .i64 0), (.int .i64 0), (.int .i64 0), (.int .i64 0), (.int .i64 0), (.int .i64 0), (.int .i64 0), (.int .i64 0)] [(0, 4, t1), (4, 4, t2), (8, 4, t3), (12, 4, t4)]).bind fun t5 =>
 (stN (newB h (256 * c + 0) [(.int .i64 0), (.int .i64 0), (.int .i64 0), (.int .i64 0), (.int .i64 0), (.int .i64 0), (.int .i64 0), (.int .i64 0), (.int .i64 0), (.int .i64 0), (.int .i64 0), (.int .i64 0), (.int .i64 0), (.int .i64 0), (.int .i64 0), (.int .i64 0)]) 16 (ptrTo (256 * c + 0)) t5).bind fun h1 =>
 (ldN h1 16 (ptrTo (256 * c + 0))).bind fun v2 =>
 some { e := .ret, vs := [v2], h := h1, c := ((c + 1) + 1), df := [] }
theorem f60_S_eq (o : Orc H) (h : H) (c : Nat) : jx P o 6 none f60_c (tmOf (List.range 0) []) h c [] (Kfn P Try.f60.results.toList) = f60_S o h c := by kernel_rfl
theorem f60_go {h : FH} {c : Nat} {df : List Nat} {r : Rt FH} (e : f60_S G h c = some r) : G (.fn 60) [] h c df = some (gcR h c [] r) := runG_fn (a := f60_f) bk_60 rfl (fun args h c => by cases args <;> rfl) rfl ((f60_S_eq G h c).trans e)
noncomputable def f68_L68000 (o : Orc H) (rd : Option Nat) (t0 t3 t4 t5 : Value) (h : H) (c : Nat) (df : List Nat) : Option (Rt H) :=
 (aLen P h 9 t0).bind fun t9 =>
 (aBinOp P .leq 3 t5 t9).bind fun t10 =>
 boolK t10
 ((aLen P h 9 t0).bind fun t15 =>
 (aBinOp P .eql 3 t5 t15).bind fun t16 =>
 ((gv t16 false).bind fun w => cond w (ret1 h ((c + 1) + 1) (some t0)) (some (undef, h, ((c + 1) + 1)))).bind fun r0 =>
 ((gv t16 false).bind fun w => cond w (ret1 r0.2.1 r0.2.2 (some t5)) (some (undef, r0.2.1, r0.2.2))).bind fun r1 =>
 ((gv t16 false).bind fun w => cond w (ret1 r1.2.1 r1.2.2 (ixStr r0.1 r1.1)) (some (undef, r1.2.1, r1.2.2))).bind fun r2 =>
 ((gv t16 false).bind fun w => cond w (ret1 r2.2.1 r2.2.2 (aBinOp P .eql 5 r2.1 (.int .u8 32))) (some (undef, r2.2.1, r2.2.2))).bind fun r3 =>
 (pickV t16 (.bool true) r3.1).bind fun t22 =>
 (aUnOp .not t22).bind fun t24 =>
 ((gv t24 true).bind fun w => cond w (ret1 r3.2.1 (r3.2.2 + 1) (some t4)) (some (undef, r3.2.1, (r3.2.2 + 1)))).bind fun r4 =>
 ((gv t24 true).bind fun w => cond w (ret1 r4.2.1 r4.2.2 (aBinOp P .lss 3 r4.1 (.int .i64 0))) (some (undef, r4.2.1, r4.2.2))).bind fun r5 =>
 (pickV t24 r5.1 (.bool false)).bind fun t28 =>
 (boolK t28
   (some { e := .normal, vs := [t0, t3, t5, t5, t22], h := r5.2.1, c := (r5.2.2 + 1), df := df })
   (some { e := .normal, vs := [t0, t3, t4, t5, t22], h := r5.2.1, c := r5.2.2, df := df }) : Option (Rt H)).bind fun r7 =>
 cond (exIs r7.e .normal)
  (((gv (r7.v 4) true).bind fun w => cond w (ret1 r7.h (r7.c + 1) (some (r7.v 2))) (some (undef, r7.h, (r7.c + 1)))).bind fun r8 =>
  ((gv (r7.v 4) true).bind fun w => cond w (ret1 r8.2.1 r8.2.2 (aBinOp P .geq 3 r8.1 (.int .i64 0))) (some (undef, r8.2.1, r8.2.2))).bind fun r9 =>
  (pickV (r7.v 4) r9.1 (.bool false)).bind fun t34 =>
  (boolK t34
    ((slStrV (r7.v 0) (some (r7.v 2)) (some (r7.v 3))).bind fun t39 =>
    (bldL [(.string (ByteArray.mk #[]))] [(0, 1, t39)]).bind fun r10 =>
    (appV (newB r9.2.1 (256 * r9.2.2 + 5) r10) (256 * r9.2.2 + 6) 1 16 (r7.v 1) (.slice (some ⟨(256 * r9.2.2 + 5), 0, none⟩) 1 1)).bind fun r11 =>
    some { e := .normal, vs := [(r7.v 0), r11.1, (.int .i64 (-1)), (r7.v 3)], h := r11.2, c := ((r9.2.2 + 1) + 1), df := r7.df })
    (some { e := .normal, vs := [(r7.v 0), (r7.v 1), (r7.v 2), (r7.v 3)], h := r9.2.1, c := r9.2.2, df := r7.df }) : Option (Rt H)).bind fun r14 =>
  cond (exIs r14.e .normal)
   ((aBinOp P .add 3 (r14.v 3) (.int .i64 1)).bind fun t12 =>
   some { e := .normal, vs := [(r14.v 0), (r14.v 1), (r14.v 2), t12], h := r14.h, c := (r14.c + 1), df := r14.df })
   (none))
  (none))
 (some { e := (.exit 0), vs := [t0, t3, t4, t5], h := h, c := (c + 1), df := df })
theorem f68_L68000_eq (o : Orc H) (rd : Option Nat) (t0 t3 t4 t5 : Value) (h : H) (c : Nat) (df : List Nat) : jx P o 43 rd f68_c68000 (tmOf [0, 3, 4, 5] [t0, t3, t4, t5]) h c df (Klp [0, 3, 4, 5]) = f68_L68000 o rd t0 t3 t4 t5 h c df := by kernel_rfl
noncomputable def f68_S (o : Orc H) (t0 : Value) (h : H) (c : Nat) : Option (Rt H) :=
 (o (f68_k68000 none) [t0, (.slice none 0 0), (.int .i64 (-1)), (.int .i64 0)] h ((((c + 1) + 1) + 1) + 1) []).bind fun r0 =>
 cond (exIs r0.e (.exit 0))
 ((takeAll r0.h r0.df).bind fun h1 =>
 some { e := .ret, vs := [(r0.v 1)], h := h1, c := (r0.c + 1), df := [] })
 (none)
theorem f68_S_eq (o : Orc H) (t0 : Value) (h : H) (c : Nat) : jx P o 43 none f68_c (tmOf (List.range 1) [t0]) h c [] (Kfn P Try.f68.results.toList) = f68_S o t0 h c := by kernel_rfl
noncomputable def f69_L69000 (o : Orc H) (rd : Option Nat) (t0 t2 t3 t4 t5 : Value) (h : H) (c : Nat) (df : List Nat) : Option (Rt H) :=
 (aLen P h 9 t0).bind fun t26 =>
 (aBinOp P .lss 3 t5 t26).bind fun t27 =>
 boolK t27
 ((ixStr t0 t5).bind fun t32 =>
 (aBinOp P .lss 5 t32 (.int .u8 48)).bind fun t33 =>
 ((gv t33 false).bind fun w => cond w (ret1 h ((c + 1) + 1) (some t0)) (some (undef, h, ((c + 1) + 1)))).bind fun r0 =>
 ((gv t33 false).bind fun w => cond w (ret1 r0.2.1 r0.2.2 (some t5)) (some (undef, r0.2.1, r0.2.2))).bind fun r1 =>
 ((gv t33 false).bind fun w => cond w (ret1 r1.2.1 r1.2.2 (ixStr r0.1 r1.1)) (some (undef, r1.2.1, r1.2.2))).bind fun r2 =>
 ((gv t33 false).bind fun w => cond w (ret1 r2.2.1 r2.2.2 (aBinOp P .gtr 5 r2.1 (.int .u8 57))) (some (undef, r2.2.1, r2.2.2))).bind fun r3 =>
 (pickV t33 (.bool true) r3.1).bind fun t39 =>
 boolK t39
  (some { e := .ret, vs := [t0, (.int .i64 0), (.bool false), t4, t5], h := r3.2.1, c := (r3.2.2 + 1), df := df })
  ((aBinOp P .mul 3 (.int .i64 10) t4).bind fun t41 =>
  (ixStr t0 t5).bind fun t44 =>
  (aBinOp P .sub 5 t44 (.int .u8 48)).bind fun t45 =>
  (cnvI .i64 t45).bind fun t46 =>
  (aBinOp P .add 3 t41 t46).bind fun t47 =>
  (aBinOp P .add 3 t5 (.int .i64 1)).bind fun t29 =>
  some { e := .normal, vs := [t0, t2, t3, t47, t29], h := r3.2.1, c := ((r3.2.2 + 1) + 1), df := df }))
 (some { e := (.exit 0), vs := [t0, t2, t3, t4, t5], h := h, c := (c + 1), df := df })
theorem f69_L69000_eq (o : Orc H) (rd : Option Nat) (t0 t2 t3 t4 t5 : Value) (h : H) (c : Nat) (df : List Nat) : jx P o 51 rd f69_c69000 (tmOf [0, 2, 3, 4, 5] [t0, t2, t3, t4, t5]) h c df (Klp [0, 2, 3, 4, 5]) = f69_L69000 o rd t0 t2 t3 t4 t5 h c df := by kernel_rfl
noncomputable def f69_S (o : Orc H) (t0 : Value) (h : H) (c : Nat) : Option (Rt H) :=
 (aLen P h 9 t0).bind fun t7 =>
 (aBinOp P .lss 3 t7 (.int .i64 1)).bind fun t8 =>
 ((gv t8 false).bind fun w => cond w (ret1 h ((c + 1) + 1) (some t0)) (some (undef, h, ((c + 1) + 1)))).bind fun r0 =>
 ((gv t8 false).bind fun w => cond w (((aLen P r0.2.1 9 r0.1).bind fun v => some (v, r0.2.1)).bind fun r => some (r.1, r.2, r0.2.2)) (some (undef, r0.2.1, r0.2.2))).bind fun r1 =>
 ((gv t8 false).bind fun w => cond w (ret1 r1.2.1 r1.2.2 (aBinOp P .gtr 3 r1.1 (.int .i64 4))) (some (undef, r1.2.1, r1.2.2))).bind fun r2 =>
 (pickV t8 (.bool true) r2.1).bind fun t13 =>
 ((gv t13 false).bind fun w => cond w (ret1 r2.2.1 r2.2.2 (some t0)) (some (undef, r2.2.1, r2.2.2))).bind fun r3 =>
 ((gv t13 false).bind fun w => cond w (((aLen P r3.2.1 9 r3.1).bind fun v => some (v, r3.2.1)).bind fun r => some (r.1, r.2, r3.2.2)) (some (undef, r3.2.1, r3.2.2))).bind fun r4 =>
 ((gv t13 false).bind fun w => cond w (ret1 r4.2.1 r4.2.2 (aBinOp P .gtr 3 r4.1 (.int .i64 1))) (some (undef, r4.2.1, r4.2.2))).bind fun r5 =>
 ((gv t13 false).bind fun w => cond w (ret1 r5.2.1 r5.2.2 (some r5.1)) (some (undef, r5.2.1, r5.2.2))).bind fun r6 =>
 ((gv r6.1 true).bind fun w => cond w (ret1 r6.2.1 r6.2.2 (some t0)) (some (undef, r6.2.1, r6.2.2))).bind fun r7 =>
 ((gv r6.1 true).bind fun w => cond w (ret1 r7.2.1 r7.2.2 (ixStr r7.1 (.int .i64 0))) (some (undef, r7.2.1, r7.2.2))).bind fun r8 =>
 ((gv r6.1 true).bind fun w => cond w (ret1 r8.2.1 r8.2.2 (aBinOp P .eql 5 r8.1 (.int .u8 48))) (some (undef, r8.2.1, r8.2.2))).bind fun r9 =>
 ((gv t13 false).bind fun w => cond w (pickR r9.2.1 r9.2.2 r6.1 r9.1 (.bool false)) (some (undef, r9.2.1, r9.2.2))).bind fun r10 =>
 (pickV t13 (.bool true) r10.1).bind fun t23 =>
 boolK t23
 (some { e := .ret, vs := [.tuple #[(.int .i64 0), (.bool false)]], h := r10.2.1, c := (r10.2.2 + 1), df := [] })
 ((o (f69_k69000 none) [t0, (.int .i64 0), (.bool false), (.int .i64 0), (.int .i64 0)] r10.2.1 ((r10.2.2 + 1) + 1) []).bind fun r11 =>
 cond (exIs r11.e (.exit 0))
  ((aBinOp P .leq 3 (r11.v 3) (.int .i64 1000)).bind fun t50 =>
  (takeAll r11.h r11.df).bind fun h13 =>
  some { e := .ret, vs := [.tuple #[(r11.v 3), t50]], h := h13, c := (r11.c + 1), df := [] })
  (cond (exIs r11.e .ret)
   ((takeAll r11.h r11.df).bind fun h12 =>
   some { e := .ret, vs := [.tuple #[(r11.v 1), (r11.v 2)]], h := h12, c := r11.c, df := [] })
   (none)))
theorem f69_S_eq (o : Orc H) (t0 : Value) (h : H) (c : Nat) : jx P o 51 none f69_c (tmOf (List.range 1) [t0]) h c [] (Kfn P Try.f69.results.toList) = f69_S o t0 h c := by kernel_rfl
end Go.Proofs.Ytcnndelmnobigaa

namespace Go.Proofs.Ytcnndelmnobigaa
open Go Go.Ab Go.Proofs
set_option maxRecDepth 100000
set_option linter.unusedVariables false
variable {H : Type} [HeapC H]
noncomputable def f70_R70000 (o : Orc H) (l : Nat) (t13 t14 t1 t2 t3 : Value) (h : H) (c : Nat) : Option (Rt H) :=
 (stN (newB h (256 * c + 0) [(.int .i64 0), (.int .i64 0)]) 2 (ptrTo (256 * c + 0)) t13).bind fun h1 =>
 (stN (newB h1 (256 * (c + 1) + 0) [(.int .i64 0), (.int .i64 0), (.int .i64 0), (.int .i64 0), (.int .i64 0)]) 5 (ptrTo (256 * (c + 1) + 0)) t14).bind fun h3 =>
 (beginSt h3 l).bind fun h4 =>
 ((ldN h4 5 (ptrTo (256 * (c + 1) + 0))).bind fun t15 =>
 (ldN h4 5 t3).bind fun t16 =>
 (aBinOp P .eql 41 t15 t16).bind fun t17 =>
 boolK t17
  (some { e := .normal, vs := [], h := h4, c := (((c + 1) + 1) + 1), df := [] })
  ((addOff (ptrTo (256 * (c + 1) + 0)) 0).bind fun t18 =>
  (ld1 h4 t18).bind fun t19 =>
  (aBinOp P .lss 3 t19 (.int .i64 0)).bind fun t20 =>
  ((gv t20 false).bind fun w => cond w (ret1 h4 ((((c + 1) + 1) + 1) + 1) (addOff (ptrTo (256 * (c + 1) + 0)) 0)) (some (undef, h4, ((((c + 1) + 1) + 1) + 1)))).bind fun r5 =>
  ((gv t20 false).bind fun w => cond w (ret1 r5.2.1 r5.2.2 (ld1 r5.2.1 r5.1)) (some (undef, r5.2.1, r5.2.2))).bind fun r6 =>
  ((gv t20 false).bind fun w => cond w (ret1 r6.2.1 r6.2.2 (addOff t1 0)) (some (undef, r6.2.1, r6.2.2))).bind fun r7 =>
  ((gv t20 false).bind fun w => cond w (ret1 r7.2.1 r7.2.2 (ld1 r7.2.1 r7.1)) (some (undef, r7.2.1, r7.2.2))).bind fun r8 =>
  ((gv t20 false).bind fun w => cond w (((lenS r8.1).bind fun v => some (v, r8.2.1)).bind fun r => some (r.1, r.2, r8.2.2)) (some (undef, r8.2.1, r8.2.2))).bind fun r9 =>
  ((gv t20 false).bind fun w => cond w (ret1 r9.2.1 r9.2.2 (aBinOp P .geq 3 r6.1 r9.1)) (some (undef, r9.2.1, r9.2.2))).bind fun r10 =>
  (pickV t20 (.bool true) r10.1).bind fun t28 =>
  ((gv t28 false).bind fun w => cond w (ret1 r10.2.1 r10.2.2 (addOff (ptrTo (256 * (c + 1) + 0)) 1)) (some (undef, r10.2.1, r10.2.2))).bind fun r11 =>
  ((gv t28 false).bind fun w => cond w (ret1 r11.2.1 r11.2.2 (ldN r11.2.1 4 r11.1)) (some (undef, r11.2.1, r11.2.2))).bind fun r12 =>
  ((gv t28 false).bind fun w => cond w (callF o 84 [r12.1] r12.2.1 r12.2.2) (some (undef, r12.2.1, r12.2.2))).bind fun r13 =>
  ((gv t28 false).bind fun w => cond w (ret1 r13.2.1 r13.2.2 (aUnOp .not r13.1)) (some (undef, r13.2.1, r13.2.2))).bind fun r14 =>
  (pickV t28 (.bool true) r14.1).bind fun t34 =>
  ((gv t34 false).bind fun w => cond w (ret1 r14.2.1 r14.2.2 (addOff (ptrTo (256 * (c + 1) + 0)) 0)) (some (undef, r14.2.1, r14.2.2))).bind fun r15 =>
  ((gv t34 false).bind fun w => cond w (ret1 r15.2.1 r15.2.2 (ld1 r15.2.1 r15.1)) (some (undef, r15.2.1, r15.2.2))).bind fun r16 =>
  ((gv t34 false).bind fun w => cond w (ret1 r16.2.1 r16.2.2 (addOff (ptrTo (256 * c + 0)) 0)) (some (undef, r16.2.1, r16.2.2))).bind fun r17 =>
  ((gv t34 false).bind fun w => cond w (ret1 r17.2.1 r17.2.2 (ld1 r17.2.1 r17.1)) (some (undef, r17.2.1, r17.2.2))).bind fun r18 =>
  ((gv t34 false).bind fun w => cond w (ret1 r18.2.1 r18.2.2 (aBinOp P .eql 3 r16.1 r18.1)) (some (undef, r18.2.1, r18.2.2))).bind fun r19 =>
  ((gv t34 false).bind fun w => cond w (ret1 r19.2.1 r19.2.2 (some r19.1)) (some (undef, r19.2.1, r19.2.2))).bind fun r20 =>
  ((gv r20.1 true).bind fun w => cond w (ret1 r20.2.1 r20.2.2 (addOff (ptrTo (256 * c + 0)) 1)) (some (undef, r20.2.1, r20.2.2))).bind fun r21 =>
  ((gv r20.1 true).bind fun w => cond w (ret1 r21.2.1 r21.2.2 (ld1 r21.2.1 r21.1)) (some (undef, r21.2.1, r21.2.2))).bind fun r22 =>
  ((gv r20.1 true).bind fun w => cond w (ret1 r22.2.1 r22.2.2 (addOff (ptrTo (256 * (c + 1) + 0)) 1)) (some (undef, r22.2.1, r22.2.2))).bind fun r23 =>
  ((gv r20.1 true).bind fun w => cond w (ret1 r23.2.1 r23.2.2 (ixA 4 1 r23.1 r22.1)) (some (undef, r23.2.1, r23.2.2))).bind fun r24 =>
  ((gv r20.1 true).bind fun w => cond w (ret1 r24.2.1 r24.2.2 (ld1 r24.2.1 r24.1)) (some (undef, r24.2.1, r24.2.2))).bind fun r25 =>
  ((gv r20.1 true).bind fun w => cond w (ret1 r25.2.1 r25.2.2 (addOff (ptrTo (256 * c + 0)) 1)) (some (undef, r25.2.1, r25.2.2))).bind fun r26 =>
  ((gv r20.1 true).bind fun w => cond w (ret1 r26.2.1 r26.2.2 (ld1 r26.2.1 r26.1)) (some (undef, r26.2.1, r26.2.2))).bind fun r27 =>
  ((gv r20.1 true).bind fun w => cond w (ret1 r27.2.1 r27.2.2 (aBinOp P .eql 3 r25.1 r27.1)) (some (undef, r27.2.1, r27.2.2))).bind fun r28 =>
  ((gv t34 false).bind fun w => cond w (pickR r28.2.1 r28.2.2 r20.1 r28.1 (.bool false)) (some (undef, r28.2.1, r28.2.2))).bind fun r29 =>
  (pickV t34 (.bool true) r29.1).bind fun t51 =>
  boolK t51
   ((stN r29.2.1 1 t2 (.int .i64 7)).bind fun h31 =>
   some { e := .ret, vs := [], h := h31, c := (r29.2.2 + 1), df := [] })
   ((addOff t1 0).bind fun t52 =>
   (ld1 r29.2.1 t52).bind fun t53 =>
   (addOff (ptrTo (256 * (c + 1) + 0)) 0).bind fun t54 =>
   (ld1 r29.2.1 t54).bind fun t55 =>
   (addOff (ptrTo (256 * c + 0)) 1).bind fun t56 =>
   (ld1 r29.2.1 t56).bind fun t57 =>
   (addOff (ptrTo (256 * (c + 1) + 0)) 1).bind fun t58 =>
   (ixA 4 1 t58 t57).bind fun t59 =>
   (ld1 r29.2.1 t59).bind fun t60 =>
   (ixS 20 t53 t55).bind fun t61 =>
   (ixA 4 5 t61 t60).bind fun t62 =>
   (ldN r29.2.1 5 t62).bind fun t63 =>
   (addOff (ptrTo (256 * c + 0)) 0).bind fun t64 =>
   (ld1 r29.2.1 t64).bind fun t65 =>
   (addOff (ptrTo (256 * (c + 1) + 0)) 1).bind fun t66 =>
   (ldN r29.2.1 4 t66).bind fun t67 =>
   (callF o 85 [t67] r29.2.1 (r29.2.2 + 1)).bind fun r32 =>
   (bldV [(.int .i64 0), (.int .i64 0), (.int .i64 0), (.int .i64 0), (.int .i64 0)] [(0, 1, t65), (1, 4, r32.1)]).bind fun t69 =>
   (aBinOp P .neq 41 t63 t69).bind fun t70 =>
   (bif (sameB (ridV t52) r29.2.1 r32.2.1 && (sameB (ridV t54) r29.2.1 r32.2.1 && (sameB (ridV t56) r29.2.1 r32.2.1 && (sameB (ridV t59) r29.2.1 r32.2.1 && (sameB (ridV t62) r29.2.1 r32.2.1 && (sameB (ridV t64) r29.2.1 r32.2.1 && true)))))) then
   boolK t70
    ((stN r32.2.1 1 t2 (.int .i64 7)).bind fun h34 =>
    some { e := .ret, vs := [], h := h34, c := (r32.2.2 + 1), df := [] })
    (some { e := .normal, vs := [], h := r32.2.1, c := r32.2.2, df := [] })
   else none))) : Option (Rt H)).bind fun r35 =>
 cond (exIs r35.e .normal)
 ((setState r35.h l .ready none).bind fun h37 =>
 cond (List.isEmpty (r35.df : List Nat)) (some { e := .ret, vs := [.bool true], h := h37, c := r35.c, df := [] }) none)
 (cond (exIs r35.e .ret)
  ((setState r35.h l .done (some .ret)).bind fun h36 =>
  cond (List.isEmpty (r35.df : List Nat)) (some { e := .ret, vs := [.bool false], h := h36, c := r35.c, df := [] }) none)
  (none))
theorem f70_R70000_eq (o : Orc H) (l : Nat) (t13 t14 t1 t2 t3 : Value) (h : H) (c : Nat) : jx P o 71 (some l) f70_a70000 (tmOf ([13, 14] ++ [1, 2, 3]) [t13, t14, t1, t2, t3]) h c [] (rndK P o 71 l f70_c70000) = f70_R70000 o l t13 t14 t1 t2 t3 h c := by kernel_rfl
noncomputable def f70_S (o : Orc H) (t0 : Value) (h : H) (c : Nat) : Option (Rt H) :=
 (bif (t0 : Value).cells.toList.all isFlat then
 (addOff (ptrTo (256 * c + 0)) 0).bind fun t6 =>
 (ld1 (newB (newB h (256 * c + 0) (t0 : Value).cells.toList) (256 * c + 1) [(.int .i64 0)]) t6).bind fun t7 =>
 (lenS t7).bind fun t8 =>
 (aBinOp P .gtr 3 t8 (.int .i64 1000)).bind fun t9 =>
 boolK t9
 ((stN (newB (newB h (256 * c + 0) (t0 : Value).cells.toList) (256 * c + 1) [(.int .i64 0)]) 1 (ptrTo (256 * c + 1)) (.int .i64 7)).bind fun h1 =>
 (ld1 h1 (ptrTo (256 * c + 1))).bind fun v2 =>
 some { e := .ret, vs := [v2], h := h1, c := (((c + 1) + 1) + 1), df := [] })
 ((bldV [(.int .i64 0), (.int .i64 0), (.int .i64 0), (.int .i64 0), (.int .i64 0)] [(0, 1, (.int .i64 (-1)))]).bind fun t10 =>
 (stN (newB (newB (newB h (256 * c + 0) (t0 : Value).cells.toList) (256 * c + 1) [(.int .i64 0)]) (256 * ((c + 1) + 1) + 1) [(.int .i64 0), (.int .i64 0), (.int .i64 0), (.int .i64 0), (.int .i64 0)]) 5 (ptrTo (256 * ((c + 1) + 1) + 1)) t10).bind fun h4 =>
 (ldN h4 1 (ptrTo (256 * c + 0))).bind fun t11 =>
 (callF o 83 [t11] h4 ((((c + 1) + 1) + 1) + 1)).bind fun r5 =>
 (rangeV o 71 none [1, 2, 3] [] #[13, 14] f70_a70000 f70_c70000 r5.1 [(ptrTo (256 * c + 0)), (ptrTo (256 * c + 1)), (ptrTo (256 * ((c + 1) + 1) + 1))] r5.2.1 r5.2.2 []).bind fun q6 =>
 cond (exIs q6.1 .normal)
  ((stN q6.2.1 1 (ptrTo (256 * c + 1)) (.int .i64 0)).bind fun h10 =>
  (takeAll h10 q6.2.2.2).bind fun h11 =>
  (ld1 h11 (ptrTo (256 * c + 1))).bind fun v12 =>
  some { e := .ret, vs := [v12], h := h11, c := (q6.2.2.1 + 1), df := [] })
  (cond (exIs q6.1 .ret)
   ((takeAll q6.2.1 q6.2.2.2).bind fun h7 =>
   (ld1 h7 (ptrTo (256 * c + 1))).bind fun v8 =>
   some { e := .ret, vs := [v8], h := h7, c := q6.2.2.1, df := [] })
   (none)))
 else none)
theorem f70_S_eq (o : Orc H) (t0 : Value) (h : H) (c : Nat) : jx P o 71 none f70_c (tmOf (List.range 1) [t0]) h c [] (Kfn P Try.f70.results.toList) = f70_S o t0 h c := by kernel_rfl
theorem f70_go {t0 : Value} {h : FH} {c : Nat} {df : List Nat} {r : Rt FH} (e : f70_S G t0 h c = some r) : G (.fn 70) [t0] h c df = some (gcR h c [] r) := runG_fn (a := f70_f) bk_70 rfl (fun args h c => by cases args <;> rfl) rfl ((f70_S_eq G t0 h c).trans e)
theorem f70_G70000 {t13 t14 t1 t2 t3 : Value} {l : Nat} {h : FH} {c : Nat} {df : List Nat} {r : Rt FH} (e : f70_R70000 G l t13 t14 t1 t2 t3 h c = some r) : G (.rnd 71 [1, 2, 3] [] [13, 14] l f70_a70000 f70_c70000) [t13, t14, t1, t2, t3] h c df = some r := runG_rnd ((f70_R70000_eq G l t13 t14 t1 t2 t3 h c).trans e)
noncomputable def f71_L71000 (o : Orc H) (rd : Option Nat) (t2 t3 t10 t11 : Value) (h : H) (c : Nat) (df : List Nat) : Option (Rt H) :=
 (aBinOp P .lss 3 t11 t10).bind fun t12 =>
 boolK t12
 ((addOff t3 0).bind fun t14 =>
 (ld1 h t14).bind fun t15 =>
 (ixS 1 t15 t11).bind fun t18 =>
 (stN h 1 t18 t11).bind fun h1 =>
 (aBinOp P .add 3 t11 (.int .i64 1)).bind fun t19 =>
 some { e := .normal, vs := [t2, t3, t10, t19], h := h1, c := ((((c + 1) + 1) + 1) + 1), df := df })
 (some { e := (.exit 0), vs := [t2, t3, t10, t11], h := h, c := (c + 1), df := df })
theorem f71_L71000_eq (o : Orc H) (rd : Option Nat) (t2 t3 t10 t11 : Value) (h : H) (c : Nat) (df : List Nat) : jx P o 21 rd f71_c71000 (tmOf [2, 3, 10, 11] [t2, t3, t10, t11]) h c df (Klp [2, 3, 10, 11]) = f71_L71000 o rd t2 t3 t10 t11 h c df := by kernel_rfl
noncomputable def f71_S (o : Orc H) (t0 : Value) (h : H) (c : Nat) : Option (Rt H) :=
 (mkS 1 8 [(.int .i64 0)] t0 t0).bind fun r0 =>
 (bldV [(.slice none 0 0)] [(0, 1, (.slice (some ⟨(256 * (c + 1) + 1), 0, none⟩) r0.2.1 r0.2.2))]).bind fun t7 =>
 (stN (newB (newB (newB h (256 * c + 0) [(.slice none 0 0)]) (256 * (c + 1) + 1) r0.1) (256 * (c + 1) + 3) [(.slice none 0 0)]) 1 (ptrTo (256 * (c + 1) + 3)) t7).bind fun h2 =>
 (addOff (ptrTo (256 * (c + 1) + 3)) 0).bind fun t8 =>
 (ld1 h2 t8).bind fun t9 =>
 (lenS t9).bind fun t10 =>
 (o (f71_k71000 none) [(ptrTo (256 * c + 0)), (ptrTo (256 * (c + 1) + 3)), t10, (.int .i64 0)] h2 (((c + 1) + 1) + 1) []).bind fun r3 =>
 cond (exIs r3.e (.exit 0))
 ((ldN r3.h 1 (r3.v 1)).bind fun t20 =>
 (stN r3.h 1 (r3.v 0) t20).bind fun h5 =>
 (takeAll h5 r3.df).bind fun h6 =>
 (ldN h6 1 (r3.v 0)).bind fun v7 =>
 some { e := .ret, vs := [v7], h := h6, c := (r3.c + 1), df := [] })
 (none)
theorem f71_S_eq (o : Orc H) (t0 : Value) (h : H) (c : Nat) : jx P o 21 none f71_c (tmOf (List.range 1) [t0]) h c [] (Kfn P Try.f71.results.toList) = f71_S o t0 h c := by kernel_rfl
theorem f71_go {t0 : Value} {h : FH} {c : Nat} {df : List Nat} {r : Rt FH} (e : f71_S G t0 h c = some r) : G (.fn 71) [t0] h c df = some r := runG_fn (a := f71_f) bk_71 rfl (fun args h c => by cases args <;> rfl) rfl ((f71_S_eq G t0 h c).trans e)
theorem f71_N71000 {rd : Option Nat} {t2 t3 t10 t11 : Value} {h : FH} {c : Nat} {df : List Nat} {q r : Rt FH} (e : f71_L71000 G rd t2 t3 t10 t11 h c df = some q) (hq : q.e = .normal) (k : G (f71_k71000 rd) q.vs (gcR h c df q).h (gcR h c df q).c q.df = some r) : G (f71_k71000 rd) [t2, t3, t10, t11] h c df = some r := runG_lp_next ((f71_L71000_eq G rd t2 t3 t10 t11 h c df).trans e) hq k
theorem f71_Z71000 {rd : Option Nat} {t2 t3 t10 t11 : Value} {h : FH} {c : Nat} {df : List Nat} {q : Rt FH} (e : f71_L71000 G rd t2 t3 t10 t11 h c df = some q) (hq : q.e ≠ .normal) : G (f71_k71000 rd) [t2, t3, t10, t11] h c df = some (gcR h c df q) := runG_lp_last ((f71_L71000_eq G rd t2 t3 t10 t11 h c df).trans e) hq
noncomputable def f72_S (o : Orc H) (t0 t1 t2 : Value) (h : H) (c : Nat) : Option (Rt H) :=
 (callF o 46 [t0, t1] h (c + 1)).bind fun r0 =>
 (callF o 46 [t0, t2] r0.2.1 r0.2.2).bind fun r1 =>
 (aNilCheck t0).bind fun t13 =>
 (addOff t13 0).bind fun t14 =>
 (ld1 r1.2.1 t14).bind fun t15 =>
 (foldV max2 [r0.1, r1.1]).bind fun t18 =>
 (foldV min2 [r0.1, r1.1]).bind fun t21 =>
 (ixS 1 t15 t18).bind fun t22 =>
 (stN r1.2.1 1 t22 t21).bind fun h5 =>
 some { e := .ret, vs := [.tuple #[]], h := h5, c := (r1.2.2 + 1), df := [] }
theorem f72_S_eq (o : Orc H) (t0 t1 t2 : Value) (h : H) (c : Nat) : jx P o 23 none f72_c (tmOf (List.range 3) [t0, t1, t2]) h c [] (Kfn P Try.f72.results.toList) = f72_S o t0 t1 t2 h c := by kernel_rfl
theorem f72_go {t0 t1 t2 : Value} {h : FH} {c : Nat} {df : List Nat} {r : Rt FH} (e : f72_S G t0 t1 t2 h c = some r) : G (.fn 72) [t0, t1, t2] h c df = some (gcR h c [] r) := runG_fn (a := f72_f) bk_72 rfl (fun args h c => by cases args <;> rfl) rfl ((f72_S_eq G t0 t1 t2 h c).trans e)
noncomputable def f73_S (o : Orc H) (t0 t1 : Value) (h : H) (c : Nat) : Option (Rt H) :=
 (bif (t0 : Value).cells.toList.all isFlat then
 (bif (t1 : Value).cells.toList.all isFlat then
 (callF o 87 [] (newB (newB h (256 * c + 0) (t0 : Value).cells.toList) (256 * c + 1) (t1 : Value).cells.toList) ((c + 1) + 1)).bind fun r0 =>
 (callF o 86 [r0.1, (.func (.func 88) [].toArray [(ptrTo (256 * c + 0)), (ptrTo (256 * c + 1))].toArray)] r0.2.1 r0.2.2).bind fun r1 =>
 some { e := .ret, vs := [r1.1], h := r1.2.1, c := r1.2.2, df := [] }
 else none)
 else none)
theorem f73_S_eq (o : Orc H) (t0 t1 : Value) (h : H) (c : Nat) : jx P o 8 none f73_c (tmOf (List.range 2) [t0, t1]) h c [] (Kfn P Try.f73.results.toList) = f73_S o t0 t1 h c := by kernel_rfl
theorem f73_go {t0 t1 : Value} {h : FH} {c : Nat} {df : List Nat} {r : Rt FH} (e : f73_S G t0 t1 h c = some r) : G (.fn 73) [t0, t1] h c df = some (gcR h c [] r) := runG_fn (a := f73_f) bk_73 rfl (fun args h c => by cases args <;> rfl) rfl ((f73_S_eq G t0 t1 h c).trans e)
noncomputable def f74_L74000 (o : Orc H) (rd : Option Nat) (t0 t1 t7 t8 t9 t34 : Value) (h : H) (c : Nat) (df : List Nat) : Option (Rt H) :=
 (aBinOp P .lss 3 t34 (.int .i64 3)).bind fun t35 =>
 boolK t35
 ((callF o 60 [] h (((c + 1) + 1) + 1)).bind fun r0 =>
 (ixV 4 true 4 r0.1 t7).bind fun t40 =>
 (ixV 4 false 1 t40 t8).bind fun t42 =>
 (aBinOp P .neq 3 t34 t42).bind fun t43 =>
 (boolK t43
   ((aBinOp P .mul 3 (.int .i64 7) t1).bind fun t47 =>
   (aBinOp P .add 3 t47 (.int .i64 4)).bind fun t48 =>
   (aBinOp P .add 3 t48 t34).bind fun t50 =>
   (ixS 1 t0 t50).bind fun t51 =>
   (ld1 r0.2.1 t51).bind fun t52 =>
   (aBinOp P .add 3 t9 t52).bind fun t53 =>
   some { e := .normal, vs := [t0, t1, t7, t8, t53, t34], h := r0.2.1, c := (r0.2.2 + 1), df := df })
   (some { e := .normal, vs := [t0, t1, t7, t8, t9, t34], h := r0.2.1, c := r0.2.2, df := df }) : Option (Rt H)).bind fun r2 =>
 cond (exIs r2.e .normal)
  ((aBinOp P .add 3 (r2.v 5) (.int .i64 1)).bind fun t54 =>
  some { e := .normal, vs := [(r2.v 0), (r2.v 1), (r2.v 2), (r2.v 3), (r2.v 4), t54], h := r2.h, c := (r2.c + 1), df := r2.df })
  (none))
 (some { e := (.exit 0), vs := [t0, t1, t7, t8, t9, t34], h := h, c := (c + 1), df := df })
theorem f74_L74000_eq (o : Orc H) (rd : Option Nat) (t0 t1 t7 t8 t9 t34 : Value) (h : H) (c : Nat) (df : List Nat) : jx P o 56 rd f74_c74000 (tmOf [0, 1, 7, 8, 9, 34] [t0, t1, t7, t8, t9, t34]) h c df (Klp [0, 1, 7, 8, 9, 34]) = f74_L74000 o rd t0 t1 t7 t8 t9 t34 h c df := by kernel_rfl
noncomputable def f74_S (o : Orc H) (t0 t1 t2 : Value) (h : H) (c : Nat) : Option (Rt H) :=
 (callF o 89 [] h ((c + 1) + 1)).bind fun r0 =>
 (ixV 6 true 2 r0.1 t2).bind fun t13 =>
 (ixV 2 false 1 t13 (.int .i64 0)).bind fun t14 =>
 (callF o 89 [] r0.2.1 r0.2.2).bind fun r1 =>
 (ixV 6 true 2 r1.1 t2).bind fun t17 =>
 (ixV 2 false 1 t17 (.int .i64 1)).bind fun t18 =>
 (aBinOp P .mul 3 (.int .i64 7) t1).bind fun t21 =>
 (aBinOp P .add 3 t21 t14).bind fun t23 =>
 (ixS 1 t0 t23).bind fun t24 =>
 (ld1 r1.2.1 t24).bind fun t25 =>
 (aBinOp P .mul 3 (.int .i64 7) t1).bind fun t28 =>
 (aBinOp P .add 3 t28 t18).bind fun t30 =>
 (ixS 1 t0 t30).bind fun t31 =>
 (ld1 r1.2.1 t31).bind fun t32 =>
 (aBinOp P .add 3 t25 t32).bind fun t33 =>
 (o (f74_k74000 none) [t0, t1, t14, t18, t33, (.int .i64 0)] r1.2.1 ((r1.2.2 + 1) + 1) []).bind fun r2 =>
 cond (exIs r2.e (.exit 0))
 ((takeAll r2.h r2.df).bind fun h3 =>
 some { e := .ret, vs := [(r2.v 4)], h := h3, c := (r2.c + 1), df := [] })
 (none)
theorem f74_S_eq (o : Orc H) (t0 t1 t2 : Value) (h : H) (c : Nat) : jx P o 56 none f74_c (tmOf (List.range 3) [t0, t1, t2]) h c [] (Kfn P Try.f74.results.toList) = f74_S o t0 t1 t2 h c := by kernel_rfl
noncomputable def f75_S (o : Orc H) (t0 t1 : Value) (h : H) (c : Nat) : Option (Rt H) :=
 (callF o 90 [t0, t1] h ((c + 1) + 1)).bind fun r0 =>
 (aBinOp P .geq 3 r0.1 (.int .i64 0)).bind fun t8 =>
 some { e := .ret, vs := [t8], h := r0.2.1, c := r0.2.2, df := [] }
theorem f75_S_eq (o : Orc H) (t0 t1 : Value) (h : H) (c : Nat) : jx P o 9 none f75_c (tmOf (List.range 2) [t0, t1]) h c [] (Kfn P Try.f75.results.toList) = f75_S o t0 t1 h c := by kernel_rfl
theorem f75_go {t0 t1 : Value} {h : FH} {c : Nat} {df : List Nat} {r : Rt FH} (e : f75_S G t0 t1 h c = some r) : G (.fn 75) [t0, t1] h c df = some (gcR h c [] r) := runG_fn (a := f75_f) bk_75 rfl (fun args h c => by cases args <;> rfl) rfl ((f75_S_eq G t0 t1 h c).trans e)
noncomputable def f76_S (o : Orc H) (t0 : Value) (h : H) (c : Nat) : Option (Rt H) :=
 (aBinOp P .lss 3 t0 (.int .i64 0)).bind fun t4 =>
 ((gv t4 false).bind fun w => cond w (ret1 h ((c + 1) + 1) (some t0)) (some (undef, h, ((c + 1) + 1)))).bind fun r0 =>
 ((gv t4 false).bind fun w => cond w (ret1 r0.2.1 r0.2.2 (aBinOp P .gtr 3 r0.1 (.int .i64 1000000))) (some (undef, r0.2.1, r0.2.2))).bind fun r1 =>
 (pickV t4 (.bool true) r1.1).bind fun t8 =>
 some { e := .ret, vs := [t8], h := r1.2.1, c := r1.2.2, df := [] }
theorem f76_S_eq (o : Orc H) (t0 : Value) (h : H) (c : Nat) : jx P o 9 none f76_c (tmOf (List.range 1) [t0]) h c [] (Kfn P Try.f76.results.toList) = f76_S o t0 h c := by kernel_rfl
theorem f76_go {t0 : Value} {h : FH} {c : Nat} {df : List Nat} {r : Rt FH} (e : f76_S G t0 h c = some r) : G (.fn 76) [t0] h c df = some (gcR h c [] r) := runG_fn (a := f76_f) bk_76 rfl (fun args h c => by cases args <;> rfl) rfl ((f76_S_eq G t0 h c).trans e)
noncomputable def f77_L77002 (o : Orc H) (rd : Option Nat) (t0 t3 t5 t6 t9 t10 t11 t16 t17 t44 : Value) (h : H) (c : Nat) (df : List Nat) : Option (Rt H) :=
 (aBinOp P .lss 3 t44 (.int .i64 4)).bind fun t45 =>
 boolK t45
 ((aBinOp P .neq 3 t44 t5).bind fun t49 =>
 ((gv t49 true).bind fun w => cond w (ret1 h (((c + 1) + 1) + 1) (some t0)) (some (undef, h, (((c + 1) + 1) + 1)))).bind fun r0 =>
 ((gv t49 true).bind fun w => cond w (ret1 r0.2.1 r0.2.2 (some t3)) (some (undef, r0.2.1, r0.2.2))).bind fun r1 =>
 ((gv t49 true).bind fun w => cond w (ret1 r1.2.1 r1.2.2 (some t5)) (some (undef, r1.2.1, r1.2.2))).bind fun r2 =>
 ((gv t49 true).bind fun w => cond w (ret1 r2.2.1 r2.2.2 (some t44)) (some (undef, r2.2.1, r2.2.2))).bind fun r3 =>
 ((gv t49 true).bind fun w => cond w (ret1 r3.2.1 r3.2.2 (addOff t6 0)) (some (undef, r3.2.1, r3.2.2))).bind fun r4 =>
 ((gv t49 true).bind fun w => cond w (ret1 r4.2.1 r4.2.2 (ld1 r4.2.1 r4.1)) (some (undef, r4.2.1, r4.2.2))).bind fun r5 =>
 ((gv t49 true).bind fun w => cond w (ret1 r5.2.1 r5.2.2 (some t5)) (some (undef, r5.2.1, r5.2.2))).bind fun r6 =>
 ((gv t49 true).bind fun w => cond w (ret1 r6.2.1 r6.2.2 (addOff t6 1)) (some (undef, r6.2.1, r6.2.2))).bind fun r7 =>
 ((gv t49 true).bind fun w => cond w (ret1 r7.2.1 r7.2.2 (ixA 4 1 r7.1 r6.1)) (some (undef, r7.2.1, r7.2.2))).bind fun r8 =>
 ((gv t49 true).bind fun w => cond w (ret1 r8.2.1 r8.2.2 (ld1 r8.2.1 r8.1)) (some (undef, r8.2.1, r8.2.2))).bind fun r9 =>
 ((gv t49 true).bind fun w => cond w (ret1 r9.2.1 r9.2.2 (some t44)) (some (undef, r9.2.1, r9.2.2))).bind fun r10 =>
 ((gv t49 true).bind fun w => cond w (ret1 r10.2.1 r10.2.2 (addOff t6 1)) (some (undef, r10.2.1, r10.2.2))).bind fun r11 =>
 ((gv t49 true).bind fun w => cond w (ret1 r11.2.1 r11.2.2 (ixA 4 1 r11.1 r10.1)) (some (undef, r11.2.1, r11.2.2))).bind fun r12 =>
 ((gv t49 true).bind fun w => cond w (ret1 r12.2.1 r12.2.2 (ld1 r12.2.1 r12.1)) (some (undef, r12.2.1, r12.2.2))).bind fun r13 =>
 ((gv t49 true).bind fun w => cond w (ret1 r13.2.1 r13.2.2 (bldV [(.int .i64 0), (.int .i64 0), (.int .i64 0), (.int .i64 0), (.int .i64 0), (.int .i64 0)] [(0, 1, r1.1), (1, 1, r2.1), (2, 1, r3.1), (3, 1, r5.1), (4, 1, r9.1), (5, 1, r13.1)])) (some (undef, r13.2.1, r13.2.2))).bind fun r14 =>
 ((gv t49 true).bind fun w => cond w (callV o r14.2.1 r14.2.2 r0.1 [r14.1]) (some (undef, r14.2.1, r14.2.2))).bind fun r15 =>
 ((gv t49 true).bind fun w => cond w (ret1 r15.2.1 r15.2.2 (aUnOp .not r15.1)) (some (undef, r15.2.1, r15.2.2))).bind fun r16 =>
 (pickV t49 r16.1 (.bool false)).bind fun t68 =>
 boolK t68
  (some { e := .ret, vs := [t0, t3, t5, t6, t9, t10, t11, t16, t17, t44], h := r16.2.1, c := r16.2.2, df := df })
  ((aBinOp P .add 3 t44 (.int .i64 1)).bind fun t69 =>
  some { e := .normal, vs := [t0, t3, t5, t6, t9, t10, t11, t16, t17, t69], h := r16.2.1, c := (r16.2.2 + 1), df := df }))
 (some { e := (.exit 4), vs := [t0, t3, t5, t6, t9, t10, t11, t16, t17, t44], h := h, c := (c + 1), df := df })
theorem f77_L77002_eq (o : Orc H) (rd : Option Nat) (t0 t3 t5 t6 t9 t10 t11 t16 t17 t44 : Value) (h : H) (c : Nat) (df : List Nat) : jx P o 72 rd f77_c77002 (tmOf [0, 3, 5, 6, 9, 10, 11, 16, 17, 44] [t0, t3, t5, t6, t9, t10, t11, t16, t17, t44]) h c df (Klp [0, 3, 5, 6, 9, 10, 11, 16, 17, 44]) = f77_L77002 o rd t0 t3 t5 t6 t9 t10 t11 t16 t17 t44 h c df := by kernel_rfl
noncomputable def f77_L77001 (o : Orc H) (rd : Option Nat) (t0 t3 t9 t10 t11 t16 t17 : Value) (h : H) (c : Nat) (df : List Nat) : Option (Rt H) :=
 (aBinOp P .lss 3 t17 (.int .i64 4)).bind fun t18 =>
 boolK t18
 (((ixV 4 true 5 t16 t17).bind fun t20 =>
  (stN (newB h (256 * (c + 1) + 2) [(.int .i64 0), (.int .i64 0), (.int .i64 0), (.int .i64 0), (.int .i64 0)]) 5 (ptrTo (256 * (c + 1) + 2)) t20).bind fun h1 =>
  (addOff (ptrTo (256 * (c + 1) + 2)) 0).bind fun t21 =>
  (ld1 h1 t21).bind fun t22 =>
  (aBinOp P .lss 3 t22 (.int .i64 0)).bind fun t23 =>
  ((gv t23 false).bind fun w => cond w (ret1 h1 (((c + 1) + 1) + 1) (addOff (ptrTo (256 * (c + 1) + 2)) 0)) (some (undef, h1, (((c + 1) + 1) + 1)))).bind fun r2 =>
  ((gv t23 false).bind fun w => cond w (ret1 r2.2.1 r2.2.2 (ld1 r2.2.1 r2.1)) (some (undef, r2.2.1, r2.2.2))).bind fun r3 =>
  ((gv t23 false).bind fun w => cond w (ret1 r3.2.1 r3.2.2 (some t3)) (some (undef, r3.2.1, r3.2.2))).bind fun r4 =>
  ((gv t23 false).bind fun w => cond w (ret1 r4.2.1 r4.2.2 (aBinOp P .lss 3 r3.1 r4.1)) (some (undef, r4.2.1, r4.2.2))).bind fun r5 =>
  (pickV t23 (.bool true) r5.1).bind fun t29 =>
  ((gv t29 false).bind fun w => cond w (ret1 r5.2.1 r5.2.2 (addOff (ptrTo (256 * (c + 1) + 2)) 0)) (some (undef, r5.2.1, r5.2.2))).bind fun r6 =>
  ((gv t29 false).bind fun w => cond w (ret1 r6.2.1 r6.2.2 (ld1 r6.2.1 r6.1)) (some (undef, r6.2.1, r6.2.2))).bind fun r7 =>
  ((gv t29 false).bind fun w => cond w (ret1 r7.2.1 r7.2.2 (some t3)) (some (undef, r7.2.1, r7.2.2))).bind fun r8 =>
  ((gv t29 false).bind fun w => cond w (ret1 r8.2.1 r8.2.2 (aBinOp P .eql 3 r7.1 r8.1)) (some (undef, r8.2.1, r8.2.2))).bind fun r9 =>
  ((gv t29 false).bind fun w => cond w (ret1 r9.2.1 r9.2.2 (some r9.1)) (some (undef, r9.2.1, r9.2.2))).bind fun r10 =>
  ((gv r10.1 true).bind fun w => cond w (ret1 r10.2.1 r10.2.2 (some t17)) (some (undef, r10.2.1, r10.2.2))).bind fun r11 =>
  ((gv r10.1 true).bind fun w => cond w (ret1 r11.2.1 r11.2.2 (addOff (ptrTo (256 * (c + 1) + 2)) 1)) (some (undef, r11.2.1, r11.2.2))).bind fun r12 =>
  ((gv r10.1 true).bind fun w => cond w (ret1 r12.2.1 r12.2.2 (ixA 4 1 r12.1 r11.1)) (some (undef, r12.2.1, r12.2.2))).bind fun r13 =>
  ((gv r10.1 true).bind fun w => cond w (ret1 r13.2.1 r13.2.2 (ld1 r13.2.1 r13.1)) (some (undef, r13.2.1, r13.2.2))).bind fun r14 =>
  ((gv r10.1 true).bind fun w => cond w (ret1 r14.2.1 r14.2.2 (some t17)) (some (undef, r14.2.1, r14.2.2))).bind fun r15 =>
  ((gv r10.1 true).bind fun w => cond w (ret1 r15.2.1 r15.2.2 (aBinOp P .lss 3 r14.1 r15.1)) (some (undef, r15.2.1, r15.2.2))).bind fun r16 =>
  ((gv t29 false).bind fun w => cond w (pickR r16.2.1 r16.2.2 r10.1 r16.1 (.bool false)) (some (undef, r16.2.1, r16.2.2))).bind fun r17 =>
  (pickV t29 (.bool true) r17.1).bind fun t43 =>
  boolK t43
   (some { e := .normal, vs := [t0, t3, t9, t10, t11, t16, t17], h := r17.2.1, c := r17.2.2, df := df })
   ((o (f77_k77002 rd) [t0, t3, t17, (ptrTo (256 * (c + 1) + 2)), t9, t10, t11, t16, t17, (.int .i64 0)] r17.2.1 (r17.2.2 + 1) df).bind fun r18 =>
   cond (exIs r18.e (.exit 4))
    (some { e := .normal, vs := [(r18.v 0), (r18.v 1), (r18.v 4), (r18.v 5), (r18.v 6), (r18.v 7), (r18.v 8)], h := r18.h, c := r18.c, df := r18.df })
    (cond (exIs r18.e .ret)
     (some { e := .ret, vs := [(r18.v 0), (r18.v 1), (r18.v 4), (r18.v 5), (r18.v 6), (r18.v 7), (r18.v 8)], h := r18.h, c := r18.c, df := r18.df })
     (none))) : Option (Rt H)).bind fun r19 =>
 cond (exIs r19.e .normal)
  ((aBinOp P .add 3 (r19.v 6) (.int .i64 1)).bind fun t70 =>
  some { e := .normal, vs := [(r19.v 0), (r19.v 1), (r19.v 2), (r19.v 3), (r19.v 4), (r19.v 5), t70], h := r19.h, c := (r19.c + 1), df := r19.df })
  (cond (exIs r19.e .ret)
   (some { e := .ret, vs := [(r19.v 0), (r19.v 1), (r19.v 2), (r19.v 3), (r19.v 4), (r19.v 5), (r19.v 6)], h := r19.h, c := r19.c, df := r19.df })
   (none)))
 (some { e := (.exit 2), vs := [t0, t3, t9, t10, t11, t16, t17], h := h, c := (c + 1), df := df })
theorem f77_L77001_eq (o : Orc H) (rd : Option Nat) (t0 t3 t9 t10 t11 t16 t17 : Value) (h : H) (c : Nat) (df : List Nat) : jx P o 72 rd f77_c77001 (tmOf [0, 3, 9, 10, 11, 16, 17] [t0, t3, t9, t10, t11, t16, t17]) h c df (Klp [0, 3, 9, 10, 11, 16, 17]) = f77_L77001 o rd t0 t3 t9 t10 t11 t16 t17 h c df := by kernel_rfl
noncomputable def f77_L77000 (o : Orc H) (rd : Option Nat) (t0 t9 t10 t11 : Value) (h : H) (c : Nat) (df : List Nat) : Option (Rt H) :=
 (aBinOp P .lss 3 t11 t10).bind fun t12 =>
 boolK t12
 ((ixS 20 t9 t11).bind fun t14 =>
 (ldN h 20 t14).bind fun t15 =>
 (stN (newB h (256 * (c + 1) + 3) [(.int .i64 0), (.int .i64 0), (.int .i64 0), (.int .i64 0), (.int .i64 0), (.int .i64 0), (.int .i64 0), (.int .i64 0), (.int .i64 0), (.int .i64 0), (.int .i64 0), (.int .i64 0), (.int .i64 0), (.int .i64 0), (.int .i64 0), (.int .i64 0), (.int .i64 0), (.int .i64 0), (.int .i64 0), (.int .i64 0)]) 20 (ptrTo (256 * (c + 1) + 3)) t15).bind fun h1 =>
 (ldN h1 20 (ptrTo (256 * (c + 1) + 3))).bind fun t16 =>
 (o (f77_k77001 rd) [t0, t11, t9, t10, t11, t16, (.int .i64 0)] h1 (((c + 1) + 1) + 1) df).bind fun r2 =>
 cond (exIs r2.e (.exit 2))
  ((aBinOp P .add 3 (r2.v 4) (.int .i64 1)).bind fun t71 =>
  some { e := .normal, vs := [(r2.v 0), (r2.v 2), (r2.v 3), t71], h := r2.h, c := (r2.c + 1), df := r2.df })
  (cond (exIs r2.e .ret)
   (some { e := .ret, vs := [(r2.v 0), (r2.v 2), (r2.v 3), (r2.v 4)], h := r2.h, c := r2.c, df := r2.df })
   (none)))
 (some { e := (.exit 0), vs := [t0, t9, t10, t11], h := h, c := (c + 1), df := df })
theorem f77_L77000_eq (o : Orc H) (rd : Option Nat) (t0 t9 t10 t11 : Value) (h : H) (c : Nat) (df : List Nat) : jx P o 72 rd f77_c77000 (tmOf [0, 9, 10, 11] [t0, t9, t10, t11]) h c df (Klp [0, 9, 10, 11]) = f77_L77000 o rd t0 t9 t10 t11 h c df := by kernel_rfl
noncomputable def f77_S (o : Orc H) (t0 t1 : Value) (h : H) (c : Nat) : Option (Rt H) :=
 (addOff t1 0).bind fun t8 =>
 (ld1 h t8).bind fun t9 =>
 (lenS t9).bind fun t10 =>
 (o (f77_k77000 none) [t0, t9, t10, (.int .i64 0)] h (c + 1) []).bind fun r0 =>
 cond (exIs r0.e (.exit 0))
 ((takeAll r0.h r0.df).bind fun h2 =>
 some { e := .ret, vs := [.tuple #[]], h := h2, c := r0.c, df := [] })
 (cond (exIs r0.e .ret)
  ((takeAll r0.h r0.df).bind fun h1 =>
  some { e := .ret, vs := [.tuple #[]], h := h1, c := r0.c, df := [] })
  (none))
theorem f77_S_eq (o : Orc H) (t0 t1 : Value) (h : H) (c : Nat) : jx P o 72 none f77_c (tmOf (List.range 2) [t0, t1]) h c [] (Kfn P Try.f77.results.toList) = f77_S o t0 t1 h c := by kernel_rfl
theorem f77_go {t0 t1 : Value} {h : FH} {c : Nat} {df : List Nat} {r : Rt FH} (e : f77_S G t0 t1 h c = some r) : G (.fn 77) [t0, t1] h c df = some r := runG_fn (a := f77_f) bk_77 rfl (fun args h c => by cases args <;> rfl) rfl ((f77_S_eq G t0 t1 h c).trans e)
theorem f77_N77002 {rd : Option Nat} {t0 t3 t5 t6 t9 t10 t11 t16 t17 t44 : Value} {h : FH} {c : Nat} {df : List Nat} {q r : Rt FH} (e : f77_L77002 G rd t0 t3 t5 t6 t9 t10 t11 t16 t17 t44 h c df = some q) (hq : q.e = .normal) (k : G (f77_k77002 rd) q.vs q.h q.c q.df = some r) : G (f77_k77002 rd) [t0, t3, t5, t6, t9, t10, t11, t16, t17, t44] h c df = some r := runG_lp_next ((f77_L77002_eq G rd t0 t3 t5 t6 t9 t10 t11 t16 t17 t44 h c df).trans e) hq k
theorem f77_Z77002 {rd : Option Nat} {t0 t3 t5 t6 t9 t10 t11 t16 t17 t44 : Value} {h : FH} {c : Nat} {df : List Nat} {q : Rt FH} (e : f77_L77002 G rd t0 t3 t5 t6 t9 t10 t11 t16 t17 t44 h c df = some q) (hq : q.e ≠ .normal) : G (f77_k77002 rd) [t0, t3, t5, t6, t9, t10, t11, t16, t17, t44] h c df = some q := runG_lp_last ((f77_L77002_eq G rd t0 t3 t5 t6 t9 t10 t11 t16 t17 t44 h c df).trans e) hq
theorem f77_N77001 {rd : Option Nat} {t0 t3 t9 t10 t11 t16 t17 : Value} {h : FH} {c : Nat} {df : List Nat} {q r : Rt FH} (e : f77_L77001 G rd t0 t3 t9 t10 t11 t16 t17 h c df = some q) (hq : q.e = .normal) (k : G (f77_k77001 rd) q.vs q.h q.c q.df = some r) : G (f77_k77001 rd) [t0, t3, t9, t10, t11, t16, t17] h c df = some r := runG_lp_next ((f77_L77001_eq G rd t0 t3 t9 t10 t11 t16 t17 h c df).trans e) hq k
theorem f77_Z77001 {rd : Option Nat} {t0 t3 t9 t10 t11 t16 t17 : Value} {h : FH} {c : Nat} {df : List Nat} {q : Rt FH} (e : f77_L77001 G rd t0 t3 t9 t10 t11 t16 t17 h c df = some q) (hq : q.e ≠ .normal) : G (f77_k77001 rd) [t0, t3, t9, t10, t11, t16, t17] h c df = some q := runG_lp_last ((f77_L77001_eq G rd t0 t3 t9 t10 t11 t16 t17 h c df).trans e) hq
theorem f77_N77000 {rd : Option Nat} {t0 t9 t10 t11 : Value} {h : FH} {c : Nat} {df : List Nat} {q r : Rt FH} (e : f77_L77000 G rd t0 t9 t10 t11 h c df = some q) (hq : q.e = .normal) (k : G (f77_k77000 rd) q.vs q.h q.c q.df = some r) : G (f77_k77000 rd) [t0, t9, t10, t11] h c df = some r := runG_lp_next ((f77_L77000_eq G rd t0 t9 t10 t11 h c df).trans e) hq k
theorem f77_Z77000 {rd : Option Nat} {t0 t9 t10 t11 : Value} {h : FH} {c : Nat} {df : List Nat} {q : Rt FH} (e : f77_L77000 G rd t0 t9 t10 t11 h c df = some q) (hq : q.e ≠ .normal) : G (f77_k77000 rd) [t0, t9, t10, t11] h c df = some q := runG_lp_last ((f77_L77000_eq G rd t0 t9 t10 t11 h c df).trans e) hq
noncomputable def f83_S (o : Orc H) (t0 : Value) (h : H) (c : Nat) : Option (Rt H) :=
 (bif (t0 : Value).cells.toList.all isFlat then
 some { e := .ret, vs := [(.func (.func 91) [].toArray [(ptrTo (256 * c + 0))].toArray)], h := (newB h (256 * c + 0) (t0 : Value).cells.toList), c := ((c + 1) + 1), df := [] }
 else none)
theorem f83_S_eq (o : Orc H) (t0 : Value) (h : H) (c : Nat) : jx P o 4 none f83_c (tmOf (List.range 1) [t0]) h c [] (Kfn P Try.f83.results.toList) = f83_S o t0 h c := by kernel_rfl
theorem f83_go {t0 : Value} {h : FH} {c : Nat} {df : List Nat} {r : Rt FH} (e : f83_S G t0 h c = some r) : G (.fn 83) [t0] h c df = some r := runG_fn (a := f83_f) bk_83 rfl (fun args h c => by cases args <;> rfl) rfl ((f83_S_eq G t0 h c).trans e)
noncomputable def f84_L84000 (o : Orc H) (rd : Option Nat) (t2 t3 t6 t7 : Value) (h : H) (c : Nat) (df : List Nat) : Option (Rt H) :=
 (aBinOp P .lss 3 t7 (.int .i64 4)).bind fun t8 =>
 boolK t8
 ((ixV 4 false 1 t6 t7).bind fun t9 =>
 (aBinOp P .lss 3 t9 (.int .i64 0)).bind fun t11 =>
 ((gv t11 false).bind fun w => cond w (ret1 h (((c + 1) + 1) + 1) (some t9)) (some (undef, h, (((c + 1) + 1) + 1)))).bind fun r0 =>
 ((gv t11 false).bind fun w => cond w (ret1 r0.2.1 r0.2.2 (aBinOp P .gtr 3 r0.1 (.int .i64 3))) (some (undef, r0.2.1, r0.2.2))).bind fun r1 =>
 (pickV t11 (.bool true) r1.1).bind fun t15 =>
 boolK t15
  (some { e := .ret, vs := [(.bool false), t3, t6, t7], h := r1.2.1, c := (r1.2.2 + 1), df := df })
  ((aBinOp P .shl 3 (.int .i64 1) t9).bind fun t18 =>
  (aBinOp P .or 3 t3 t18).bind fun t19 =>
  (aBinOp P .add 3 t7 (.int .i64 1)).bind fun t20 =>
  some { e := .normal, vs := [t2, t19, t6, t20], h := r1.2.1, c := ((r1.2.2 + 1) + 1), df := df }))
 (some { e := (.exit 0), vs := [t2, t3, t6, t7], h := h, c := (c + 1), df := df })
theorem f84_L84000_eq (o : Orc H) (rd : Option Nat) (t2 t3 t6 t7 : Value) (h : H) (c : Nat) (df : List Nat) : jx P o 23 rd f84_c84000 (tmOf [2, 3, 6, 7] [t2, t3, t6, t7]) h c df (Klp [2, 3, 6, 7]) = f84_L84000 o rd t2 t3 t6 t7 h c df := by kernel_rfl
noncomputable def f84_S (o : Orc H) (t0 : Value) (h : H) (c : Nat) : Option (Rt H) :=
 (bif (t0 : Value).cells.toList.all isFlat then
 (ldN (newB h (256 * c + 0) (t0 : Value).cells.toList) 4 (ptrTo (256 * c + 0))).bind fun t6 =>
 (o (f84_k84000 none) [(.bool false), (.int .i64 0), t6, (.int .i64 0)] (newB h (256 * c + 0) (t0 : Value).cells.toList) (((c + 1) + 1) + 1) []).bind fun r0 =>
 cond (exIs r0.e (.exit 0))
 ((aBinOp P .eql 3 (r0.v 1) (.int .i64 15)).bind fun t22 =>
 (takeAll r0.h r0.df).bind fun h2 =>
 some { e := .ret, vs := [t22], h := h2, c := (r0.c + 1), df := [] })
 (cond (exIs r0.e .ret)
  ((takeAll r0.h r0.df).bind fun h1 =>
  some { e := .ret, vs := [(r0.v 0)], h := h1, c := r0.c, df := [] })
  (none))
 else none)
theorem f84_S_eq (o : Orc H) (t0 : Value) (h : H) (c : Nat) : jx P o 23 none f84_c (tmOf (List.range 1) [t0]) h c [] (Kfn P Try.f84.results.toList) = f84_S o t0 h c := by kernel_rfl
theorem f84_go {t0 : Value} {h : FH} {c : Nat} {df : List Nat} {r : Rt FH} (e : f84_S G t0 h c = some r) : G (.fn 84) [t0] h c df = some (gcR h c [] r) := runG_fn (a := f84_f) bk_84 rfl (fun args h c => by cases args <;> rfl) rfl ((f84_S_eq G t0 h c).trans e)
theorem f84_N84000 {rd : Option Nat} {t2 t3 t6 t7 : Value} {h : FH} {c : Nat} {df : List Nat} {q r : Rt FH} (e : f84_L84000 G rd t2 t3 t6 t7 h c df = some q) (hq : q.e = .normal) (k : G (f84_k84000 rd) q.vs (gcR h c df q).h (gcR h c df q).c q.df = some r) : G (f84_k84000 rd) [t2, t3, t6, t7] h c df = some r := runG_lp_next ((f84_L84000_eq G rd t2 t3 t6 t7 h c df).trans e) hq k
theorem f84_Z84000 {rd : Option Nat} {t2 t3 t6 t7 : Value} {h : FH} {c : Nat} {df : List Nat} {q : Rt FH} (e : f84_L84000 G rd t2 t3 t6 t7 h c df = some q) (hq : q.e ≠ .normal) : G (f84_k84000 rd) [t2, t3, t6, t7] h c df = some (gcR h c df q) := runG_lp_last ((f84_L84000_eq G rd t2 t3 t6 t7 h c df).trans e) hq
end Go.Proofs.Ytcnndelmnobigaa

namespace Go.Proofs.Ytcnndelmnobigaa
open Go Go.Ab Go.Proofs
set_option maxRecDepth 100000
set_option linter.unusedVariables false
variable {H : Type} [HeapC H]
noncomputable def f85_L85000 (o : Orc H) (rd : Option Nat) (t2 t3 t6 t7 : Value) (h : H) (c : Nat) (df : List Nat) : Option (Rt H) :=
 (aBinOp P .lss 3 t7 (.int .i64 4)).bind fun t8 =>
 boolK t8
 ((ixV 4 false 1 t6 t7).bind fun t10 =>
 (ixA 4 1 t3 t10).bind fun t13 =>
 (stN h 1 t13 t7).bind fun h1 =>
 (aBinOp P .add 3 t7 (.int .i64 1)).bind fun t14 =>
 some { e := .normal, vs := [t2, t3, t6, t14], h := h1, c := ((((c + 1) + 1) + 1) + 1), df := df })
 (some { e := (.exit 0), vs := [t2, t3, t6, t7], h := h, c := (c + 1), df := df })
theorem f85_L85000_eq (o : Orc H) (rd : Option Nat) (t2 t3 t6 t7 : Value) (h : H) (c : Nat) (df : List Nat) : jx P o 16 rd f85_c85000 (tmOf [2, 3, 6, 7] [t2, t3, t6, t7]) h c df (Klp [2, 3, 6, 7]) = f85_L85000 o rd t2 t3 t6 t7 h c df := by kernel_rfl
noncomputable def f85_S (o : Orc H) (t0 : Value) (h : H) (c : Nat) : Option (Rt H) :=
 (bif (t0 : Value).cells.toList.all isFlat then
 (ldN (newB (newB (newB h (256 * c + 0) (t0 : Value).cells.toList) (256 * c + 1) [(.int .i64 0), (.int .i64 0), (.int .i64 0), (.int .i64 0)]) (256 * (c + 1) + 0) [(.int .i64 0), (.int .i64 0), (.int .i64 0), (.int .i64 0)]) 4 (ptrTo (256 * c + 0))).bind fun t6 =>
 (o (f85_k85000 none) [(ptrTo (256 * c + 1)), (ptrTo (256 * (c + 1) + 0)), t6, (.int .i64 0)] (newB (newB (newB h (256 * c + 0) (t0 : Value).cells.toList) (256 * c + 1) [(.int .i64 0), (.int .i64 0), (.int .i64 0), (.int .i64 0)]) (256 * (c + 1) + 0) [(.int .i64 0), (.int .i64 0), (.int .i64 0), (.int .i64 0)]) (((c + 1) + 1) + 1) []).bind fun r0 =>
 cond (exIs r0.e (.exit 0))
 ((ldN r0.h 4 (r0.v 1)).bind fun t15 =>
 (stN r0.h 4 (r0.v 0) t15).bind fun h2 =>
 (takeAll h2 r0.df).bind fun h3 =>
 (ldN h3 4 (r0.v 0)).bind fun v4 =>
 some { e := .ret, vs := [v4], h := h3, c := (r0.c + 1), df := [] })
 (none)
 else none)
theorem f85_S_eq (o : Orc H) (t0 : Value) (h : H) (c : Nat) : jx P o 16 none f85_c (tmOf (List.range 1) [t0]) h c [] (Kfn P Try.f85.results.toList) = f85_S o t0 h c := by kernel_rfl
theorem f85_go {t0 : Value} {h : FH} {c : Nat} {df : List Nat} {r : Rt FH} (e : f85_S G t0 h c = some r) : G (.fn 85) [t0] h c df = some (gcR h c [] r) := runG_fn (a := f85_f) bk_85 rfl (fun args h c => by cases args <;> rfl) rfl ((f85_S_eq G t0 h c).trans e)
theorem f85_N85000 {rd : Option Nat} {t2 t3 t6 t7 : Value} {h : FH} {c : Nat} {df : List Nat} {q r : Rt FH} (e : f85_L85000 G rd t2 t3 t6 t7 h c df = some q) (hq : q.e = .normal) (k : G (f85_k85000 rd) q.vs (gcR h c df q).h (gcR h c df q).c q.df = some r) : G (f85_k85000 rd) [t2, t3, t6, t7] h c df = some r := runG_lp_next ((f85_L85000_eq G rd t2 t3 t6 t7 h c df).trans e) hq k
theorem f85_Z85000 {rd : Option Nat} {t2 t3 t6 t7 : Value} {h : FH} {c : Nat} {df : List Nat} {q : Rt FH} (e : f85_L85000 G rd t2 t3 t6 t7 h c df = some q) (hq : q.e ≠ .normal) : G (f85_k85000 rd) [t2, t3, t6, t7] h c df = some (gcR h c df q) := runG_lp_last ((f85_L85000_eq G rd t2 t3 t6 t7 h c df).trans e) hq
noncomputable def f86_L86000 (o : Orc H) (rd : Option Nat) (t0 t1 t4 t7 t8 : Value) (h : H) (c : Nat) (df : List Nat) : Option (Rt H) :=
 (aBinOp P .lss 3 t8 t7).bind fun t9 =>
 boolK t9
 ((ixS 2 t0 t8).bind fun t14 =>
 (ldN h 2 t14).bind fun t15 =>
 (callV o h (((c + 1) + 1) + 1) t1 [t15]).bind fun r0 =>
 boolK r0.1
  (some { e := .ret, vs := [t0, t1, t8, t7, t8], h := r0.2.1, c := (r0.2.2 + 1), df := df })
  ((aBinOp P .add 3 t8 (.int .i64 1)).bind fun t18 =>
  some { e := .normal, vs := [t0, t1, t4, t7, t18], h := r0.2.1, c := (r0.2.2 + 1), df := df }))
 (some { e := (.exit 0), vs := [t0, t1, t4, t7, t8], h := h, c := (c + 1), df := df })
theorem f86_L86000_eq (o : Orc H) (rd : Option Nat) (t0 t1 t4 t7 t8 : Value) (h : H) (c : Nat) (df : List Nat) : jx P o 19 rd f86_c86000 (tmOf [0, 1, 4, 7, 8] [t0, t1, t4, t7, t8]) h c df (Klp [0, 1, 4, 7, 8]) = f86_L86000 o rd t0 t1 t4 t7 t8 h c df := by kernel_rfl
noncomputable def f86_S (o : Orc H) (t0 t1 : Value) (h : H) (c : Nat) : Option (Rt H) :=
 (lenS t0).bind fun t7 =>
 (o (f86_k86000 none) [t0, t1, (.int .i64 0), t7, (.int .i64 0)] h ((c + 1) + 1) []).bind fun r0 =>
 cond (exIs r0.e (.exit 0))
 ((takeAll r0.h r0.df).bind fun h2 =>
 some { e := .ret, vs := [(.int .i64 (-1))], h := h2, c := (r0.c + 1), df := [] })
 (cond (exIs r0.e .ret)
  ((takeAll r0.h r0.df).bind fun h1 =>
  some { e := .ret, vs := [(r0.v 2)], h := h1, c := r0.c, df := [] })
  (none))
theorem f86_S_eq (o : Orc H) (t0 t1 : Value) (h : H) (c : Nat) : jx P o 19 none f86_c (tmOf (List.range 2) [t0, t1]) h c [] (Kfn P Try.f86.results.toList) = f86_S o t0 t1 h c := by kernel_rfl
theorem f86_go {t0 t1 : Value} {h : FH} {c : Nat} {df : List Nat} {r : Rt FH} (e : f86_S G t0 t1 h c = some r) : G (.fn 86) [t0, t1] h c df = some (gcR h c [] r) := runG_fn (a := f86_f) bk_86 rfl (fun args h c => by cases args <;> rfl) rfl ((f86_S_eq G t0 t1 h c).trans e)
theorem f86_N86000 {rd : Option Nat} {t0 t1 t4 t7 t8 : Value} {h : FH} {c : Nat} {df : List Nat} {q r : Rt FH} (e : f86_L86000 G rd t0 t1 t4 t7 t8 h c df = some q) (hq : q.e = .normal) (k : G (f86_k86000 rd) q.vs (gcR h c df q).h (gcR h c df q).c q.df = some r) : G (f86_k86000 rd) [t0, t1, t4, t7, t8] h c df = some r := runG_lp_next ((f86_L86000_eq G rd t0 t1 t4 t7 t8 h c df).trans e) hq k
theorem f86_Z86000 {rd : Option Nat} {t0 t1 t4 t7 t8 : Value} {h : FH} {c : Nat} {df : List Nat} {q : Rt FH} (e : f86_L86000 G rd t0 t1 t4 t7 t8 h c df = some q) (hq : q.e ≠ .normal) : G (f86_k86000 rd) [t0, t1, t4, t7, t8] h c df = some (gcR h c df q) := runG_lp_last ((f86_L86000_eq G rd t0 t1 t4 t7 t8 h c df).trans e) hq
noncomputable def f87_S (o : Orc H) (h : H) (c : Nat) : Option (Rt H) :=
 (callF o 89 [] h ((c + 1) + 1)).bind fun r0 =>
 (stN (newB r0.2.1 (256 * (c + 1) + 1) [(.int .i64 0), (.int .i64 0), (.int .i64 0), (.int .i64 0), (.int .i64 0), (.int .i64 0), (.int .i64 0), (.int .i64 0), (.int .i64 0), (.int .i64 0), (.int .i64 0), (.int .i64 0)]) 12 (ptrTo (256 * (c + 1) + 1)) r0.1).bind fun h2 =>
 (slA 6 2 (ptrTo (256 * (c + 1) + 1)) none none none).bind fun t3 =>
 some { e := .ret, vs := [t3], h := h2, c := (r0.2.2 + 1), df := [] }
theorem f87_S_eq (o : Orc H) (h : H) (c : Nat) : jx P o 4 none f87_c (tmOf (List.range 0) []) h c [] (Kfn P Try.f87.results.toList) = f87_S o h c := by kernel_rfl
theorem f87_go {h : FH} {c : Nat} {df : List Nat} {r : Rt FH} (e : f87_S G h c = some r) : G (.fn 87) [] h c df = some r := runG_fn (a := f87_f) bk_87 rfl (fun args h c => by cases args <;> rfl) rfl ((f87_S_eq G h c).trans e)
noncomputable def f88_S (o : Orc H) (t0 t1 t2 : Value) (h : H) (c : Nat) : Option (Rt H) :=
 (bif (t0 : Value).cells.toList.all isFlat then
 (ldN (newB h (256 * c + 0) (t0 : Value).cells.toList) 2 (ptrTo (256 * c + 0))).bind fun t5 =>
 (ld1 (newB h (256 * c + 0) (t0 : Value).cells.toList) t1).bind fun t6 =>
 (ld1 (newB h (256 * c + 0) (t0 : Value).cells.toList) t2).bind fun t7 =>
 (bldV [(.int .i64 0), (.int .i64 0)] [(0, 1, t6), (1, 1, t7)]).bind fun t8 =>
 (aBinOp P .eql 115 t5 t8).bind fun t9 =>
 ((gv t9 false).bind fun w => cond w (ret1 (newB h (256 * c + 0) (t0 : Value).cells.toList) ((c + 1) + 1) (ldN (newB h (256 * c + 0) (t0 : Value).cells.toList) 2 (ptrTo (256 * c + 0)))) (some (undef, (newB h (256 * c + 0) (t0 : Value).cells.toList), ((c + 1) + 1)))).bind fun r0 =>
 ((gv t9 false).bind fun w => cond w (ret1 r0.2.1 r0.2.2 (ld1 r0.2.1 t2)) (some (undef, r0.2.1, r0.2.2))).bind fun r1 =>
 ((gv t9 false).bind fun w => cond w (ret1 r1.2.1 r1.2.2 (ld1 r1.2.1 t1)) (some (undef, r1.2.1, r1.2.2))).bind fun r2 =>
 ((gv t9 false).bind fun w => cond w (ret1 r2.2.1 r2.2.2 (bldV [(.int .i64 0), (.int .i64 0)] [(0, 1, r1.1), (1, 1, r2.1)])) (some (undef, r2.2.1, r2.2.2))).bind fun r3 =>
 ((gv t9 false).bind fun w => cond w (ret1 r3.2.1 r3.2.2 (aBinOp P .eql 115 r0.1 r3.1)) (some (undef, r3.2.1, r3.2.2))).bind fun r4 =>
 (pickV t9 (.bool true) r4.1).bind fun t16 =>
 some { e := .ret, vs := [t16], h := r4.2.1, c := r4.2.2, df := [] }
 else none)
theorem f88_S_eq (o : Orc H) (t0 t1 t2 : Value) (h : H) (c : Nat) : jx P o 17 none f88_c (tmOf (List.range 3) [t0, t1, t2]) h c [] (Kfn P Try.f88.results.toList) = f88_S o t0 t1 t2 h c := by kernel_rfl
theorem f88_go {t0 t1 t2 : Value} {h : FH} {c : Nat} {df : List Nat} {r : Rt FH} (e : f88_S G t0 t1 t2 h c = some r) : G (.fn 88) [t0, t1, t2] h c df = some (gcR h c [] r) := runG_fn (a := f88_f) bk_88 rfl (fun args h c => by cases args <;> rfl) rfl ((f88_S_eq G t0 t1 t2 h c).trans e)
noncomputable def f89_S (o : Orc H) (h : H) (c : Nat) : Option (Rt H) :=
 (bldV [(.int .i64 0), (.int .i64 0)] [(0, 1, (.int .i64 0)), (1, 1, (.int .i64 1))]).bind fun t1 =>
 (bldV [(.int .i64 0), (.int .i64 0)] [(0, 1, (.int .i64 0)), (1, 1, (.int .i64 2))]).bind fun t2 =>
 (bldV [(.int .i64 0), (.int .i64 0)] [(0, 1, (.int .i64 0)), (1, 1, (.int .i64 3))]).bind fun t3 =>
 (bldV [(.int .i64 0), (.int .i64 0)] [(0, 1, (.int .i64 1)), (1, 1, (.int .i64 2))]).bind fun t4 =>
 (bldV [(.int .i64 0), (.int .i64 0)] [(0, 1, (.int .i64 1)), (1, 1, (.int .i64 3))]).bind fun t5 =>
 (bldV [(.int .i64 0), (.int .i64 0)] [(0, 1, (.int .i64 2)), (1, 1, (.int .i64 3))]).bind fun t6 =>
 (bldV [(.int .i64 0), (.int .i64 0), (.int .i64 0), (.int .i64 0), (.int .i64 0), (.int .i64 0), (.int .i64 0), (.int .i64 0), (.int .i64 0), (.int .i64 0), (.int .i64 0), (.int .i64 0)] [(0, 2, t1), (2, 2, t2), (4, 2, t3), (6, 2, t4), (8, 2, t5), (10, 2, t6)]).bind fun t7 =>
 (stN (newB h (256 * c + 0) [(.int .i64 0), (.int .i64 0), (.int .i64 0), (.int .i64 0), (.int .i64 0), (.int .i64 0), (.int .i64 0), (.int .i64 0), (.int .i64 0), (.int .i64 0), (.int .i64 0), (.int .i64 0)]) 12 (ptrTo (256 * c + 0)) t7).bind fun h1 =>
 (ldN h1 12 (ptrTo (256 * c + 0))).bind fun v2 =>
 some { e := .ret, vs := [v2], h := h1, c := ((c + 1) + 1), df := [] }
theorem f89_S_eq (o : Orc H) (h : H) (c : Nat) : jx P o 8 none f89_c (tmOf (List.range 0) []) h c [] (Kfn P Try.f89.results.toList) = f89_S o h c := by kernel_rfl
theorem f89_go {h : FH} {c : Nat} {df : List Nat} {r : Rt FH} (e : f89_S G h c = some r) : G (.fn 89) [] h c df = some (gcR h c [] r) := runG_fn (a := f89_f) bk_89 rfl (fun args h c => by cases args <;> rfl) rfl ((f89_S_eq G h c).trans e)
noncomputable def f90_L90000 (o : Orc H) (rd : Option Nat) (t0 t1 t4 t7 t8 : Value) (h : H) (c : Nat) (df : List Nat) : Option (Rt H) :=
 (aBinOp P .lss 3 t8 t7).bind fun t9 =>
 boolK t9
 ((ixS 1 t0 t8).bind fun t14 =>
 (ld1 h t14).bind fun t15 =>
 (callV o h (((c + 1) + 1) + 1) t1 [t15]).bind fun r0 =>
 boolK r0.1
  (some { e := .ret, vs := [t0, t1, t8, t7, t8], h := r0.2.1, c := (r0.2.2 + 1), df := df })
  ((aBinOp P .add 3 t8 (.int .i64 1)).bind fun t18 =>
  some { e := .normal, vs := [t0, t1, t4, t7, t18], h := r0.2.1, c := (r0.2.2 + 1), df := df }))
 (some { e := (.exit 0), vs := [t0, t1, t4, t7, t8], h := h, c := (c + 1), df := df })
theorem f90_L90000_eq (o : Orc H) (rd : Option Nat) (t0 t1 t4 t7 t8 : Value) (h : H) (c : Nat) (df : List Nat) : jx P o 19 rd f90_c90000 (tmOf [0, 1, 4, 7, 8] [t0, t1, t4, t7, t8]) h c df (Klp [0, 1, 4, 7, 8]) = f90_L90000 o rd t0 t1 t4 t7 t8 h c df := by kernel_rfl
noncomputable def f90_S (o : Orc H) (t0 t1 : Value) (h : H) (c : Nat) : Option (Rt H) :=
 (lenS t0).bind fun t7 =>
 (o (f90_k90000 none) [t0, t1, (.int .i64 0), t7, (.int .i64 0)] h ((c + 1) + 1) []).bind fun r0 =>
 cond (exIs r0.e (.exit 0))
 ((takeAll r0.h r0.df).bind fun h2 =>
 some { e := .ret, vs := [(.int .i64 (-1))], h := h2, c := (r0.c + 1), df := [] })
 (cond (exIs r0.e .ret)
  ((takeAll r0.h r0.df).bind fun h1 =>
  some { e := .ret, vs := [(r0.v 2)], h := h1, c := r0.c, df := [] })
  (none))
theorem f90_S_eq (o : Orc H) (t0 t1 : Value) (h : H) (c : Nat) : jx P o 19 none f90_c (tmOf (List.range 2) [t0, t1]) h c [] (Kfn P Try.f90.results.toList) = f90_S o t0 t1 h c := by kernel_rfl
theorem f90_go {t0 t1 : Value} {h : FH} {c : Nat} {df : List Nat} {r : Rt FH} (e : f90_S G t0 t1 h c = some r) : G (.fn 90) [t0, t1] h c df = some (gcR h c [] r) := runG_fn (a := f90_f) bk_90 rfl (fun args h c => by cases args <;> rfl) rfl ((f90_S_eq G t0 t1 h c).trans e)
theorem f90_N90000 {rd : Option Nat} {t0 t1 t4 t7 t8 : Value} {h : FH} {c : Nat} {df : List Nat} {q r : Rt FH} (e : f90_L90000 G rd t0 t1 t4 t7 t8 h c df = some q) (hq : q.e = .normal) (k : G (f90_k90000 rd) q.vs (gcR h c df q).h (gcR h c df q).c q.df = some r) : G (f90_k90000 rd) [t0, t1, t4, t7, t8] h c df = some r := runG_lp_next ((f90_L90000_eq G rd t0 t1 t4 t7 t8 h c df).trans e) hq k
theorem f90_Z90000 {rd : Option Nat} {t0 t1 t4 t7 t8 : Value} {h : FH} {c : Nat} {df : List Nat} {q : Rt FH} (e : f90_L90000 G rd t0 t1 t4 t7 t8 h c df = some q) (hq : q.e ≠ .normal) : G (f90_k90000 rd) [t0, t1, t4, t7, t8] h c df = some (gcR h c df q) := runG_lp_last ((f90_L90000_eq G rd t0 t1 t4 t7 t8 h c df).trans e) hq
noncomputable def f91_L91001 (o : Orc H) (rd : Option Nat) (t0 t1 t3 t8 t9 t16 t17 : Value) (h : H) (c : Nat) (df : List Nat) : Option (Rt H) :=
 (aBinOp P .lss 3 t17 (.int .i64 4)).bind fun t18 =>
 boolK t18
 ((ixV 4 true 5 t16 t17).bind fun t20 =>
 (stN (newB h (256 * (c + 1) + 2) [(.int .i64 0), (.int .i64 0), (.int .i64 0), (.int .i64 0), (.int .i64 0)]) 5 (ptrTo (256 * (c + 1) + 2)) t20).bind fun h1 =>
 (bldV [(.int .i64 0), (.int .i64 0)] [(0, 1, t3), (1, 1, t17)]).bind fun t24 =>
 (ldN h1 5 (ptrTo (256 * (c + 1) + 2))).bind fun t25 =>
 (callV o h1 (((c + 1) + 1) + 1) t0 [t24, t25]).bind fun r2 =>
 (aUnOp .not r2.1).bind fun t27 =>
 boolK t27
  (some { e := .ret, vs := [t0, t1, t3, t8, t9, t16, t17], h := r2.2.1, c := r2.2.2, df := df })
  ((aBinOp P .add 3 t17 (.int .i64 1)).bind fun t28 =>
  some { e := .normal, vs := [t0, t1, t3, t8, t9, t16, t28], h := r2.2.1, c := (r2.2.2 + 1), df := df }))
 (some { e := (.exit 2), vs := [t0, t1, t3, t8, t9, t16, t17], h := h, c := (c + 1), df := df })
theorem f91_L91001_eq (o : Orc H) (rd : Option Nat) (t0 t1 t3 t8 t9 t16 t17 : Value) (h : H) (c : Nat) (df : List Nat) : jx P o 30 rd f91_c91001 (tmOf [0, 1, 3, 8, 9, 16, 17] [t0, t1, t3, t8, t9, t16, t17]) h c df (Klp [0, 1, 3, 8, 9, 16, 17]) = f91_L91001 o rd t0 t1 t3 t8 t9 t16 t17 h c df := by kernel_rfl
noncomputable def f91_L91000 (o : Orc H) (rd : Option Nat) (t0 t1 t8 t9 : Value) (h : H) (c : Nat) (df : List Nat) : Option (Rt H) :=
 (aBinOp P .lss 3 t9 t8).bind fun t10 =>
 boolK t10
 ((addOff t1 0).bind fun t12 =>
 (ld1 h t12).bind fun t13 =>
 (ixS 20 t13 t9).bind fun t15 =>
 (ldN h 20 t15).bind fun t16 =>
 (o (f91_k91001 rd) [t0, t1, t9, t8, t9, t16, (.int .i64 0)] h (((c + 1) + 1) + 1) df).bind fun r0 =>
 cond (exIs r0.e (.exit 2))
  ((aBinOp P .add 3 (r0.v 4) (.int .i64 1)).bind fun t29 =>
  some { e := .normal, vs := [(r0.v 0), (r0.v 1), (r0.v 3), t29], h := r0.h, c := (r0.c + 1), df := r0.df })
  (cond (exIs r0.e .ret)
   (some { e := .ret, vs := [(r0.v 0), (r0.v 1), (r0.v 3), (r0.v 4)], h := r0.h, c := r0.c, df := r0.df })
   (none)))
 (some { e := (.exit 0), vs := [t0, t1, t8, t9], h := h, c := (c + 1), df := df })
theorem f91_L91000_eq (o : Orc H) (rd : Option Nat) (t0 t1 t8 t9 : Value) (h : H) (c : Nat) (df : List Nat) : jx P o 30 rd f91_c91000 (tmOf [0, 1, 8, 9] [t0, t1, t8, t9]) h c df (Klp [0, 1, 8, 9]) = f91_L91000 o rd t0 t1 t8 t9 h c df := by kernel_rfl
noncomputable def f91_S (o : Orc H) (t0 t1 : Value) (h : H) (c : Nat) : Option (Rt H) :=
 (addOff t1 0).bind fun t6 =>
 (ld1 h t6).bind fun t7 =>
 (lenS t7).bind fun t8 =>
 (o (f91_k91000 none) [t0, t1, t8, (.int .i64 0)] h (c + 1) []).bind fun r0 =>
 cond (exIs r0.e (.exit 0))
 ((takeAll r0.h r0.df).bind fun h2 =>
 some { e := .ret, vs := [.tuple #[]], h := h2, c := r0.c, df := [] })
 (cond (exIs r0.e .ret)
  ((takeAll r0.h r0.df).bind fun h1 =>
  some { e := .ret, vs := [.tuple #[]], h := h1, c := r0.c, df := [] })
  (none))
theorem f91_S_eq (o : Orc H) (t0 t1 : Value) (h : H) (c : Nat) : jx P o 30 none f91_c (tmOf (List.range 2) [t0, t1]) h c [] (Kfn P Try.f91.results.toList) = f91_S o t0 t1 h c := by kernel_rfl
theorem f91_go {t0 t1 : Value} {h : FH} {c : Nat} {df : List Nat} {r : Rt FH} (e : f91_S G t0 t1 h c = some r) : G (.fn 91) [t0, t1] h c df = some r := runG_fn (a := f91_f) bk_91 rfl (fun args h c => by cases args <;> rfl) rfl ((f91_S_eq G t0 t1 h c).trans e)
theorem f91_N91001 {rd : Option Nat} {t0 t1 t3 t8 t9 t16 t17 : Value} {h : FH} {c : Nat} {df : List Nat} {q r : Rt FH} (e : f91_L91001 G rd t0 t1 t3 t8 t9 t16 t17 h c df = some q) (hq : q.e = .normal) (k : G (f91_k91001 rd) q.vs q.h q.c q.df = some r) : G (f91_k91001 rd) [t0, t1, t3, t8, t9, t16, t17] h c df = some r := runG_lp_next ((f91_L91001_eq G rd t0 t1 t3 t8 t9 t16 t17 h c df).trans e) hq k
theorem f91_Z91001 {rd : Option Nat} {t0 t1 t3 t8 t9 t16 t17 : Value} {h : FH} {c : Nat} {df : List Nat} {q : Rt FH} (e : f91_L91001 G rd t0 t1 t3 t8 t9 t16 t17 h c df = some q) (hq : q.e ≠ .normal) : G (f91_k91001 rd) [t0, t1, t3, t8, t9, t16, t17] h c df = some q := runG_lp_last ((f91_L91001_eq G rd t0 t1 t3 t8 t9 t16 t17 h c df).trans e) hq
theorem f91_N91000 {rd : Option Nat} {t0 t1 t8 t9 : Value} {h : FH} {c : Nat} {df : List Nat} {q r : Rt FH} (e : f91_L91000 G rd t0 t1 t8 t9 h c df = some q) (hq : q.e = .normal) (k : G (f91_k91000 rd) q.vs q.h q.c q.df = some r) : G (f91_k91000 rd) [t0, t1, t8, t9] h c df = some r := runG_lp_next ((f91_L91000_eq G rd t0 t1 t8 t9 h c df).trans e) hq k
theorem f91_Z91000 {rd : Option Nat} {t0 t1 t8 t9 : Value} {h : FH} {c : Nat} {df : List Nat} {q : Rt FH} (e : f91_L91000 G rd t0 t1 t8 t9 h c df = some q) (hq : q.e ≠ .normal) : G (f91_k91000 rd) [t0, t1, t8, t9] h c df = some q := runG_lp_last ((f91_L91000_eq G rd t0 t1 t8 t9 h c df).trans e) hq
end Go.Proofs.Ytcnndelmnobigaa

namespace Go.Proofs.Ytcnndelmnobigaa
open Go Go.Ab Go.Proofs
set_option maxRecDepth 100000
set_option linter.unusedVariables false
variable {H : Type} [HeapC H]
noncomputable def K : LB := { loop := fun j => BT.look ((.node 47001 ([2, 4, 7, 15, 16, 17, 35, 36], f47_c47001, 71) (.node 23002 ([1, 4, 5, 8, 11, 12, 33, 34, 35, 81, 82], f23_c23002, 112) (.node 15001 ([1, 7, 8, 28, 29, 30, 35, 36], f15_c15001, 80) (.node 14000 ([1, 5, 7, 26, 27, 28], f14_c14000, 68) (.node 13001 ([1, 2, 3, 4, 5], f13_c13001, 83) (.node 13000 ([1, 2, 3, 4], f13_c13000, 83) .leaf .leaf) .leaf) (.node 15000 ([1, 7, 28, 29, 30], f15_c15000, 80) (.node 14001 ([1, 5, 7, 9, 10, 26, 27, 28, 42, 43], f14_c14001, 68) .leaf .leaf) .leaf)) (.node 23000 ([1, 4, 5, 8, 33, 34, 35], f23_c23000, 112) (.node 21000 ([0, 1, 4, 5], f21_c21000, 26) (.node 15002 ([1, 7, 8, 10, 28, 29, 30, 35, 36, 63], f15_c15002, 80) .leaf .leaf) .leaf) (.node 23001 ([1, 4, 5, 8, 11, 12, 33, 34, 35, 53, 54], f23_c23001, 112) .leaf .leaf))) (.node 42000 ([1, 2, 3, 4], f42_c42000, 19) (.node 40001 ([2, 3, 4, 5, 7, 8, 9, 10, 11], f40_c40001, 135) (.node 40000 ([2, 3, 4, 5, 7, 8, 9], f40_c40000, 135) (.node 25000 ([1, 2, 4, 5, 29, 30], f25_c25000, 52) .leaf .leaf) .leaf) (.node 41000 ([1, 2, 3, 4], f41_c41000, 30) (.node 40002 ([2, 3, 4, 5, 7, 8, 9, 10, 11, 14], f40_c40002, 135) .leaf .leaf) .leaf)) (.node 46000 ([0, 1], f46_c46000, 22) (.node 45000 ([0, 3, 9, 10], f45_c45000, 24) (.node 44001 ([6, 7, 8, 52], f44_c44001, 92) .leaf .leaf) .leaf) (.node 47000 ([2, 4, 15, 16, 17], f47_c47000, 71) .leaf .leaf)))) (.node 71000 ([2, 3, 10, 11], f71_c71000, 21) (.node 57002 ([2, 4, 5, 7, 11, 14, 15, 16, 62, 63, 64], f57_c57002, 200) (.node 56000 ([3, 6, 7, 8], f56_c56000, 19) (.node 49000 ([1, 7, 19, 20, 21], f49_c49000, 36) (.node 48000 ([3, 6, 7, 8], f48_c48000, 17) .leaf .leaf) .leaf) (.node 57001 ([2, 4, 5, 7, 11, 62, 63, 64], f57_c57001, 200) (.node 57000 ([1, 2, 4, 5, 6, 7, 33, 34], f57_c57000, 200) .leaf .leaf) .leaf)) (.node 68000 ([0, 3, 4, 5], f68_c68000, 43) (.node 57004 ([2, 4, 5, 7, 11, 15, 62, 63, 64, 177, 178, 179], f57_c57004, 200) (.node 57003 ([2, 4, 5, 7, 11, 14, 15, 16, 17, 18, 62, 63, 64, 93, 94], f57_c57003, 200) .leaf .leaf) .leaf) (.node 69000 ([0, 2, 3, 4, 5], f69_c69000, 51) .leaf .leaf))) (.node 85000 ([2, 3, 6, 7], f85_c85000, 16) (.node 77001 ([0, 3, 9, 10, 11, 16, 17], f77_c77001, 72) (.node 77000 ([0, 9, 10, 11], f77_c77000, 72) (.node 74000 ([0, 1, 7, 8, 9, 34], f74_c74000, 56) .leaf .leaf) .leaf) (.node 84000 ([2, 3, 6, 7], f84_c84000, 23) (.node 77002 ([0, 3, 5, 6, 9, 10, 11, 16, 17, 44], f77_c77002, 72) .leaf .leaf) .leaf)) (.node 91000 ([0, 1, 8, 9], f91_c91000, 30) (.node 90000 ([0, 1, 4, 7, 8], f90_c90000, 19) (.node 86000 ([0, 1, 4, 7, 8], f86_c86000, 19) .leaf .leaf) .leaf) (.node 91001 ([0, 1, 3, 8, 9, 16, 17], f91_c91001, 30) .leaf .leaf))))) : BT (List Nat × ACode × Nat)) j, rng := fun nt ps => lookR nt ps [(92, [25], ([1, 5, 6], f44_a44000, f44_c44000)), (71, [52], ([4, 7], f47_a47002, f47_c47002)), (71, [13, 14], ([1, 2, 3], f70_a70000, f70_c70000))] }
theorem kl_13000 : K.loop 13000 = some ([1, 2, 3, 4], f13_c13000, 83) := by kernel_rfl
theorem kl_13001 : K.loop 13001 = some ([1, 2, 3, 4, 5], f13_c13001, 83) := by kernel_rfl
theorem kl_14000 : K.loop 14000 = some ([1, 5, 7, 26, 27, 28], f14_c14000, 68) := by kernel_rfl
theorem kl_14001 : K.loop 14001 = some ([1, 5, 7, 9, 10, 26, 27, 28, 42, 43], f14_c14001, 68) := by kernel_rfl
theorem kl_15000 : K.loop 15000 = some ([1, 7, 28, 29, 30], f15_c15000, 80) := by kernel_rfl
theorem kl_15001 : K.loop 15001 = some ([1, 7, 8, 28, 29, 30, 35, 36], f15_c15001, 80) := by kernel_rfl
theorem kl_15002 : K.loop 15002 = some ([1, 7, 8, 10, 28, 29, 30, 35, 36, 63], f15_c15002, 80) := by kernel_rfl
theorem kl_21000 : K.loop 21000 = some ([0, 1, 4, 5], f21_c21000, 26) := by kernel_rfl
theorem kl_23000 : K.loop 23000 = some ([1, 4, 5, 8, 33, 34, 35], f23_c23000, 112) := by kernel_rfl
theorem kl_23001 : K.loop 23001 = some ([1, 4, 5, 8, 11, 12, 33, 34, 35, 53, 54], f23_c23001, 112) := by kernel_rfl
theorem kl_23002 : K.loop 23002 = some ([1, 4, 5, 8, 11, 12, 33, 34, 35, 81, 82], f23_c23002, 112) := by kernel_rfl
theorem kl_25000 : K.loop 25000 = some ([1, 2, 4, 5, 29, 30], f25_c25000, 52) := by kernel_rfl
theorem kl_40000 : K.loop 40000 = some ([2, 3, 4, 5, 7, 8, 9], f40_c40000, 135) := by kernel_rfl
theorem kl_40001 : K.loop 40001 = some ([2, 3, 4, 5, 7, 8, 9, 10, 11], f40_c40001, 135) := by kernel_rfl
theorem kl_40002 : K.loop 40002 = some ([2, 3, 4, 5, 7, 8, 9, 10, 11, 14], f40_c40002, 135) := by kernel_rfl
theorem kl_41000 : K.loop 41000 = some ([1, 2, 3, 4], f41_c41000, 30) := by kernel_rfl
theorem kl_42000 : K.loop 42000 = some ([1, 2, 3, 4], f42_c42000, 19) := by kernel_rfl
theorem kl_44001 : K.loop 44001 = some ([6, 7, 8, 52], f44_c44001, 92) := by kernel_rfl
theorem kl_45000 : K.loop 45000 = some ([0, 3, 9, 10], f45_c45000, 24) := by kernel_rfl
theorem kl_46000 : K.loop 46000 = some ([0, 1], f46_c46000, 22) := by kernel_rfl
theorem kl_47000 : K.loop 47000 = some ([2, 4, 15, 16, 17], f47_c47000, 71) := by kernel_rfl
theorem kl_47001 : K.loop 47001 = some ([2, 4, 7, 15, 16, 17, 35, 36], f47_c47001, 71) := by kernel_rfl
theorem kl_48000 : K.loop 48000 = some ([3, 6, 7, 8], f48_c48000, 17) := by kernel_rfl
theorem kl_49000 : K.loop 49000 = some ([1, 7, 19, 20, 21], f49_c49000, 36) := by kernel_rfl
theorem kl_56000 : K.loop 56000 = some ([3, 6, 7, 8], f56_c56000, 19) := by kernel_rfl
theorem kl_57000 : K.loop 57000 = some ([1, 2, 4, 5, 6, 7, 33, 34], f57_c57000, 200) := by kernel_rfl
theorem kl_57001 : K.loop 57001 = some ([2, 4, 5, 7, 11, 62, 63, 64], f57_c57001, 200) := by kernel_rfl
theorem kl_57002 : K.loop 57002 = some ([2, 4, 5, 7, 11, 14, 15, 16, 62, 63, 64], f57_c57002, 200) := by kernel_rfl
theorem kl_57003 : K.loop 57003 = some ([2, 4, 5, 7, 11, 14, 15, 16, 17, 18, 62, 63, 64, 93, 94], f57_c57003, 200) := by kernel_rfl
theorem kl_57004 : K.loop 57004 = some ([2, 4, 5, 7, 11, 15, 62, 63, 64, 177, 178, 179], f57_c57004, 200) := by kernel_rfl
theorem kl_68000 : K.loop 68000 = some ([0, 3, 4, 5], f68_c68000, 43) := by kernel_rfl
theorem kl_69000 : K.loop 69000 = some ([0, 2, 3, 4, 5], f69_c69000, 51) := by kernel_rfl
theorem kl_71000 : K.loop 71000 = some ([2, 3, 10, 11], f71_c71000, 21) := by kernel_rfl
theorem kl_74000 : K.loop 74000 = some ([0, 1, 7, 8, 9, 34], f74_c74000, 56) := by kernel_rfl
theorem kl_77000 : K.loop 77000 = some ([0, 9, 10, 11], f77_c77000, 72) := by kernel_rfl
theorem kl_77001 : K.loop 77001 = some ([0, 3, 9, 10, 11, 16, 17], f77_c77001, 72) := by kernel_rfl
theorem kl_77002 : K.loop 77002 = some ([0, 3, 5, 6, 9, 10, 11, 16, 17, 44], f77_c77002, 72) := by kernel_rfl
theorem kl_84000 : K.loop 84000 = some ([2, 3, 6, 7], f84_c84000, 23) := by kernel_rfl
theorem kl_85000 : K.loop 85000 = some ([2, 3, 6, 7], f85_c85000, 16) := by kernel_rfl
theorem kl_86000 : K.loop 86000 = some ([0, 1, 4, 7, 8], f86_c86000, 19) := by kernel_rfl
theorem kl_90000 : K.loop 90000 = some ([0, 1, 4, 7, 8], f90_c90000, 19) := by kernel_rfl
theorem kl_91000 : K.loop 91000 = some ([0, 1, 8, 9], f91_c91000, 30) := by kernel_rfl
theorem kl_91001 : K.loop 91001 = some ([0, 1, 3, 8, 9, 16, 17], f91_c91001, 30) := by kernel_rfl
theorem kr_47002 : K.rng 71 [52] = some ([4, 7], f47_a47002, f47_c47002) := by kernel_rfl
theorem kr_44000 : K.rng 92 [25] = some ([1, 5, 6], f44_a44000, f44_c44000) := by kernel_rfl
theorem kr_70000 : K.rng 71 [13, 14] = some ([1, 2, 3], f70_a70000, f70_c70000) := by kernel_rfl
theorem ck_11 : CodeOK K f11_f.nt f11_f.code := (And.intro trivial (And.intro trivial (And.intro trivial (And.intro trivial (And.intro (And.intro trivial (And.intro (And.intro trivial trivial) trivial)) (And.intro trivial (And.intro trivial (And.intro trivial (And.intro trivial (And.intro trivial (And.intro (And.intro trivial (And.intro (And.intro trivial trivial) trivial)) (And.intro trivial (And.intro trivial (And.intro trivial trivial))))))))))))))
theorem fe_11 : FE (H := H) P bk K 11 (fun o vs h c => match vs with | [] => f11_S o h c | _ => none) := by
  refine ⟨f11_f, bk_11, rfl, ck_11, fun o vs h c r e => ?_⟩
  dsimp only at e
  split at e
  · exact ⟨rfl, (f11_S_eq o h c).trans e⟩
  · cases e
theorem kc_13001 : CodeOK K 83 f13_c13001 := (And.intro (And.intro trivial (And.intro trivial trivial)) (And.intro (And.intro trivial (And.intro (And.intro trivial (And.intro trivial trivial)) (And.intro (And.intro trivial (And.intro (And.intro trivial trivial) trivial)) (And.intro trivial (And.intro (And.intro trivial trivial) trivial))))) trivial))
theorem le_13001 : LE (H := H) P K 13001 (fun o rd vs h c df => match vs with | [t1, t2, t3, t4, t5] => f13_L13001 o rd t1 t2 t3 t4 t5 h c df | _ => none) := by
  intro lin b nt hk
  rw [kl_13001] at hk
  cases hk
  refine ⟨kc_13001, fun o rd vs h c df q e => ?_⟩
  dsimp only at e
  split at e
  · exact (f13_L13001_eq o rd _ _ _ _ _ h c df).trans e
  · cases e
theorem kc_13000 : CodeOK K 83 f13_c13000 := (And.intro (And.intro trivial (And.intro trivial trivial)) (And.intro (And.intro trivial (And.intro rfl kl_13001)) trivial))
theorem le_13000 : LE (H := H) P K 13000 (fun o rd vs h c df => match vs with | [t1, t2, t3, t4] => f13_L13000 o rd t1 t2 t3 t4 h c df | _ => none) := by
  intro lin b nt hk
  rw [kl_13000] at hk
  cases hk
  refine ⟨kc_13000, fun o rd vs h c df q e => ?_⟩
  dsimp only at e
  split at e
  · exact (f13_L13000_eq o rd _ _ _ _ h c df).trans e
  · cases e
theorem ck_13 : CodeOK K f13_f.nt f13_f.code := (And.intro trivial (And.intro trivial (And.intro (And.intro trivial (And.intro (And.intro trivial trivial) trivial)) (And.intro (And.intro trivial (And.intro rfl kl_13000)) (And.intro trivial trivial)))))
theorem fe_13 : FE (H := H) P bk K 13 (fun o vs h c => match vs with | [t0] => f13_S o t0 h c | _ => none) := by
  refine ⟨f13_f, bk_13, rfl, ck_13, fun o vs h c r e => ?_⟩
  dsimp only at e
  split at e
  · exact ⟨rfl, (f13_S_eq o _ h c).trans e⟩
  · cases e
theorem kc_14001 : CodeOK K 68 f14_c14001 := (And.intro trivial (And.intro (And.intro trivial trivial) (And.intro (And.intro trivial (And.intro trivial (And.intro trivial trivial))) trivial)))
theorem le_14001 : LE (H := H) P K 14001 (fun o rd vs h c df => match vs with | [t1, t5, t7, t9, t10, t26, t27, t28, t42, t43] => f14_L14001 o rd t1 t5 t7 t9 t10 t26 t27 t28 t42 t43 h c df | _ => none) := by
  intro lin b nt hk
  rw [kl_14001] at hk
  cases hk
  refine ⟨kc_14001, fun o rd vs h c df q e => ?_⟩
  dsimp only at e
  split at e
  · exact (f14_L14001_eq o rd _ _ _ _ _ _ _ _ _ _ h c df).trans e
  · cases e
theorem kc_14000 : CodeOK K 68 f14_c14000 := (And.intro trivial (And.intro (And.intro trivial trivial) (And.intro (And.intro trivial (And.intro trivial (And.intro (And.intro trivial (And.intro rfl kl_14001)) trivial))) trivial)))
theorem le_14000 : LE (H := H) P K 14000 (fun o rd vs h c df => match vs with | [t1, t5, t7, t26, t27, t28] => f14_L14000 o rd t1 t5 t7 t26 t27 t28 h c df | _ => none) := by
  intro lin b nt hk
  rw [kl_14000] at hk
  cases hk
  refine ⟨kc_14000, fun o rd vs h c df q e => ?_⟩
  dsimp only at e
  split at e
  · exact (f14_L14000_eq o rd _ _ _ _ _ _ h c df).trans e
  · cases e
theorem ck_14 : CodeOK K f14_f.nt f14_f.code := (And.intro trivial (And.intro (And.intro trivial (And.intro trivial (And.intro (And.intro trivial trivial) trivial))) (And.intro trivial (And.intro trivial (And.intro (And.intro trivial (And.intro rfl kl_14000)) (And.intro trivial trivial))))))
theorem fe_14 : FE (H := H) P bk K 14 (fun o vs h c => match vs with | [t0] => f14_S o t0 h c | _ => none) := by
  refine ⟨f14_f, bk_14, rfl, ck_14, fun o vs h c r e => ?_⟩
  dsimp only at e
  split at e
  · exact ⟨rfl, (f14_S_eq o _ h c).trans e⟩
  · cases e
theorem kc_15002 : CodeOK K 80 f15_c15002 := (And.intro trivial (And.intro (And.intro trivial trivial) (And.intro (And.intro trivial (And.intro trivial (And.intro trivial trivial))) trivial)))
theorem le_15002 : LE (H := H) P K 15002 (fun o rd vs h c df => match vs with | [t1, t7, t8, t10, t28, t29, t30, t35, t36, t63] => f15_L15002 o rd t1 t7 t8 t10 t28 t29 t30 t35 t36 t63 h c df | _ => none) := by
  intro lin b nt hk
  rw [kl_15002] at hk
  cases hk
  refine ⟨kc_15002, fun o rd vs h c df q e => ?_⟩
  dsimp only at e
  split at e
  · exact (f15_L15002_eq o rd _ _ _ _ _ _ _ _ _ _ h c df).trans e
  · cases e
theorem kc_15001 : CodeOK K 80 f15_c15001 := (And.intro trivial (And.intro (And.intro trivial trivial) (And.intro (And.intro trivial (And.intro (And.intro trivial (And.intro trivial trivial)) (And.intro trivial (And.intro rfl kl_15002)))) trivial)))
theorem le_15001 : LE (H := H) P K 15001 (fun o rd vs h c df => match vs with | [t1, t7, t8, t28, t29, t30, t35, t36] => f15_L15001 o rd t1 t7 t8 t28 t29 t30 t35 t36 h c df | _ => none) := by
  intro lin b nt hk
  rw [kl_15001] at hk
  cases hk
  refine ⟨kc_15001, fun o rd vs h c df q e => ?_⟩
  dsimp only at e
  split at e
  · exact (f15_L15001_eq o rd _ _ _ _ _ _ _ _ h c df).trans e
  · cases e
theorem kc_15000 : CodeOK K 80 f15_c15000 := (And.intro trivial (And.intro (And.intro trivial trivial) (And.intro (And.intro trivial (And.intro trivial (And.intro rfl kl_15001))) trivial)))
theorem le_15000 : LE (H := H) P K 15000 (fun o rd vs h c df => match vs with | [t1, t7, t28, t29, t30] => f15_L15000 o rd t1 t7 t28 t29 t30 h c df | _ => none) := by
  intro lin b nt hk
  rw [kl_15000] at hk
  cases hk
  refine ⟨kc_15000, fun o rd vs h c df q e => ?_⟩
  dsimp only at e
  split at e
  · exact (f15_L15000_eq o rd _ _ _ _ _ h c df).trans e
  · cases e
theorem ck_15 : CodeOK K f15_f.nt f15_f.code := (And.intro trivial (And.intro (And.intro trivial (And.intro trivial (And.intro (And.intro trivial trivial) trivial))) (And.intro trivial (And.intro (And.intro trivial (And.intro rfl kl_15000)) (And.intro trivial trivial)))))
theorem fe_15 : FE (H := H) P bk K 15 (fun o vs h c => match vs with | [t0, t1] => f15_S o t0 t1 h c | _ => none) := by
  refine ⟨f15_f, bk_15, rfl, ck_15, fun o vs h c r e => ?_⟩
  dsimp only at e
  split at e
  · exact ⟨rfl, (f15_S_eq o _ _ h c).trans e⟩
  · cases e
theorem ck_16 : CodeOK K f16_f.nt f16_f.code := (And.intro trivial (And.intro (And.intro trivial (And.intro trivial (And.intro (And.intro trivial trivial) trivial))) (And.intro trivial trivial)))
theorem fe_16 : FE (H := H) P bk K 16 (fun o vs h c => match vs with | [t0, t1] => f16_S o t0 t1 h c | _ => none) := by
  refine ⟨f16_f, bk_16, rfl, ck_16, fun o vs h c r e => ?_⟩
  dsimp only at e
  split at e
  · exact ⟨rfl, (f16_S_eq o _ _ h c).trans e⟩
  · cases e
theorem ck_17 : CodeOK K f17_f.nt f17_f.code := (And.intro trivial (And.intro trivial trivial))
theorem fe_17 : FE (H := H) P bk K 17 (fun o vs h c => match vs with | [t0, t1] => f17_S o t0 t1 h c | _ => none) := by
  refine ⟨f17_f, bk_17, rfl, ck_17, fun o vs h c r e => ?_⟩
  dsimp only at e
  split at e
  · exact ⟨rfl, (f17_S_eq o _ _ h c).trans e⟩
  · cases e
theorem kc_21000 : CodeOK K 26 f21_c21000 := (And.intro (And.intro trivial (And.intro trivial trivial)) (And.intro (And.intro trivial (And.intro (And.intro trivial trivial) trivial)) trivial))
theorem le_21000 : LE (H := H) P K 21000 (fun o rd vs h c df => match vs with | [t0, t1, t4, t5] => f21_L21000 o rd t0 t1 t4 t5 h c df | _ => none) := by
  intro lin b nt hk
  rw [kl_21000] at hk
  cases hk
  refine ⟨kc_21000, fun o rd vs h c df q e => ?_⟩
  dsimp only at e
  split at e
  · exact (f21_L21000_eq o rd _ _ _ _ h c df).trans e
  · cases e
theorem ck_21 : CodeOK K f21_f.nt f21_f.code := (And.intro trivial (And.intro (And.intro trivial (And.intro (And.intro trivial trivial) trivial)) (And.intro (And.intro trivial (And.intro rfl kl_21000)) (And.intro trivial trivial))))
theorem fe_21 : FE (H := H) P bk K 21 (fun o vs h c => match vs with | [t0, t1] => f21_S o t0 t1 h c | _ => none) := by
  refine ⟨f21_f, bk_21, rfl, ck_21, fun o vs h c r e => ?_⟩
  dsimp only at e
  split at e
  · exact ⟨rfl, (f21_S_eq o _ _ h c).trans e⟩
  · cases e
theorem kc_23001 : CodeOK K 112 f23_c23001 := (And.intro trivial (And.intro (And.intro trivial trivial) (And.intro (And.intro trivial (And.intro trivial (And.intro trivial trivial))) trivial)))
theorem le_23001 : LE (H := H) P K 23001 (fun o rd vs h c df => match vs with | [t1, t4, t5, t8, t11, t12, t33, t34, t35, t53, t54] => f23_L23001 o rd t1 t4 t5 t8 t11 t12 t33 t34 t35 t53 t54 h c df | _ => none) := by
  intro lin b nt hk
  rw [kl_23001] at hk
  cases hk
  refine ⟨kc_23001, fun o rd vs h c df q e => ?_⟩
  dsimp only at e
  split at e
  · exact (f23_L23001_eq o rd _ _ _ _ _ _ _ _ _ _ _ h c df).trans e
  · cases e
theorem kc_23002 : CodeOK K 112 f23_c23002 := (And.intro trivial (And.intro (And.intro trivial trivial) (And.intro (And.intro trivial (And.intro trivial (And.intro trivial trivial))) trivial)))
theorem le_23002 : LE (H := H) P K 23002 (fun o rd vs h c df => match vs with | [t1, t4, t5, t8, t11, t12, t33, t34, t35, t81, t82] => f23_L23002 o rd t1 t4 t5 t8 t11 t12 t33 t34 t35 t81 t82 h c df | _ => none) := by
  intro lin b nt hk
  rw [kl_23002] at hk
  cases hk
  refine ⟨kc_23002, fun o rd vs h c df q e => ?_⟩
  dsimp only at e
  split at e
  · exact (f23_L23002_eq o rd _ _ _ _ _ _ _ _ _ _ _ h c df).trans e
  · cases e
theorem kc_23000 : CodeOK K 112 f23_c23000 := (And.intro trivial (And.intro (And.intro trivial trivial) (And.intro (And.intro trivial (And.intro trivial (And.intro (And.intro trivial (And.intro rfl kl_23001)) (And.intro (And.intro trivial (And.intro rfl kl_23002)) trivial)))) trivial)))
theorem le_23000 : LE (H := H) P K 23000 (fun o rd vs h c df => match vs with | [t1, t4, t5, t8, t33, t34, t35] => f23_L23000 o rd t1 t4 t5 t8 t33 t34 t35 h c df | _ => none) := by
  intro lin b nt hk
  rw [kl_23000] at hk
  cases hk
  refine ⟨kc_23000, fun o rd vs h c df q e => ?_⟩
  dsimp only at e
  split at e
  · exact (f23_L23000_eq o rd _ _ _ _ _ _ _ h c df).trans e
  · cases e
theorem ck_23 : CodeOK K f23_f.nt f23_f.code := (And.intro trivial (And.intro (And.intro trivial (And.intro trivial (And.intro (And.intro trivial trivial) trivial))) (And.intro trivial (And.intro trivial (And.intro trivial (And.intro (And.intro trivial (And.intro rfl kl_23000)) (And.intro trivial trivial)))))))
theorem fe_23 : FE (H := H) P bk K 23 (fun o vs h c => match vs with | [t0, t1] => f23_S o t0 t1 h c | _ => none) := by
  refine ⟨f23_f, bk_23, rfl, ck_23, fun o vs h c r e => ?_⟩
  dsimp only at e
  split at e
  · exact ⟨rfl, (f23_S_eq o _ _ h c).trans e⟩
  · cases e
theorem kc_25000 : CodeOK K 52 f25_c25000 := (And.intro trivial (And.intro (And.intro trivial trivial) (And.intro (And.intro trivial (And.intro trivial (And.intro (And.intro trivial trivial) trivial))) trivial)))
theorem le_25000 : LE (H := H) P K 25000 (fun o rd vs h c df => match vs with | [t1, t2, t4, t5, t29, t30] => f25_L25000 o rd t1 t2 t4 t5 t29 t30 h c df | _ => none) := by
  intro lin b nt hk
  rw [kl_25000] at hk
  cases hk
  refine ⟨kc_25000, fun o rd vs h c df q e => ?_⟩
  dsimp only at e
  split at e
  · exact (f25_L25000_eq o rd _ _ _ _ _ _ h c df).trans e
  · cases e
theorem ck_25 : CodeOK K f25_f.nt f25_f.code := (And.intro trivial (And.intro (And.intro trivial (And.intro trivial (And.intro (And.intro trivial trivial) trivial))) (And.intro (And.intro trivial (And.intro (And.intro trivial trivial) trivial)) (And.intro (And.intro trivial (And.intro rfl kl_25000)) (And.intro trivial (And.intro (And.intro trivial (And.intro (And.intro trivial trivial) trivial)) (And.intro trivial trivial)))))))
theorem fe_25 : FE (H := H) P bk K 25 (fun o vs h c => match vs with | [t0, t1] => f25_S o t0 t1 h c | _ => none) := by
  refine ⟨f25_f, bk_25, rfl, ck_25, fun o vs h c r e => ?_⟩
  dsimp only at e
  split at e
  · exact ⟨rfl, (f25_S_eq o _ _ h c).trans e⟩
  · cases e
theorem kc_40002 : CodeOK K 135 f40_c40002 := (And.intro (And.intro trivial (And.intro trivial trivial)) (And.intro (And.intro trivial (And.intro (And.intro trivial (And.intro (And.intro trivial trivial) trivial)) trivial)) trivial))
theorem le_40002 : LE (H := H) P K 40002 (fun o rd vs h c df => match vs with | [t2, t3, t4, t5, t7, t8, t9, t10, t11, t14] => f40_L40002 o rd t2 t3 t4 t5 t7 t8 t9 t10 t11 t14 h c df | _ => none) := by
  intro lin b nt hk
  rw [kl_40002] at hk
  cases hk
  refine ⟨kc_40002, fun o rd vs h c df q e => ?_⟩
  dsimp only at e
  split at e
  · exact (f40_L40002_eq o rd _ _ _ _ _ _ _ _ _ _ h c df).trans e
  · cases e
theorem kc_40001 : CodeOK K 135 f40_c40001 := (And.intro (And.intro trivial (And.intro trivial trivial)) (And.intro (And.intro (And.intro trivial (And.intro (And.intro trivial trivial) trivial)) (And.intro (And.intro trivial (And.intro (And.intro trivial (And.intro trivial trivial)) trivial)) (And.intro trivial (And.intro (And.intro trivial (And.intro (And.intro trivial trivial) trivial)) (And.intro trivial (And.intro (And.intro trivial (And.intro rfl kl_40002)) trivial)))))) trivial))
theorem le_40001 : LE (H := H) P K 40001 (fun o rd vs h c df => match vs with | [t2, t3, t4, t5, t7, t8, t9, t10, t11] => f40_L40001 o rd t2 t3 t4 t5 t7 t8 t9 t10 t11 h c df | _ => none) := by
  intro lin b nt hk
  rw [kl_40001] at hk
  cases hk
  refine ⟨kc_40001, fun o rd vs h c df q e => ?_⟩
  dsimp only at e
  split at e
  · exact (f40_L40001_eq o rd _ _ _ _ _ _ _ _ _ h c df).trans e
  · cases e
theorem kc_40000 : CodeOK K 135 f40_c40000 := (And.intro (And.intro trivial (And.intro trivial trivial)) (And.intro (And.intro trivial (And.intro (And.intro trivial (And.intro rfl kl_40001)) trivial)) trivial))
theorem le_40000 : LE (H := H) P K 40000 (fun o rd vs h c df => match vs with | [t2, t3, t4, t5, t7, t8, t9] => f40_L40000 o rd t2 t3 t4 t5 t7 t8 t9 h c df | _ => none) := by
  intro lin b nt hk
  rw [kl_40000] at hk
  cases hk
  refine ⟨kc_40000, fun o rd vs h c df q e => ?_⟩
  dsimp only at e
  split at e
  · exact (f40_L40000_eq o rd _ _ _ _ _ _ _ h c df).trans e
  · cases e
theorem ck_40 : CodeOK K f40_f.nt f40_f.code := (And.intro trivial (And.intro (And.intro trivial (And.intro (And.intro trivial trivial) trivial)) (And.intro trivial (And.intro (And.intro trivial (And.intro (And.intro trivial trivial) trivial)) (And.intro trivial (And.intro (And.intro trivial (And.intro (And.intro trivial trivial) trivial)) (And.intro trivial (And.intro trivial (And.intro (And.intro trivial (And.intro rfl kl_40000)) (And.intro (And.intro trivial (And.intro (And.intro trivial trivial) trivial)) (And.intro (And.intro trivial (And.intro (And.intro trivial trivial) trivial)) (And.intro trivial trivial))))))))))))
theorem fe_40 : FE (H := H) P bk K 40 (fun o vs h c => match vs with | [t0] => f40_S o t0 h c | _ => none) := by
  refine ⟨f40_f, bk_40, rfl, ck_40, fun o vs h c r e => ?_⟩
  dsimp only at e
  split at e
  · exact ⟨rfl, (f40_S_eq o _ h c).trans e⟩
  · cases e
theorem kc_41000 : CodeOK K 30 f41_c41000 := (And.intro (And.intro trivial (And.intro trivial trivial)) (And.intro (And.intro (And.intro trivial (And.intro (And.intro trivial trivial) trivial)) trivial) trivial))
theorem le_41000 : LE (H := H) P K 41000 (fun o rd vs h c df => match vs with | [t1, t2, t3, t4] => f41_L41000 o rd t1 t2 t3 t4 h c df | _ => none) := by
  intro lin b nt hk
  rw [kl_41000] at hk
  cases hk
  refine ⟨kc_41000, fun o rd vs h c df q e => ?_⟩
  dsimp only at e
  split at e
  · exact (f41_L41000_eq o rd _ _ _ _ h c df).trans e
  · cases e
theorem ck_41 : CodeOK K f41_f.nt f41_f.code := (And.intro trivial (And.intro trivial (And.intro (And.intro trivial (And.intro rfl kl_41000)) (And.intro trivial trivial))))
theorem fe_41 : FE (H := H) P bk K 41 (fun o vs h c => match vs with | [t0] => f41_S o t0 h c | _ => none) := by
  refine ⟨f41_f, bk_41, rfl, ck_41, fun o vs h c r e => ?_⟩
  dsimp only at e
  split at e
  · exact ⟨rfl, (f41_S_eq o _ h c).trans e⟩
  · cases e
theorem kc_42000 : CodeOK K 19 f42_c42000 := (And.intro (And.intro trivial (And.intro trivial trivial)) (And.intro trivial trivial))
theorem le_42000 : LE (H := H) P K 42000 (fun o rd vs h c df => match vs with | [t1, t2, t3, t4] => f42_L42000 o rd t1 t2 t3 t4 h c df | _ => none) := by
  intro lin b nt hk
  rw [kl_42000] at hk
  cases hk
  refine ⟨kc_42000, fun o rd vs h c df q e => ?_⟩
  dsimp only at e
  split at e
  · exact (f42_L42000_eq o rd _ _ _ _ h c df).trans e
  · cases e
theorem ck_42 : CodeOK K f42_f.nt f42_f.code := (And.intro trivial (And.intro trivial (And.intro (And.intro trivial (And.intro (And.intro trivial trivial) trivial)) (And.intro (And.intro trivial (And.intro rfl kl_42000)) (And.intro trivial trivial)))))
theorem fe_42 : FE (H := H) P bk K 42 (fun o vs h c => match vs with | [t0] => f42_S o t0 h c | _ => none) := by
  refine ⟨f42_f, bk_42, rfl, ck_42, fun o vs h c r e => ?_⟩
  dsimp only at e
  split at e
  · exact ⟨rfl, (f42_S_eq o _ h c).trans e⟩
  · cases e
theorem ck_43 : CodeOK K f43_f.nt f43_f.code := (And.intro trivial (And.intro (And.intro trivial (And.intro (And.intro trivial trivial) (And.intro trivial (And.intro (And.intro trivial trivial) trivial)))) (And.intro trivial trivial)))
theorem fe_43 : FE (H := H) P bk K 43 (fun o vs h c => match vs with | [t0] => f43_S o t0 h c | _ => none) := by
  refine ⟨f43_f, bk_43, rfl, ck_43, fun o vs h c r e => ?_⟩
  dsimp only at e
  split at e
  · exact ⟨rfl, (f43_S_eq o _ h c).trans e⟩
  · cases e
theorem kc_44001 : CodeOK K 92 f44_c44001 := (And.intro trivial (And.intro (And.intro trivial trivial) (And.intro (And.intro trivial (And.intro trivial (And.intro trivial trivial))) trivial)))
theorem le_44001 : LE (H := H) P K 44001 (fun o rd vs h c df => match vs with | [t6, t7, t8, t52] => f44_L44001 o rd t6 t7 t8 t52 h c df | _ => none) := by
  intro lin b nt hk
  rw [kl_44001] at hk
  cases hk
  refine ⟨kc_44001, fun o rd vs h c df q e => ?_⟩
  dsimp only at e
  split at e
  · exact (f44_L44001_eq o rd _ _ _ _ h c df).trans e
  · cases e
theorem ka_44000 : CodeOK K 92 f44_a44000 := trivial
theorem kc_44000 : CodeOK K 92 f44_c44000 := (And.intro trivial (And.intro trivial (And.intro trivial (And.intro rfl kl_44001))))
theorem re_44000 : RE (H := H) P K 92 [25] (fun o l vs h c => match vs with | [t25, t1, t5, t6] => f44_R44000 o l t25 t1 t5 t6 h c | _ => none) := by
  intro lin a b hk
  rw [kr_44000] at hk
  cases hk
  refine ⟨ka_44000, kc_44000, fun o l vs h c r e => ?_⟩
  dsimp only at e
  split at e
  · exact (f44_R44000_eq o l _ _ _ _ h c).trans e
  · cases e
theorem ck_44 : CodeOK K f44_f.nt f44_f.code := (And.intro trivial (And.intro trivial (And.intro trivial (And.intro (And.intro trivial (And.intro rfl kr_44000)) (And.intro trivial trivial)))))
theorem fe_44 : FE (H := H) P bk K 44 (fun o vs h c => match vs with | [t0] => f44_S o t0 h c | _ => none) := by
  refine ⟨f44_f, bk_44, rfl, ck_44, fun o vs h c r e => ?_⟩
  dsimp only at e
  split at e
  · exact ⟨rfl, (f44_S_eq o _ h c).trans e⟩
  · cases e
theorem kc_45000 : CodeOK K 24 f45_c45000 := (And.intro trivial (And.intro (And.intro trivial trivial) (And.intro (And.intro trivial (And.intro trivial (And.intro trivial trivial))) trivial)))
theorem le_45000 : LE (H := H) P K 45000 (fun o rd vs h c df => match vs with | [t0, t3, t9, t10] => f45_L45000 o rd t0 t3 t9 t10 h c df | _ => none) := by
  intro lin b nt hk
  rw [kl_45000] at hk
  cases hk
  refine ⟨kc_45000, fun o rd vs h c df q e => ?_⟩
  dsimp only at e
  split at e
  · exact (f45_L45000_eq o rd _ _ _ _ h c df).trans e
  · cases e
theorem ck_45 : CodeOK K f45_f.nt f45_f.code := (And.intro trivial (And.intro trivial (And.intro (And.intro trivial (And.intro rfl kl_45000)) (And.intro trivial trivial))))
theorem fe_45 : FE (H := H) P bk K 45 (fun o vs h c => match vs with | [t0] => f45_S o t0 h c | _ => none) := by
  refine ⟨f45_f, bk_45, rfl, ck_45, fun o vs h c r e => ?_⟩
  dsimp only at e
  split at e
  · exact ⟨rfl, (f45_S_eq o _ h c).trans e⟩
  · cases e
theorem kc_46000 : CodeOK K 22 f46_c46000 := (And.intro (And.intro trivial (And.intro trivial trivial)) trivial)
theorem le_46000 : LE (H := H) P K 46000 (fun o rd vs h c df => match vs with | [t0, t1] => f46_L46000 o rd t0 t1 h c df | _ => none) := by
  intro lin b nt hk
  rw [kl_46000] at hk
  cases hk
  refine ⟨kc_46000, fun o rd vs h c df q e => ?_⟩
  dsimp only at e
  split at e
  · exact (f46_L46000_eq o rd _ _ h c df).trans e
  · cases e
theorem ck_46 : CodeOK K f46_f.nt f46_f.code := (And.intro trivial (And.intro (And.intro rfl kl_46000) (And.intro trivial trivial)))
theorem fe_46 : FE (H := H) P bk K 46 (fun o vs h c => match vs with | [t0, t1] => f46_S o t0 t1 h c | _ => none) := by
  refine ⟨f46_f, bk_46, rfl, ck_46, fun o vs h c r e => ?_⟩
  dsimp only at e
  split at e
  · exact ⟨rfl, (f46_S_eq o _ _ h c).trans e⟩
  · cases e
theorem kc_47001 : CodeOK K 71 f47_c47001 := (And.intro trivial (And.intro (And.intro trivial trivial) (And.intro (And.intro trivial (And.intro trivial (And.intro (And.intro trivial trivial) trivial))) trivial)))
theorem le_47001 : LE (H := H) P K 47001 (fun o rd vs h c df => match vs with | [t2, t4, t7, t15, t16, t17, t35, t36] => f47_L47001 o rd t2 t4 t7 t15 t16 t17 t35 t36 h c df | _ => none) := by
  intro lin b nt hk
  rw [kl_47001] at hk
  cases hk
  refine ⟨kc_47001, fun o rd vs h c df q e => ?_⟩
  dsimp only at e
  split at e
  · exact (f47_L47001_eq o rd _ _ _ _ _ _ _ _ h c df).trans e
  · cases e
theorem kc_47000 : CodeOK K 71 f47_c47000 := (And.intro trivial (And.intro (And.intro trivial trivial) (And.intro (And.intro trivial (And.intro (And.intro trivial (And.intro (And.intro trivial trivial) trivial)) (And.intro (And.intro trivial (And.intro rfl kl_47001)) (And.intro trivial (And.intro rfl kr_47002))))) trivial)))
theorem le_47000 : LE (H := H) P K 47000 (fun o rd vs h c df => match vs with | [t2, t4, t15, t16, t17] => f47_L47000 o rd t2 t4 t15 t16 t17 h c df | _ => none) := by
  intro lin b nt hk
  rw [kl_47000] at hk
  cases hk
  refine ⟨kc_47000, fun o rd vs h c df q e => ?_⟩
  dsimp only at e
  split at e
  · exact (f47_L47000_eq o rd _ _ _ _ _ h c df).trans e
  · cases e
theorem ka_47002 : CodeOK K 71 f47_a47002 := trivial
theorem kc_47002 : CodeOK K 71 f47_c47002 := (And.intro trivial (And.intro (And.intro trivial trivial) trivial))
theorem re_47002 : RE (H := H) P K 71 [52] (fun o l vs h c => match vs with | [t52, t4, t7] => f47_R47002 o l t52 t4 t7 h c | _ => none) := by
  intro lin a b hk
  rw [kr_47002] at hk
  cases hk
  refine ⟨ka_47002, kc_47002, fun o l vs h c r e => ?_⟩
  dsimp only at e
  split at e
  · exact (f47_R47002_eq o l _ _ _ h c).trans e
  · cases e
theorem ck_47 : CodeOK K f47_f.nt f47_f.code := (And.intro trivial (And.intro (And.intro trivial (And.intro trivial (And.intro (And.intro trivial trivial) trivial))) (And.intro (And.intro trivial (And.intro rfl kl_47000)) (And.intro trivial trivial))))
theorem fe_47 : FE (H := H) P bk K 47 (fun o vs h c => match vs with | [t0, t1] => f47_S o t0 t1 h c | _ => none) := by
  refine ⟨f47_f, bk_47, rfl, ck_47, fun o vs h c r e => ?_⟩
  dsimp only at e
  split at e
  · exact ⟨rfl, (f47_S_eq o _ _ h c).trans e⟩
  · cases e
theorem kc_48000 : CodeOK K 17 f48_c48000 := (And.intro trivial (And.intro (And.intro trivial trivial) (And.intro (And.intro trivial trivial) trivial)))
theorem le_48000 : LE (H := H) P K 48000 (fun o rd vs h c df => match vs with | [t3, t6, t7, t8] => f48_L48000 o rd t3 t6 t7 t8 h c df | _ => none) := by
  intro lin b nt hk
  rw [kl_48000] at hk
  cases hk
  refine ⟨kc_48000, fun o rd vs h c df q e => ?_⟩
  dsimp only at e
  split at e
  · exact (f48_L48000_eq o rd _ _ _ _ h c df).trans e
  · cases e
theorem ck_48 : CodeOK K f48_f.nt f48_f.code := (And.intro trivial (And.intro trivial (And.intro (And.intro trivial (And.intro rfl kl_48000)) (And.intro trivial trivial))))
theorem fe_48 : FE (H := H) P bk K 48 (fun o vs h c => match vs with | [t0] => f48_S o t0 h c | _ => none) := by
  refine ⟨f48_f, bk_48, rfl, ck_48, fun o vs h c r e => ?_⟩
  dsimp only at e
  split at e
  · exact ⟨rfl, (f48_S_eq o _ h c).trans e⟩
  · cases e
theorem kc_49000 : CodeOK K 36 f49_c49000 := (And.intro trivial (And.intro (And.intro trivial trivial) (And.intro (And.intro trivial trivial) trivial)))
theorem le_49000 : LE (H := H) P K 49000 (fun o rd vs h c df => match vs with | [t1, t7, t19, t20, t21] => f49_L49000 o rd t1 t7 t19 t20 t21 h c df | _ => none) := by
  intro lin b nt hk
  rw [kl_49000] at hk
  cases hk
  refine ⟨kc_49000, fun o rd vs h c df q e => ?_⟩
  dsimp only at e
  split at e
  · exact (f49_L49000_eq o rd _ _ _ _ _ h c df).trans e
  · cases e
theorem ck_49 : CodeOK K f49_f.nt f49_f.code := (And.intro trivial (And.intro trivial (And.intro trivial (And.intro (And.intro trivial (And.intro rfl kl_49000)) (And.intro trivial trivial)))))
theorem fe_49 : FE (H := H) P bk K 49 (fun o vs h c => match vs with | [t0, t1] => f49_S o t0 t1 h c | _ => none) := by
  refine ⟨f49_f, bk_49, rfl, ck_49, fun o vs h c r e => ?_⟩
  dsimp only at e
  split at e
  · exact ⟨rfl, (f49_S_eq o _ _ h c).trans e⟩
  · cases e
theorem ck_50 : CodeOK K f50_f.nt f50_f.code := (And.intro trivial (And.intro trivial trivial))
theorem fe_50 : FE (H := H) P bk K 50 (fun o vs h c => match vs with | [t0, t1, t2, t3] => f50_S o t0 t1 t2 t3 h c | _ => none) := by
  refine ⟨f50_f, bk_50, rfl, ck_50, fun o vs h c r e => ?_⟩
  dsimp only at e
  split at e
  · exact ⟨rfl, (f50_S_eq o _ _ _ _ h c).trans e⟩
  · cases e
theorem ck_53 : CodeOK K f53_f.nt f53_f.code := (And.intro trivial (And.intro (And.intro trivial (And.intro (And.intro trivial trivial) trivial)) (And.intro trivial trivial)))
theorem fe_53 : FE (H := H) P bk K 53 (fun o vs h c => match vs with | [t0] => f53_S o t0 h c | _ => none) := by
  refine ⟨f53_f, bk_53, rfl, ck_53, fun o vs h c r e => ?_⟩
  dsimp only at e
  split at e
  · exact ⟨rfl, (f53_S_eq o _ h c).trans e⟩
  · cases e
theorem ck_55 : CodeOK K f55_f.nt f55_f.code := (And.intro trivial (And.intro trivial trivial))
theorem fe_55 : FE (H := H) P bk K 55 (fun o vs h c => match vs with | [t0] => f55_S o t0 h c | _ => none) := by
  refine ⟨f55_f, bk_55, rfl, ck_55, fun o vs h c r e => ?_⟩
  dsimp only at e
  split at e
  · exact ⟨rfl, (f55_S_eq o _ h c).trans e⟩
  · cases e
theorem kc_56000 : CodeOK K 19 f56_c56000 := (And.intro trivial (And.intro (And.intro trivial trivial) (And.intro (And.intro trivial (And.intro trivial (And.intro trivial trivial))) trivial)))
theorem le_56000 : LE (H := H) P K 56000 (fun o rd vs h c df => match vs with | [t3, t6, t7, t8] => f56_L56000 o rd t3 t6 t7 t8 h c df | _ => none) := by
  intro lin b nt hk
  rw [kl_56000] at hk
  cases hk
  refine ⟨kc_56000, fun o rd vs h c df q e => ?_⟩
  dsimp only at e
  split at e
  · exact (f56_L56000_eq o rd _ _ _ _ h c df).trans e
  · cases e
theorem ck_56 : CodeOK K f56_f.nt f56_f.code := (And.intro trivial (And.intro trivial (And.intro (And.intro trivial (And.intro rfl kl_56000)) (And.intro trivial trivial))))
theorem fe_56 : FE (H := H) P bk K 56 (fun o vs h c => match vs with | [t0] => f56_S o t0 h c | _ => none) := by
  refine ⟨f56_f, bk_56, rfl, ck_56, fun o vs h c r e => ?_⟩
  dsimp only at e
  split at e
  · exact ⟨rfl, (f56_S_eq o _ h c).trans e⟩
  · cases e
theorem kc_57000 : CodeOK K 200 f57_c57000 := (And.intro trivial (And.intro (And.intro trivial trivial) (And.intro (And.intro trivial trivial) trivial)))
theorem le_57000 : LE (H := H) P K 57000 (fun o rd vs h c df => match vs with | [t1, t2, t4, t5, t6, t7, t33, t34] => f57_L57000 o rd t1 t2 t4 t5 t6 t7 t33 t34 h c df | _ => none) := by
  intro lin b nt hk
  rw [kl_57000] at hk
  cases hk
  refine ⟨kc_57000, fun o rd vs h c df q e => ?_⟩
  dsimp only at e
  split at e
  · exact (f57_L57000_eq o rd _ _ _ _ _ _ _ _ h c df).trans e
  · cases e
theorem kc_57003 : CodeOK K 200 f57_c57003 := (And.intro trivial (And.intro (And.intro trivial trivial) (And.intro (And.intro trivial (And.intro (And.intro trivial (And.intro trivial trivial)) (And.intro trivial (And.intro trivial (And.intro trivial (And.intro (And.intro trivial (And.intro trivial (And.intro trivial trivial))) (And.intro trivial (And.intro (And.intro trivial trivial) trivial)))))))) trivial)))
theorem le_57003 : LE (H := H) P K 57003 (fun o rd vs h c df => match vs with | [t2, t4, t5, t7, t11, t14, t15, t16, t17, t18, t62, t63, t64, t93, t94] => f57_L57003 o rd t2 t4 t5 t7 t11 t14 t15 t16 t17 t18 t62 t63 t64 t93 t94 h c df | _ => none) := by
  intro lin b nt hk
  rw [kl_57003] at hk
  cases hk
  refine ⟨kc_57003, fun o rd vs h c df q e => ?_⟩
  dsimp only at e
  split at e
  · exact (f57_L57003_eq o rd _ _ _ _ _ _ _ _ _ _ _ _ _ _ _ h c df).trans e
  · cases e
theorem kc_57002 : CodeOK K 200 f57_c57002 := (And.intro (And.intro trivial (And.intro trivial trivial)) (And.intro (And.intro trivial (And.intro trivial (And.intro rfl kl_57003))) trivial))
theorem le_57002 : LE (H := H) P K 57002 (fun o rd vs h c df => match vs with | [t2, t4, t5, t7, t11, t14, t15, t16, t62, t63, t64] => f57_L57002 o rd t2 t4 t5 t7 t11 t14 t15 t16 t62 t63 t64 h c df | _ => none) := by
  intro lin b nt hk
  rw [kl_57002] at hk
  cases hk
  refine ⟨kc_57002, fun o rd vs h c df q e => ?_⟩
  dsimp only at e
  split at e
  · exact (f57_L57002_eq o rd _ _ _ _ _ _ _ _ _ _ _ h c df).trans e
  · cases e
theorem kc_57004 : CodeOK K 200 f57_c57004 := (And.intro trivial (And.intro (And.intro trivial trivial) (And.intro (And.intro trivial trivial) trivial)))
theorem le_57004 : LE (H := H) P K 57004 (fun o rd vs h c df => match vs with | [t2, t4, t5, t7, t11, t15, t62, t63, t64, t177, t178, t179] => f57_L57004 o rd t2 t4 t5 t7 t11 t15 t62 t63 t64 t177 t178 t179 h c df | _ => none) := by
  intro lin b nt hk
  rw [kl_57004] at hk
  cases hk
  refine ⟨kc_57004, fun o rd vs h c df q e => ?_⟩
  dsimp only at e
  split at e
  · exact (f57_L57004_eq o rd _ _ _ _ _ _ _ _ _ _ _ _ h c df).trans e
  · cases e
theorem kc_57001 : CodeOK K 200 f57_c57001 := (And.intro trivial (And.intro (And.intro trivial trivial) (And.intro (And.intro trivial (And.intro trivial (And.intro trivial (And.intro trivial (And.intro (And.intro trivial (And.intro rfl kl_57002)) (And.intro trivial (And.intro rfl kl_57004))))))) trivial)))
theorem le_57001 : LE (H := H) P K 57001 (fun o rd vs h c df => match vs with | [t2, t4, t5, t7, t11, t62, t63, t64] => f57_L57001 o rd t2 t4 t5 t7 t11 t62 t63 t64 h c df | _ => none) := by
  intro lin b nt hk
  rw [kl_57001] at hk
  cases hk
  refine ⟨kc_57001, fun o rd vs h c df q e => ?_⟩
  dsimp only at e
  split at e
  · exact (f57_L57001_eq o rd _ _ _ _ _ _ _ _ h c df).trans e
  · cases e
theorem ck_57 : CodeOK K f57_f.nt f57_f.code := (And.intro trivial (And.intro trivial (And.intro trivial (And.intro (And.intro trivial (And.intro rfl kl_57000)) (And.intro trivial (And.intro trivial (And.intro (And.intro trivial (And.intro rfl kl_57001)) (And.intro trivial trivial))))))))
theorem fe_57 : FE (H := H) P bk K 57 (fun o vs h c => match vs with | [t0, t1] => f57_S o t0 t1 h c | _ => none) := by
  refine ⟨f57_f, bk_57, rfl, ck_57, fun o vs h c r e => ?_⟩
  dsimp only at e
  split at e
  · exact ⟨rfl, (f57_S_eq o _ _ h c).trans e⟩
  · cases e
theorem ck_59 : CodeOK K f59_f.nt f59_f.code := (And.intro trivial (And.intro trivial trivial))
theorem fe_59 : FE (H := H) P bk K 59 (fun o vs h c => match vs with | [t0] => f59_S o t0 h c | _ => none) := by
  refine ⟨f59_f, bk_59, rfl, ck_59, fun o vs h c r e => ?_⟩
  dsimp only at e
  split at e
  · exact ⟨rfl, (f59_S_eq o _ h c).trans e⟩
  · cases e
theorem ck_60 : CodeOK K f60_f.nt f60_f.code := (And.intro trivial (And.intro trivial trivial))
theorem fe_60 : FE (H := H) P bk K 60 (fun o vs h c => match vs with | [] => f60_S o h c | _ => none) := by
  refine ⟨f60_f, bk_60, rfl, ck_60, fun o vs h c r e => ?_⟩
  dsimp only at e
  split at e
  · exact ⟨rfl, (f60_S_eq o h c).trans e⟩
  · cases e
theorem kc_68000 : CodeOK K 43 f68_c68000 := (And.intro (And.intro trivial (And.intro trivial trivial)) (And.intro (And.intro trivial (And.intro (And.intro trivial (And.intro trivial trivial)) (And.intro trivial (And.intro (And.intro trivial trivial) trivial)))) trivial))
theorem le_68000 : LE (H := H) P K 68000 (fun o rd vs h c df => match vs with | [t0, t3, t4, t5] => f68_L68000 o rd t0 t3 t4 t5 h c df | _ => none) := by
  intro lin b nt hk
  rw [kl_68000] at hk
  cases hk
  refine ⟨kc_68000, fun o rd vs h c df q e => ?_⟩
  dsimp only at e
  split at e
  · exact (f68_L68000_eq o rd _ _ _ _ h c df).trans e
  · cases e
theorem ck_68 : CodeOK K f68_f.nt f68_f.code := (And.intro trivial (And.intro trivial (And.intro trivial (And.intro (And.intro trivial (And.intro rfl kl_68000)) (And.intro trivial trivial)))))
theorem fe_68 : FE (H := H) P bk K 68 (fun o vs h c => match vs with | [t0] => f68_S o t0 h c | _ => none) := by
  refine ⟨f68_f, bk_68, rfl, ck_68, fun o vs h c r e => ?_⟩
  dsimp only at e
  split at e
  · exact ⟨rfl, (f68_S_eq o _ h c).trans e⟩
  · cases e
theorem kc_69000 : CodeOK K 51 f69_c69000 := (And.intro (And.intro trivial (And.intro trivial trivial)) (And.intro (And.intro (And.intro trivial (And.intro (And.intro trivial trivial) trivial)) trivial) trivial))
theorem le_69000 : LE (H := H) P K 69000 (fun o rd vs h c df => match vs with | [t0, t2, t3, t4, t5] => f69_L69000 o rd t0 t2 t3 t4 t5 h c df | _ => none) := by
  intro lin b nt hk
  rw [kl_69000] at hk
  cases hk
  refine ⟨kc_69000, fun o rd vs h c df q e => ?_⟩
  dsimp only at e
  split at e
  · exact (f69_L69000_eq o rd _ _ _ _ _ h c df).trans e
  · cases e
theorem ck_69 : CodeOK K f69_f.nt f69_f.code := (And.intro trivial (And.intro (And.intro trivial (And.intro (And.intro trivial trivial) trivial)) (And.intro trivial (And.intro (And.intro trivial (And.intro rfl kl_69000)) (And.intro trivial trivial)))))
theorem fe_69 : FE (H := H) P bk K 69 (fun o vs h c => match vs with | [t0] => f69_S o t0 h c | _ => none) := by
  refine ⟨f69_f, bk_69, rfl, ck_69, fun o vs h c r e => ?_⟩
  dsimp only at e
  split at e
  · exact ⟨rfl, (f69_S_eq o _ h c).trans e⟩
  · cases e
theorem ka_70000 : CodeOK K 71 f70_a70000 := (And.intro trivial trivial)
theorem kc_70000 : CodeOK K 71 f70_c70000 := (And.intro (And.intro trivial (And.intro trivial trivial)) (And.intro (And.intro trivial (And.intro (And.intro trivial trivial) trivial)) (And.intro trivial (And.intro (And.intro trivial trivial) trivial))))
theorem re_70000 : RE (H := H) P K 71 [13, 14] (fun o l vs h c => match vs with | [t13, t14, t1, t2, t3] => f70_R70000 o l t13 t14 t1 t2 t3 h c | _ => none) := by
  intro lin a b hk
  rw [kr_70000] at hk
  cases hk
  refine ⟨ka_70000, kc_70000, fun o l vs h c r e => ?_⟩
  dsimp only at e
  split at e
  · exact (f70_R70000_eq o l _ _ _ _ _ h c).trans e
  · cases e
theorem ck_70 : CodeOK K f70_f.nt f70_f.code := (And.intro trivial (And.intro (And.intro trivial (And.intro (And.intro trivial trivial) trivial)) (And.intro trivial (And.intro (And.intro trivial (And.intro rfl kr_70000)) (And.intro trivial trivial)))))
theorem fe_70 : FE (H := H) P bk K 70 (fun o vs h c => match vs with | [t0] => f70_S o t0 h c | _ => none) := by
  refine ⟨f70_f, bk_70, rfl, ck_70, fun o vs h c r e => ?_⟩
  dsimp only at e
  split at e
  · exact ⟨rfl, (f70_S_eq o _ h c).trans e⟩
  · cases e
theorem kc_71000 : CodeOK K 21 f71_c71000 := (And.intro trivial (And.intro (And.intro trivial trivial) (And.intro (And.intro trivial trivial) trivial)))
theorem le_71000 : LE (H := H) P K 71000 (fun o rd vs h c df => match vs with | [t2, t3, t10, t11] => f71_L71000 o rd t2 t3 t10 t11 h c df | _ => none) := by
  intro lin b nt hk
  rw [kl_71000] at hk
  cases hk
  refine ⟨kc_71000, fun o rd vs h c df q e => ?_⟩
  dsimp only at e
  split at e
  · exact (f71_L71000_eq o rd _ _ _ _ h c df).trans e
  · cases e
theorem ck_71 : CodeOK K f71_f.nt f71_f.code := (And.intro trivial (And.intro trivial (And.intro (And.intro trivial (And.intro rfl kl_71000)) (And.intro trivial trivial))))
theorem fe_71 : FE (H := H) P bk K 71 (fun o vs h c => match vs with | [t0] => f71_S o t0 h c | _ => none) := by
  refine ⟨f71_f, bk_71, rfl, ck_71, fun o vs h c r e => ?_⟩
  dsimp only at e
  split at e
  · exact ⟨rfl, (f71_S_eq o _ h c).trans e⟩
  · cases e
theorem ck_72 : CodeOK K f72_f.nt f72_f.code := (And.intro trivial trivial)
theorem fe_72 : FE (H := H) P bk K 72 (fun o vs h c => match vs with | [t0, t1, t2] => f72_S o t0 t1 t2 h c | _ => none) := by
  refine ⟨f72_f, bk_72, rfl, ck_72, fun o vs h c r e => ?_⟩
  dsimp only at e
  split at e
  · exact ⟨rfl, (f72_S_eq o _ _ _ h c).trans e⟩
  · cases e
theorem ck_73 : CodeOK K f73_f.nt f73_f.code := (And.intro trivial (And.intro trivial trivial))
theorem fe_73 : FE (H := H) P bk K 73 (fun o vs h c => match vs with | [t0, t1] => f73_S o t0 t1 h c | _ => none) := by
  refine ⟨f73_f, bk_73, rfl, ck_73, fun o vs h c r e => ?_⟩
  dsimp only at e
  split at e
  · exact ⟨rfl, (f73_S_eq o _ _ h c).trans e⟩
  · cases e
theorem kc_74000 : CodeOK K 56 f74_c74000 := (And.intro trivial (And.intro (And.intro trivial trivial) (And.intro (And.intro trivial (And.intro trivial (And.intro trivial trivial))) trivial)))
theorem le_74000 : LE (H := H) P K 74000 (fun o rd vs h c df => match vs with | [t0, t1, t7, t8, t9, t34] => f74_L74000 o rd t0 t1 t7 t8 t9 t34 h c df | _ => none) := by
  intro lin b nt hk
  rw [kl_74000] at hk
  cases hk
  refine ⟨kc_74000, fun o rd vs h c df q e => ?_⟩
  dsimp only at e
  split at e
  · exact (f74_L74000_eq o rd _ _ _ _ _ _ h c df).trans e
  · cases e
theorem ck_74 : CodeOK K f74_f.nt f74_f.code := (And.intro trivial (And.intro trivial (And.intro trivial (And.intro (And.intro trivial (And.intro rfl kl_74000)) (And.intro trivial trivial)))))
theorem fe_74 : FE (H := H) P bk K 74 (fun o vs h c => match vs with | [t0, t1, t2] => f74_S o t0 t1 t2 h c | _ => none) := by
  refine ⟨f74_f, bk_74, rfl, ck_74, fun o vs h c r e => ?_⟩
  dsimp only at e
  split at e
  · exact ⟨rfl, (f74_S_eq o _ _ _ h c).trans e⟩
  · cases e
theorem ck_75 : CodeOK K f75_f.nt f75_f.code := (And.intro trivial (And.intro trivial trivial))
theorem fe_75 : FE (H := H) P bk K 75 (fun o vs h c => match vs with | [t0, t1] => f75_S o t0 t1 h c | _ => none) := by
  refine ⟨f75_f, bk_75, rfl, ck_75, fun o vs h c r e => ?_⟩
  dsimp only at e
  split at e
  · exact ⟨rfl, (f75_S_eq o _ _ h c).trans e⟩
  · cases e
theorem ck_76 : CodeOK K f76_f.nt f76_f.code := (And.intro trivial (And.intro trivial trivial))
theorem fe_76 : FE (H := H) P bk K 76 (fun o vs h c => match vs with | [t0] => f76_S o t0 h c | _ => none) := by
  refine ⟨f76_f, bk_76, rfl, ck_76, fun o vs h c r e => ?_⟩
  dsimp only at e
  split at e
  · exact ⟨rfl, (f76_S_eq o _ h c).trans e⟩
  · cases e
theorem kc_77002 : CodeOK K 72 f77_c77002 := (And.intro trivial (And.intro (And.intro trivial trivial) (And.intro (And.intro trivial (And.intro trivial (And.intro trivial trivial))) trivial)))
theorem le_77002 : LE (H := H) P K 77002 (fun o rd vs h c df => match vs with | [t0, t3, t5, t6, t9, t10, t11, t16, t17, t44] => f77_L77002 o rd t0 t3 t5 t6 t9 t10 t11 t16 t17 t44 h c df | _ => none) := by
  intro lin b nt hk
  rw [kl_77002] at hk
  cases hk
  refine ⟨kc_77002, fun o rd vs h c df q e => ?_⟩
  dsimp only at e
  split at e
  · exact (f77_L77002_eq o rd _ _ _ _ _ _ _ _ _ _ h c df).trans e
  · cases e
theorem kc_77001 : CodeOK K 72 f77_c77001 := (And.intro trivial (And.intro (And.intro trivial trivial) (And.intro (And.intro trivial (And.intro (And.intro trivial (And.intro trivial trivial)) (And.intro trivial (And.intro rfl kl_77002)))) trivial)))
theorem le_77001 : LE (H := H) P K 77001 (fun o rd vs h c df => match vs with | [t0, t3, t9, t10, t11, t16, t17] => f77_L77001 o rd t0 t3 t9 t10 t11 t16 t17 h c df | _ => none) := by
  intro lin b nt hk
  rw [kl_77001] at hk
  cases hk
  refine ⟨kc_77001, fun o rd vs h c df q e => ?_⟩
  dsimp only at e
  split at e
  · exact (f77_L77001_eq o rd _ _ _ _ _ _ _ h c df).trans e
  · cases e
theorem kc_77000 : CodeOK K 72 f77_c77000 := (And.intro trivial (And.intro (And.intro trivial trivial) (And.intro (And.intro trivial (And.intro trivial (And.intro rfl kl_77001))) trivial)))
theorem le_77000 : LE (H := H) P K 77000 (fun o rd vs h c df => match vs with | [t0, t9, t10, t11] => f77_L77000 o rd t0 t9 t10 t11 h c df | _ => none) := by
  intro lin b nt hk
  rw [kl_77000] at hk
  cases hk
  refine ⟨kc_77000, fun o rd vs h c df q e => ?_⟩
  dsimp only at e
  split at e
  · exact (f77_L77000_eq o rd _ _ _ _ h c df).trans e
  · cases e
theorem ck_77 : CodeOK K f77_f.nt f77_f.code := (And.intro trivial (And.intro rfl kl_77000))
theorem fe_77 : FE (H := H) P bk K 77 (fun o vs h c => match vs with | [t0, t1] => f77_S o t0 t1 h c | _ => none) := by
  refine ⟨f77_f, bk_77, rfl, ck_77, fun o vs h c r e => ?_⟩
  dsimp only at e
  split at e
  · exact ⟨rfl, (f77_S_eq o _ _ h c).trans e⟩
  · cases e
theorem ck_83 : CodeOK K f83_f.nt f83_f.code := (And.intro trivial (And.intro trivial trivial))
theorem fe_83 : FE (H := H) P bk K 83 (fun o vs h c => match vs with | [t0] => f83_S o t0 h c | _ => none) := by
  refine ⟨f83_f, bk_83, rfl, ck_83, fun o vs h c r e => ?_⟩
  dsimp only at e
  split at e
  · exact ⟨rfl, (f83_S_eq o _ h c).trans e⟩
  · cases e
theorem kc_84000 : CodeOK K 23 f84_c84000 := (And.intro trivial (And.intro (And.intro trivial trivial) (And.intro (And.intro trivial (And.intro (And.intro trivial (And.intro (And.intro trivial trivial) trivial)) trivial)) trivial)))
theorem le_84000 : LE (H := H) P K 84000 (fun o rd vs h c df => match vs with | [t2, t3, t6, t7] => f84_L84000 o rd t2 t3 t6 t7 h c df | _ => none) := by
  intro lin b nt hk
  rw [kl_84000] at hk
  cases hk
  refine ⟨kc_84000, fun o rd vs h c df q e => ?_⟩
  dsimp only at e
  split at e
  · exact (f84_L84000_eq o rd _ _ _ _ h c df).trans e
  · cases e
theorem ck_84 : CodeOK K f84_f.nt f84_f.code := (And.intro trivial (And.intro trivial (And.intro (And.intro trivial (And.intro rfl kl_84000)) (And.intro trivial trivial))))
theorem fe_84 : FE (H := H) P bk K 84 (fun o vs h c => match vs with | [t0] => f84_S o t0 h c | _ => none) := by
  refine ⟨f84_f, bk_84, rfl, ck_84, fun o vs h c r e => ?_⟩
  dsimp only at e
  split at e
  · exact ⟨rfl, (f84_S_eq o _ h c).trans e⟩
  · cases e
theorem kc_85000 : CodeOK K 16 f85_c85000 := (And.intro trivial (And.intro (And.intro trivial trivial) (And.intro (And.intro trivial trivial) trivial)))
theorem le_85000 : LE (H := H) P K 85000 (fun o rd vs h c df => match vs with | [t2, t3, t6, t7] => f85_L85000 o rd t2 t3 t6 t7 h c df | _ => none) := by
  intro lin b nt hk
  rw [kl_85000] at hk
  cases hk
  refine ⟨kc_85000, fun o rd vs h c df q e => ?_⟩
  dsimp only at e
  split at e
  · exact (f85_L85000_eq o rd _ _ _ _ h c df).trans e
  · cases e
theorem ck_85 : CodeOK K f85_f.nt f85_f.code := (And.intro trivial (And.intro trivial (And.intro (And.intro trivial (And.intro rfl kl_85000)) (And.intro trivial trivial))))
theorem fe_85 : FE (H := H) P bk K 85 (fun o vs h c => match vs with | [t0] => f85_S o t0 h c | _ => none) := by
  refine ⟨f85_f, bk_85, rfl, ck_85, fun o vs h c r e => ?_⟩
  dsimp only at e
  split at e
  · exact ⟨rfl, (f85_S_eq o _ h c).trans e⟩
  · cases e
theorem kc_86000 : CodeOK K 19 f86_c86000 := (And.intro trivial (And.intro (And.intro trivial trivial) (And.intro (And.intro trivial (And.intro trivial (And.intro (And.intro trivial trivial) trivial))) trivial)))
theorem le_86000 : LE (H := H) P K 86000 (fun o rd vs h c df => match vs with | [t0, t1, t4, t7, t8] => f86_L86000 o rd t0 t1 t4 t7 t8 h c df | _ => none) := by
  intro lin b nt hk
  rw [kl_86000] at hk
  cases hk
  refine ⟨kc_86000, fun o rd vs h c df q e => ?_⟩
  dsimp only at e
  split at e
  · exact (f86_L86000_eq o rd _ _ _ _ _ h c df).trans e
  · cases e
theorem ck_86 : CodeOK K f86_f.nt f86_f.code := (And.intro trivial (And.intro (And.intro trivial (And.intro rfl kl_86000)) (And.intro trivial trivial)))
theorem fe_86 : FE (H := H) P bk K 86 (fun o vs h c => match vs with | [t0, t1] => f86_S o t0 t1 h c | _ => none) := by
  refine ⟨f86_f, bk_86, rfl, ck_86, fun o vs h c r e => ?_⟩
  dsimp only at e
  split at e
  · exact ⟨rfl, (f86_S_eq o _ _ h c).trans e⟩
  · cases e
theorem ck_87 : CodeOK K f87_f.nt f87_f.code := (And.intro trivial (And.intro trivial (And.intro trivial trivial)))
theorem fe_87 : FE (H := H) P bk K 87 (fun o vs h c => match vs with | [] => f87_S o h c | _ => none) := by
  refine ⟨f87_f, bk_87, rfl, ck_87, fun o vs h c r e => ?_⟩
  dsimp only at e
  split at e
  · exact ⟨rfl, (f87_S_eq o h c).trans e⟩
  · cases e
theorem ck_88 : CodeOK K f88_f.nt f88_f.code := (And.intro trivial (And.intro trivial trivial))
theorem fe_88 : FE (H := H) P bk K 88 (fun o vs h c => match vs with | [t0, t1, t2] => f88_S o t0 t1 t2 h c | _ => none) := by
  refine ⟨f88_f, bk_88, rfl, ck_88, fun o vs h c r e => ?_⟩
  dsimp only at e
  split at e
  · exact ⟨rfl, (f88_S_eq o _ _ _ h c).trans e⟩
  · cases e
theorem ck_89 : CodeOK K f89_f.nt f89_f.code := (And.intro trivial (And.intro trivial trivial))
theorem fe_89 : FE (H := H) P bk K 89 (fun o vs h c => match vs with | [] => f89_S o h c | _ => none) := by
  refine ⟨f89_f, bk_89, rfl, ck_89, fun o vs h c r e => ?_⟩
  dsimp only at e
  split at e
  · exact ⟨rfl, (f89_S_eq o h c).trans e⟩
  · cases e
theorem kc_90000 : CodeOK K 19 f90_c90000 := (And.intro trivial (And.intro (And.intro trivial trivial) (And.intro (And.intro trivial (And.intro trivial (And.intro (And.intro trivial trivial) trivial))) trivial)))
theorem le_90000 : LE (H := H) P K 90000 (fun o rd vs h c df => match vs with | [t0, t1, t4, t7, t8] => f90_L90000 o rd t0 t1 t4 t7 t8 h c df | _ => none) := by
  intro lin b nt hk
  rw [kl_90000] at hk
  cases hk
  refine ⟨kc_90000, fun o rd vs h c df q e => ?_⟩
  dsimp only at e
  split at e
  · exact (f90_L90000_eq o rd _ _ _ _ _ h c df).trans e
  · cases e
theorem ck_90 : CodeOK K f90_f.nt f90_f.code := (And.intro trivial (And.intro (And.intro trivial (And.intro rfl kl_90000)) (And.intro trivial trivial)))
theorem fe_90 : FE (H := H) P bk K 90 (fun o vs h c => match vs with | [t0, t1] => f90_S o t0 t1 h c | _ => none) := by
  refine ⟨f90_f, bk_90, rfl, ck_90, fun o vs h c r e => ?_⟩
  dsimp only at e
  split at e
  · exact ⟨rfl, (f90_S_eq o _ _ h c).trans e⟩
  · cases e
theorem kc_91001 : CodeOK K 30 f91_c91001 := (And.intro trivial (And.intro (And.intro trivial trivial) (And.intro (And.intro trivial (And.intro trivial (And.intro trivial trivial))) trivial)))
theorem le_91001 : LE (H := H) P K 91001 (fun o rd vs h c df => match vs with | [t0, t1, t3, t8, t9, t16, t17] => f91_L91001 o rd t0 t1 t3 t8 t9 t16 t17 h c df | _ => none) := by
  intro lin b nt hk
  rw [kl_91001] at hk
  cases hk
  refine ⟨kc_91001, fun o rd vs h c df q e => ?_⟩
  dsimp only at e
  split at e
  · exact (f91_L91001_eq o rd _ _ _ _ _ _ _ h c df).trans e
  · cases e
theorem kc_91000 : CodeOK K 30 f91_c91000 := (And.intro trivial (And.intro (And.intro trivial trivial) (And.intro (And.intro trivial (And.intro trivial (And.intro rfl kl_91001))) trivial)))
theorem le_91000 : LE (H := H) P K 91000 (fun o rd vs h c df => match vs with | [t0, t1, t8, t9] => f91_L91000 o rd t0 t1 t8 t9 h c df | _ => none) := by
  intro lin b nt hk
  rw [kl_91000] at hk
  cases hk
  refine ⟨kc_91000, fun o rd vs h c df q e => ?_⟩
  dsimp only at e
  split at e
  · exact (f91_L91000_eq o rd _ _ _ _ h c df).trans e
  · cases e
theorem ck_91 : CodeOK K f91_f.nt f91_f.code := (And.intro trivial (And.intro rfl kl_91000))
theorem fe_91 : FE (H := H) P bk K 91 (fun o vs h c => match vs with | [t0, t1] => f91_S o t0 t1 h c | _ => none) := by
  refine ⟨f91_f, bk_91, rfl, ck_91, fun o vs h c r e => ?_⟩
  dsimp only at e
  split at e
  · exact ⟨rfl, (f91_S_eq o _ _ h c).trans e⟩
  · cases e
noncomputable def tbF : BT (Orc H → List Value → H → Nat → Option (Rt H)) := (.node 56 (fun o vs h c => match vs with | [t0] => f56_S o t0 h c | _ => none) (.node 42 (fun o vs h c => match vs with | [t0] => f42_S o t0 h c | _ => none) (.node 17 (fun o vs h c => match vs with | [t0, t1] => f17_S o t0 t1 h c | _ => none) (.node 14 (fun o vs h c => match vs with | [t0] => f14_S o t0 h c | _ => none) (.node 13 (fun o vs h c => match vs with | [t0] => f13_S o t0 h c | _ => none) (.node 11 (fun o vs h c => match vs with | [] => f11_S o h c | _ => none) .leaf .leaf) .leaf) (.node 16 (fun o vs h c => match vs with | [t0, t1] => f16_S o t0 t1 h c | _ => none) (.node 15 (fun o vs h c => match vs with | [t0, t1] => f15_S o t0 t1 h c | _ => none) .leaf .leaf) .leaf)) (.node 25 (fun o vs h c => match vs with | [t0, t1] => f25_S o t0 t1 h c | _ => none) (.node 23 (fun o vs h c => match vs with | [t0, t1] => f23_S o t0 t1 h c | _ => none) (.node 21 (fun o vs h c => match vs with | [t0, t1] => f21_S o t0 t1 h c | _ => none) .leaf .leaf) .leaf) (.node 41 (fun o vs h c => match vs with | [t0] => f41_S o t0 h c | _ => none) (.node 40 (fun o vs h c => match vs with | [t0] => f40_S o t0 h c | _ => none) .leaf .leaf) .leaf))) (.node 48 (fun o vs h c => match vs with | [t0] => f48_S o t0 h c | _ => none) (.node 45 (fun o vs h c => match vs with | [t0] => f45_S o t0 h c | _ => none) (.node 44 (fun o vs h c => match vs with | [t0] => f44_S o t0 h c | _ => none) (.node 43 (fun o vs h c => match vs with | [t0] => f43_S o t0 h c | _ => none) .leaf .leaf) .leaf) (.node 47 (fun o vs h c => match vs with | [t0, t1] => f47_S o t0 t1 h c | _ => none) (.node 46 (fun o vs h c => match vs with | [t0, t1] => f46_S o t0 t1 h c | _ => none) .leaf .leaf) .leaf)) (.node 53 (fun o vs h c => match vs with | [t0] => f53_S o t0 h c | _ => none) (.node 50 (fun o vs h c => match vs with | [t0, t1, t2, t3] => f50_S o t0 t1 t2 t3 h c | _ => none) (.node 49 (fun o vs h c => match vs with | [t0, t1] => f49_S o t0 t1 h c | _ => none) .leaf .leaf) .leaf) (.node 55 (fun o vs h c => match vs with | [t0] => f55_S o t0 h c | _ => none) .leaf .leaf)))) (.node 76 (fun o vs h c => match vs with | [t0] => f76_S o t0 h c | _ => none) (.node 70 (fun o vs h c => match vs with | [t0] => f70_S o t0 h c | _ => none) (.node 60 (fun o vs h c => match vs with | [] => f60_S o h c | _ => none) (.node 59 (fun o vs h c => match vs with | [t0] => f59_S o t0 h c | _ => none) (.node 57 (fun o vs h c => match vs with | [t0, t1] => f57_S o t0 t1 h c | _ => none) .leaf .leaf) .leaf) (.node 69 (fun o vs h c => match vs with | [t0] => f69_S o t0 h c | _ => none) (.node 68 (fun o vs h c => match vs with | [t0] => f68_S o t0 h c | _ => none) .leaf .leaf) .leaf)) (.node 73 (fun o vs h c => match vs with | [t0, t1] => f73_S o t0 t1 h c | _ => none) (.node 72 (fun o vs h c => match vs with | [t0, t1, t2] => f72_S o t0 t1 t2 h c | _ => none) (.node 71 (fun o vs h c => match vs with | [t0] => f71_S o t0 h c | _ => none) .leaf .leaf) .leaf) (.node 75 (fun o vs h c => match vs with | [t0, t1] => f75_S o t0 t1 h c | _ => none) (.node 74 (fun o vs h c => match vs with | [t0, t1, t2] => f74_S o t0 t1 t2 h c | _ => none) .leaf .leaf) .leaf))) (.node 87 (fun o vs h c => match vs with | [] => f87_S o h c | _ => none) (.node 84 (fun o vs h c => match vs with | [t0] => f84_S o t0 h c | _ => none) (.node 83 (fun o vs h c => match vs with | [t0] => f83_S o t0 h c | _ => none) (.node 77 (fun o vs h c => match vs with | [t0, t1] => f77_S o t0 t1 h c | _ => none) .leaf .leaf) .leaf) (.node 86 (fun o vs h c => match vs with | [t0, t1] => f86_S o t0 t1 h c | _ => none) (.node 85 (fun o vs h c => match vs with | [t0] => f85_S o t0 h c | _ => none) .leaf .leaf) .leaf)) (.node 90 (fun o vs h c => match vs with | [t0, t1] => f90_S o t0 t1 h c | _ => none) (.node 89 (fun o vs h c => match vs with | [] => f89_S o h c | _ => none) (.node 88 (fun o vs h c => match vs with | [t0, t1, t2] => f88_S o t0 t1 t2 h c | _ => none) .leaf .leaf) .leaf) (.node 91 (fun o vs h c => match vs with | [t0, t1] => f91_S o t0 t1 h c | _ => none) .leaf .leaf)))))
noncomputable def tbL : BT (Orc H → Option Nat → List Value → H → Nat → List Nat → Option (Rt H)) := (.node 47001 (fun o rd vs h c df => match vs with | [t2, t4, t7, t15, t16, t17, t35, t36] => f47_L47001 o rd t2 t4 t7 t15 t16 t17 t35 t36 h c df | _ => none) (.node 23002 (fun o rd vs h c df => match vs with | [t1, t4, t5, t8, t11, t12, t33, t34, t35, t81, t82] => f23_L23002 o rd t1 t4 t5 t8 t11 t12 t33 t34 t35 t81 t82 h c df | _ => none) (.node 15001 (fun o rd vs h c df => match vs with | [t1, t7, t8, t28, t29, t30, t35, t36] => f15_L15001 o rd t1 t7 t8 t28 t29 t30 t35 t36 h c df | _ => none) (.node 14000 (fun o rd vs h c df => match vs with | [t1, t5, t7, t26, t27, t28] => f14_L14000 o rd t1 t5 t7 t26 t27 t28 h c df | _ => none) (.node 13001 (fun o rd vs h c df => match vs with | [t1, t2, t3, t4, t5] => f13_L13001 o rd t1 t2 t3 t4 t5 h c df | _ => none) (.node 13000 (fun o rd vs h c df => match vs with | [t1, t2, t3, t4] => f13_L13000 o rd t1 t2 t3 t4 h c df | _ => none) .leaf .leaf) .leaf) (.node 15000 (fun o rd vs h c df => match vs with | [t1, t7, t28, t29, t30] => f15_L15000 o rd t1 t7 t28 t29 t30 h c df | _ => none) (.node 14001 (fun o rd vs h c df => match vs with | [t1, t5, t7, t9, t10, t26, t27, t28, t42, t43] => f14_L14001 o rd t1 t5 t7 t9 t10 t26 t27 t28 t42 t43 h c df | _ => none) .leaf .leaf) .leaf)) (.node 23000 (fun o rd vs h c df => match vs with | [t1, t4, t5, t8, t33, t34, t35] => f23_L23000 o rd t1 t4 t5 t8 t33 t34 t35 h c df | _ => none) (.node 21000 (fun o rd vs h c df => match vs with | [t0, t1, t4, t5] => f21_L21000 o rd t0 t1 t4 t5 h c df | _ => none) (.node 15002 (fun o rd vs h c df => match vs with | [t1, t7, t8, t10, t28, t29, t30, t35, t36, t63] => f15_L15002 o rd t1 t7 t8 t10 t28 t29 t30 t35 t36 t63 h c df | _ => none) .leaf .leaf) .leaf) (.node 23001 (fun o rd vs h c df => match vs with | [t1, t4, t5, t8, t11, t12, t33, t34, t35, t53, t54] => f23_L23001 o rd t1 t4 t5 t8 t11 t12 t33 t34 t35 t53 t54 h c df | _ => none) .leaf .leaf))) (.node 42000 (fun o rd vs h c df => match vs with | [t1, t2, t3, t4] => f42_L42000 o rd t1 t2 t3 t4 h c df | _ => none) (.node 40001 (fun o rd vs h c df => match vs with | [t2, t3, t4, t5, t7, t8, t9, t10, t11] => f40_L40001 o rd t2 t3 t4 t5 t7 t8 t9 t10 t11 h c df | _ => none) (.node 40000 (fun o rd vs h c df => match vs with | [t2, t3, t4, t5, t7, t8, t9] => f40_L40000 o rd t2 t3 t4 t5 t7 t8 t9 h c df | _ => none) (.node 25000 (fun o rd vs h c df => match vs with | [t1, t2, t4, t5, t29, t30] => f25_L25000 o rd t1 t2 t4 t5 t29 t30 h c df | _ => none) .leaf .leaf) .leaf) (.node 41000 (fun o rd vs h c df => match vs with | [t1, t2, t3, t4] => f41_L41000 o rd t1 t2 t3 t4 h c df | _ => none) (.node 40002 (fun o rd vs h c df => match vs with | [t2, t3, t4, t5, t7, t8, t9, t10, t11, t14] => f40_L40002 o rd t2 t3 t4 t5 t7 t8 t9 t10 t11 t14 h c df | _ => none) .leaf .leaf) .leaf)) (.node 46000 (fun o rd vs h c df => match vs with | [t0, t1] => f46_L46000 o rd t0 t1 h c df | _ => none) (.node 45000 (fun o rd vs h c df => match vs with | [t0, t3, t9, t10] => f45_L45000 o rd t0 t3 t9 t10 h c df | _ => none) (.node 44001 (fun o rd vs h c df => match vs with | [t6, t7, t8, t52] => f44_L44001 o rd t6 t7 t8 t52 h c df | _ => none) .leaf .leaf) .leaf) (.node 47000 (fun o rd vs h c df => match vs with | [t2, t4, t15, t16, t17] => f47_L47000 o rd t2 t4 t15 t16 t17 h c df | _ => none) .leaf .leaf)))) (.node 71000 (fun o rd vs h c df => match vs with | [t2, t3, t10, t11] => f71_L71000 o rd t2 t3 t10 t11 h c df | _ => none) (.node 57002 (fun o rd vs h c df => match vs with | [t2, t4, t5, t7, t11, t14, t15, t16, t62, t63, t64] => f57_L57002 o rd t2 t4 t5 t7 t11 t14 t15 t16 t62 t63 t64 h c df | _ => none) (.node 56000 (fun o rd vs h c df => match vs with | [t3, t6, t7, t8] => f56_L56000 o rd t3 t6 t7 t8 h c df | _ => none) (.node 49000 (fun o rd vs h c df => match vs with | [t1, t7, t19, t20, t21] => f49_L49000 o rd t1 t7 t19 t20 t21 h c df | _ => none) (.node 48000 (fun o rd vs h c df => match vs with | [t3, t6, t7, t8] => f48_L48000 o rd t3 t6 t7 t8 h c df | _ => none) .leaf .leaf) .leaf) (.node 57001 (fun o rd vs h c df => match vs with | [t2, t4, t5, t7, t11, t62, t63, t64] => f57_L57001 o rd t2 t4 t5 t7 t11 t62 t63 t64 h c df | _ => none) (.node 57000 (fun o rd vs h c df => match vs with | [t1, t2, t4, t5, t6, t7, t33, t34] => f57_L57000 o rd t1 t2 t4 t5 t6 t7 t33 t34 h c df | _ => none) .leaf .leaf) .leaf)) (.node 68000 (fun o rd vs h c df => match vs with | [t0, t3, t4, t5] => f68_L68000 o rd t0 t3 t4 t5 h c df | _ => none) (.node 57004 (fun o rd vs h c df => match vs with | [t2, t4, t5, t7, t11, t15, t62, t63, t64, t177, t178, t179] => f57_L57004 o rd t2 t4 t5 t7 t11 t15 t62 t63 t64 t177 t178 t179 h c df | _ => none) (.node 57003 (fun o rd vs h c df => match vs with | [t2, t4, t5, t7, t11, t14, t15, t16, t17, t18, t62, t63, t64, t93, t94] => f57_L57003 o rd t2 t4 t5 t7 t11 t14 t15 t16 t17 t18 t62 t63 t64 t93 t94 h c df | _ => none) .leaf .leaf) .leaf) (.node 69000 (fun o rd vs h c df => match vs with | [t0, t2, t3, t4, t5] => f69_L69000 o rd t0 t2 t3 t4 t5 h c df | _ => none) .leaf .leaf))) (.node 85000 (fun o rd vs h c df => match vs with | [t2, t3, t6, t7] => f85_L85000 o rd t2 t3 t6 t7 h c df | _ => none) (.node 77001 (fun o rd vs h c df => match vs with | [t0, t3, t9, t10, t11, t16, t17] => f77_L77001 o rd t0 t3 t9 t10 t11 t16 t17 h c df | _ => none) (.node 77000 (fun o rd vs h c df => match vs with | [t0, t9, t10, t11] => f77_L77000 o rd t0 t9 t10 t11 h c df | _ => none) (.node 74000 (fun o rd vs h c df => match vs with | [t0, t1, t7, t8, t9, t34] => f74_L74000 o rd t0 t1 t7 t8 t9 t34 h c df | _ => none) .leaf .leaf) .leaf) (.node 84000 (fun o rd vs h c df => match vs with | [t2, t3, t6, t7] => f84_L84000 o rd t2 t3 t6 t7 h c df | _ => none) (.node 77002 (fun o rd vs h c df => match vs with | [t0, t3, t5, t6, t9, t10, t11, t16, t17, t44] => f77_L77002 o rd t0 t3 t5 t6 t9 t10 t11 t16 t17 t44 h c df | _ => none) .leaf .leaf) .leaf)) (.node 91000 (fun o rd vs h c df => match vs with | [t0, t1, t8, t9] => f91_L91000 o rd t0 t1 t8 t9 h c df | _ => none) (.node 90000 (fun o rd vs h c df => match vs with | [t0, t1, t4, t7, t8] => f90_L90000 o rd t0 t1 t4 t7 t8 h c df | _ => none) (.node 86000 (fun o rd vs h c df => match vs with | [t0, t1, t4, t7, t8] => f86_L86000 o rd t0 t1 t4 t7 t8 h c df | _ => none) .leaf .leaf) .leaf) (.node 91001 (fun o rd vs h c df => match vs with | [t0, t1, t3, t8, t9, t16, t17] => f91_L91001 o rd t0 t1 t3 t8 t9 t16 t17 h c df | _ => none) .leaf .leaf)))))
noncomputable def tbR : List (Nat × List Nat × (Orc H → Nat → List Value → H → Nat → Option (Rt H))) := [(92, [25], (fun o l vs h c => match vs with | [t25, t1, t5, t6] => f44_R44000 o l t25 t1 t5 t6 h c | _ => none)), (71, [52], (fun o l vs h c => match vs with | [t52, t4, t7] => f47_R47002 o l t52 t4 t7 h c | _ => none)), (71, [13, 14], (fun o l vs h c => match vs with | [t13, t14, t1, t2, t3] => f70_R70000 o l t13 t14 t1 t2 t3 h c | _ => none))]
noncomputable def tab : Tab H := { F := fun f => tbF.look f, L := fun j => tbL.look j, R := fun nt ps => lookR nt ps tbR }
theorem tab_ok : TabOK (H := H) P bk K tab := ⟨fun f F e => BT.look_all (Q := FE P bk K) (t := tbF) (And.intro fe_56 (And.intro (And.intro fe_42 (And.intro (And.intro fe_17 (And.intro (And.intro fe_14 (And.intro (And.intro fe_13 (And.intro (And.intro fe_11 (And.intro trivial trivial)) trivial)) (And.intro fe_16 (And.intro (And.intro fe_15 (And.intro trivial trivial)) trivial)))) (And.intro fe_25 (And.intro (And.intro fe_23 (And.intro (And.intro fe_21 (And.intro trivial trivial)) trivial)) (And.intro fe_41 (And.intro (And.intro fe_40 (And.intro trivial trivial)) trivial)))))) (And.intro fe_48 (And.intro (And.intro fe_45 (And.intro (And.intro fe_44 (And.intro (And.intro fe_43 (And.intro trivial trivial)) trivial)) (And.intro fe_47 (And.intro (And.intro fe_46 (And.intro trivial trivial)) trivial)))) (And.intro fe_53 (And.intro (And.intro fe_50 (And.intro (And.intro fe_49 (And.intro trivial trivial)) trivial)) (And.intro fe_55 (And.intro trivial trivial)))))))) (And.intro fe_76 (And.intro (And.intro fe_70 (And.intro (And.intro fe_60 (And.intro (And.intro fe_59 (And.intro (And.intro fe_57 (And.intro trivial trivial)) trivial)) (And.intro fe_69 (And.intro (And.intro fe_68 (And.intro trivial trivial)) trivial)))) (And.intro fe_73 (And.intro (And.intro fe_72 (And.intro (And.intro fe_71 (And.intro trivial trivial)) trivial)) (And.intro fe_75 (And.intro (And.intro fe_74 (And.intro trivial trivial)) trivial)))))) (And.intro fe_87 (And.intro (And.intro fe_84 (And.intro (And.intro fe_83 (And.intro (And.intro fe_77 (And.intro trivial trivial)) trivial)) (And.intro fe_86 (And.intro (And.intro fe_85 (And.intro trivial trivial)) trivial)))) (And.intro fe_90 (And.intro (And.intro fe_89 (And.intro (And.intro fe_88 (And.intro trivial trivial)) trivial)) (And.intro fe_91 (And.intro trivial trivial)))))))))) e,
  fun j B lin b nt e hk => BT.look_all (Q := LE P K) (t := tbL) (And.intro le_47001 (And.intro (And.intro le_23002 (And.intro (And.intro le_15001 (And.intro (And.intro le_14000 (And.intro (And.intro le_13001 (And.intro (And.intro le_13000 (And.intro trivial trivial)) trivial)) (And.intro le_15000 (And.intro (And.intro le_14001 (And.intro trivial trivial)) trivial)))) (And.intro le_23000 (And.intro (And.intro le_21000 (And.intro (And.intro le_15002 (And.intro trivial trivial)) trivial)) (And.intro le_23001 (And.intro trivial trivial)))))) (And.intro le_42000 (And.intro (And.intro le_40001 (And.intro (And.intro le_40000 (And.intro (And.intro le_25000 (And.intro trivial trivial)) trivial)) (And.intro le_41000 (And.intro (And.intro le_40002 (And.intro trivial trivial)) trivial)))) (And.intro le_46000 (And.intro (And.intro le_45000 (And.intro (And.intro le_44001 (And.intro trivial trivial)) trivial)) (And.intro le_47000 (And.intro trivial trivial)))))))) (And.intro le_71000 (And.intro (And.intro le_57002 (And.intro (And.intro le_56000 (And.intro (And.intro le_49000 (And.intro (And.intro le_48000 (And.intro trivial trivial)) trivial)) (And.intro le_57001 (And.intro (And.intro le_57000 (And.intro trivial trivial)) trivial)))) (And.intro le_68000 (And.intro (And.intro le_57004 (And.intro (And.intro le_57003 (And.intro trivial trivial)) trivial)) (And.intro le_69000 (And.intro trivial trivial)))))) (And.intro le_85000 (And.intro (And.intro le_77001 (And.intro (And.intro le_77000 (And.intro (And.intro le_74000 (And.intro trivial trivial)) trivial)) (And.intro le_84000 (And.intro (And.intro le_77002 (And.intro trivial trivial)) trivial)))) (And.intro le_91000 (And.intro (And.intro le_90000 (And.intro (And.intro le_86000 (And.intro trivial trivial)) trivial)) (And.intro le_91001 (And.intro trivial trivial)))))))))) e lin b nt hk,
  fun nt ps D lin a b e hk => lookR_all (Q := RE P K) (l := tbR) (And.intro re_44000 (And.intro re_47002 (And.intro re_70000 trivial))) e lin a b hk⟩
theorem ev_run {n : Nat} {k : Key} {vs : List Value} {h : H} {c : Nat} {df : List Nat} {r : Rt H} (hk : KeyOK K k) (hi : InvL K h) (e : evT tab n k vs h c df = some r) : run P bk k vs h c df = some r := (evT_good tab_ok n k vs h c df r hk hi e).1
end Go.Proofs.Ytcnndelmnobigaa
