/- The shallow texts of the functions, with their equations. Printed by a program. -/
import Derived.Test.YtdbiilapiloaiaaK
set_option linter.all false
namespace Go.Proofs.Ytdbiilapiloaiaa
open Go Go.Ab Go.Proofs
set_option maxRecDepth 100000
set_option linter.unusedVariables false
variable {H : Type} [HeapC H]
noncomputable def f32_L32001 (o : Orc H) (rd : Option Nat) (t1 t2 t3 t4 t5 : Value) (h : H) (c : Nat) (df : List Nat) : Option (Rt H) :=
 (aBinOp P .lss 3 t5 (.int .i64 4)).bind fun t18 =>
 boolK t18
 (((addOff t1 0).bind fun t21 =>
  (ld1 h t21).bind fun t22 =>
  (ixS 20 t22 t4).bind fun t25 =>
  (ixA 4 5 t25 t5).bind fun t26 =>
  (ldN h 5 t26).bind fun t27 =>
  (stN (newB h (256 * (c + 1) + 7) [(.int .i64 0), (.int .i64 0), (.int .i64 0), (.int .i64 0), (.int .i64 0)]) 5 (ptrTo (256 * (c + 1) + 7)) t27).bind fun h1 =>
  (addOff (ptrTo (256 * (c + 1) + 7)) 0).bind fun t28 =>
  (ld1 h1 t28).bind fun t29 =>
  (aBinOp P .eql 3 t29 (.int .i64 (-1))).bind fun t30 =>
  ((gv t30 true).bind fun w => cond w (ret1 h1 (((c + 1) + 1) + 1) (addOff (ptrTo (256 * (c + 1) + 7)) 1)) (some (undef, h1, (((c + 1) + 1) + 1)))).bind fun r2 =>
  ((gv t30 true).bind fun w => cond w (ret1 r2.2.1 r2.2.2 (ldN r2.2.1 4 r2.1)) (some (undef, r2.2.1, r2.2.2))).bind fun r3 =>
  ((gv t30 true).bind fun w => cond w (ret1 r3.2.1 r3.2.2 (bldV [(.int .i64 0), (.int .i64 0), (.int .i64 0), (.int .i64 0)] [])) (some (undef, r3.2.1, r3.2.2))).bind fun r4 =>
  ((gv t30 true).bind fun w => cond w (ret1 r4.2.1 r4.2.2 (aBinOp P .eql 60 r3.1 r4.1)) (some (undef, r4.2.1, r4.2.2))).bind fun r5 =>
  (pickV t30 r5.1 (.bool false)).bind fun t36 =>
  boolK t36
   (some { e := .normal, vs := [t1, t2, t3, t4, t5], h := r5.2.1, c := r5.2.2, df := df })
   ((addOff (ptrTo (256 * (c + 1) + 7)) 0).bind fun t37 =>
   (ld1 r5.2.1 t37).bind fun t38 =>
   (aBinOp P .lss 3 t38 (.int .i64 0)).bind fun t39 =>
   ((gv t39 false).bind fun w => cond w (ret1 r5.2.1 (r5.2.2 + 1) (addOff (ptrTo (256 * (c + 1) + 7)) 0)) (some (undef, r5.2.1, (r5.2.2 + 1)))).bind fun r6 =>
   ((gv t39 false).bind fun w => cond w (ret1 r6.2.1 r6.2.2 (ld1 r6.2.1 r6.1)) (some (undef, r6.2.1, r6.2.2))).bind fun r7 =>
   ((gv t39 false).bind fun w => cond w (ret1 r7.2.1 r7.2.2 (some t3)) (some (undef, r7.2.1, r7.2.2))).bind fun r8 =>
   ((gv t39 false).bind fun w => cond w (ret1 r8.2.1 r8.2.2 (aBinOp P .geq 3 r7.1 r8.1)) (some (undef, r8.2.1, r8.2.2))).bind fun r9 =>
   (pickV t39 (.bool true) r9.1).bind fun t45 =>
   ((gv t45 false).bind fun w => cond w (ret1 r9.2.1 r9.2.2 (addOff (ptrTo (256 * (c + 1) + 7)) 1)) (some (undef, r9.2.1, r9.2.2))).bind fun r10 =>
   ((gv t45 false).bind fun w => cond w (ret1 r10.2.1 r10.2.2 (ldN r10.2.1 4 r10.1)) (some (undef, r10.2.1, r10.2.2))).bind fun r11 =>
   ((gv t45 false).bind fun w => cond w (callF o 64 [r11.1] r11.2.1 r11.2.2) (some (undef, r11.2.1, r11.2.2))).bind fun r12 =>
   ((gv t45 false).bind fun w => cond w (ret1 r12.2.1 r12.2.2 (aUnOp .not r12.1)) (some (undef, r12.2.1, r12.2.2))).bind fun r13 =>
   (pickV t45 (.bool true) r13.1).bind fun t51 =>
   ((gv t51 false).bind fun w => cond w (ret1 r13.2.1 r13.2.2 (addOff (ptrTo (256 * (c + 1) + 7)) 0)) (some (undef, r13.2.1, r13.2.2))).bind fun r14 =>
   ((gv t51 false).bind fun w => cond w (ret1 r14.2.1 r14.2.2 (ld1 r14.2.1 r14.1)) (some (undef, r14.2.1, r14.2.2))).bind fun r15 =>
   ((gv t51 false).bind fun w => cond w (ret1 r15.2.1 r15.2.2 (some t4)) (some (undef, r15.2.1, r15.2.2))).bind fun r16 =>
   ((gv t51 false).bind fun w => cond w (ret1 r16.2.1 r16.2.2 (aBinOp P .eql 3 r15.1 r16.1)) (some (undef, r16.2.1, r16.2.2))).bind fun r17 =>
   ((gv t51 false).bind fun w => cond w (ret1 r17.2.1 r17.2.2 (some r17.1)) (some (undef, r17.2.1, r17.2.2))).bind fun r18 =>
   ((gv r18.1 true).bind fun w => cond w (ret1 r18.2.1 r18.2.2 (some t5)) (some (undef, r18.2.1, r18.2.2))).bind fun r19 =>
   ((gv r18.1 true).bind fun w => cond w (ret1 r19.2.1 r19.2.2 (addOff (ptrTo (256 * (c + 1) + 7)) 1)) (some (undef, r19.2.1, r19.2.2))).bind fun r20 =>
   ((gv r18.1 true).bind fun w => cond w (ret1 r20.2.1 r20.2.2 (ixA 4 1 r20.1 r19.1)) (some (undef, r20.2.1, r20.2.2))).bind fun r21 =>
   ((gv r18.1 true).bind fun w => cond w (ret1 r21.2.1 r21.2.2 (ld1 r21.2.1 r21.1)) (some (undef, r21.2.1, r21.2.2))).bind fun r22 =>
   ((gv r18.1 true).bind fun w => cond w (ret1 r22.2.1 r22.2.2 (some t5)) (some (undef, r22.2.1, r22.2.2))).bind fun r23 =>
   ((gv r18.1 true).bind fun w => cond w (ret1 r23.2.1 r23.2.2 (aBinOp P .eql 3 r22.1 r23.1)) (some (undef, r23.2.1, r23.2.2))).bind fun r24 =>
   ((gv t51 false).bind fun w => cond w (pickR r24.2.1 r24.2.2 r18.1 r24.1 (.bool false)) (some (undef, r24.2.1, r24.2.2))).bind fun r25 =>
   (pickV t51 (.bool true) r25.1).bind fun t65 =>
   boolK t65
    (some { e := .ret, vs := [t1, (.int .i64 7), t3, t4, t5], h := r25.2.1, c := (r25.2.2 + 1), df := df })
    ((addOff t1 0).bind fun t66 =>
    (ld1 r25.2.1 t66).bind fun t67 =>
    (addOff (ptrTo (256 * (c + 1) + 7)) 0).bind fun t68 =>
    (ld1 r25.2.1 t68).bind fun t69 =>
    (addOff (ptrTo (256 * (c + 1) + 7)) 1).bind fun t71 =>
    (ixA 4 1 t71 t5).bind fun t72 =>
    (ld1 r25.2.1 t72).bind fun t73 =>
    (ixS 20 t67 t69).bind fun t74 =>
    (ixA 4 5 t74 t73).bind fun t75 =>
    (ldN r25.2.1 5 t75).bind fun t76 =>
    (addOff (ptrTo (256 * (c + 1) + 7)) 1).bind fun t78 =>
    (ldN r25.2.1 4 t78).bind fun t79 =>
    (callF o 59 [t79] r25.2.1 (r25.2.2 + 1)).bind fun r27 =>
    (bldV [(.int .i64 0), (.int .i64 0), (.int .i64 0), (.int .i64 0), (.int .i64 0)] [(0, 1, t4), (1, 4, r27.1)]).bind fun t81 =>
    (aBinOp P .neq 89 t76 t81).bind fun t82 =>
    (bif (sameB (ridV t66) r25.2.1 r27.2.1 && (sameB (ridV t68) r25.2.1 r27.2.1 && (sameB (ridV t72) r25.2.1 r27.2.1 && (sameB (ridV t75) r25.2.1 r27.2.1 && true)))) then
    boolK t82
     (some { e := .ret, vs := [t1, (.int .i64 7), t3, t4, t5], h := r27.2.1, c := (r27.2.2 + 1), df := df })
     (some { e := .normal, vs := [t1, t2, t3, t4, t5], h := r27.2.1, c := r27.2.2, df := df })
    else none))) : Option (Rt H)).bind fun r29 =>
 cond (exIs r29.e .normal)
  ((aBinOp P .add 3 (r29.v 4) (.int .i64 1)).bind fun t20 =>
  some { e := .normal, vs := [(r29.v 0), (r29.v 1), (r29.v 2), (r29.v 3), t20], h := r29.h, c := (r29.c + 1), df := r29.df })
  (cond (exIs r29.e .ret)
   (some { e := .ret, vs := [(r29.v 0), (r29.v 1), (r29.v 2), (r29.v 3), (r29.v 4)], h := r29.h, c := r29.c, df := r29.df })
   (none)))
 (some { e := (.exit 2), vs := [t1, t2, t3, t4, t5], h := h, c := (c + 1), df := df })
theorem f32_L32001_eq (o : Orc H) (rd : Option Nat) (t1 t2 t3 t4 t5 : Value) (h : H) (c : Nat) (df : List Nat) : jx P o 83 rd f32_c32001 (tmOf [1, 2, 3, 4, 5] [t1, t2, t3, t4, t5]) h c df (Klp [1, 2, 3, 4, 5]) = f32_L32001 o rd t1 t2 t3 t4 t5 h c df := by kernel_rfl
noncomputable def f32_L32000 (o : Orc H) (rd : Option Nat) (t1 t2 t3 t4 : Value) (h : H) (c : Nat) (df : List Nat) : Option (Rt H) :=
 (aBinOp P .lss 3 t4 t3).bind fun t14 =>
 boolK t14
 ((o (f32_k32001 rd) [t1, t2, t3, t4, (.int .i64 0)] h ((c + 1) + 1) df).bind fun r0 =>
 cond (exIs r0.e (.exit 2))
  ((aBinOp P .add 3 (r0.v 3) (.int .i64 1)).bind fun t16 =>
  some { e := .normal, vs := [(r0.v 0), (r0.v 1), (r0.v 2), t16], h := r0.h, c := (r0.c + 1), df := r0.df })
  (cond (exIs r0.e .ret)
   (some { e := .ret, vs := [(r0.v 0), (r0.v 1), (r0.v 2), (r0.v 3)], h := r0.h, c := r0.c, df := r0.df })
   (none)))
 (some { e := (.exit 0), vs := [t1, t2, t3, t4], h := h, c := (c + 1), df := df })
theorem f32_L32000_eq (o : Orc H) (rd : Option Nat) (t1 t2 t3 t4 : Value) (h : H) (c : Nat) (df : List Nat) : jx P o 83 rd f32_c32000 (tmOf [1, 2, 3, 4] [t1, t2, t3, t4]) h c df (Klp [1, 2, 3, 4]) = f32_L32000 o rd t1 t2 t3 t4 h c df := by kernel_rfl
/-- sphenoid/sphenoidref01.Check -/
noncomputable def f32_S (o : Orc H) (t0 : Value) (h : H) (c : Nat) : Option (Rt H) :=
 (bif (t0 : Value).cells.toList.all isFlat then
 (addOff (ptrTo (256 * c + 0)) 0).bind fun t7 =>
 (ld1 (newB h (256 * c + 0) (t0 : Value).cells.toList) t7).bind fun t8 =>
 (lenS t8).bind fun t9 =>
 (aBinOp P .gtr 3 t9 (.int .i64 1000)).bind fun t11 =>
 boolK t11
 (some { e := .ret, vs := [(.int .i64 7)], h := (newB h (256 * c + 0) (t0 : Value).cells.toList), c := ((((c + 1) + 1) + 1) + 1), df := [] })
 ((o (f32_k32000 none) [(ptrTo (256 * c + 0)), (.int .i64 0), t9, (.int .i64 0)] (newB h (256 * c + 0) (t0 : Value).cells.toList) ((((c + 1) + 1) + 1) + 1) []).bind fun r0 =>
 cond (exIs r0.e (.exit 0))
  ((takeAll r0.h r0.df).bind fun h2 =>
  some { e := .ret, vs := [(.int .i64 0)], h := h2, c := (r0.c + 1), df := [] })
  (cond (exIs r0.e .ret)
   ((takeAll r0.h r0.df).bind fun h1 =>
   some { e := .ret, vs := [(r0.v 1)], h := h1, c := r0.c, df := [] })
   (none)))
 else none)
theorem f32_S_eq (o : Orc H) (t0 : Value) (h : H) (c : Nat) : jx P o 83 none f32_c (tmOf (List.range 1) [t0]) h c [] (Kfn P Try.f32.results.toList) = f32_S o t0 h c := by kernel_rfl
theorem f32_go {t0 : Value} {h : FH} {c : Nat} {df : List Nat} {r : Rt FH} (e : f32_S G t0 h c = some r) : G (.fn 32) [t0] h c df = some (gcR h c [] r) := runG_fn (a := f32_f) bk_32 rfl (fun args h c => by cases args <;> rfl) rfl ((f32_S_eq G t0 h c).trans e)
theorem f32_N32001 {rd : Option Nat} {t1 t2 t3 t4 t5 : Value} {h : FH} {c : Nat} {df : List Nat} {q r : Rt FH} (e : f32_L32001 G rd t1 t2 t3 t4 t5 h c df = some q) (hq : q.e = .normal) (k : G (f32_k32001 rd) q.vs q.h q.c q.df = some r) : G (f32_k32001 rd) [t1, t2, t3, t4, t5] h c df = some r := runG_lp_next ((f32_L32001_eq G rd t1 t2 t3 t4 t5 h c df).trans e) hq k
theorem f32_Z32001 {rd : Option Nat} {t1 t2 t3 t4 t5 : Value} {h : FH} {c : Nat} {df : List Nat} {q : Rt FH} (e : f32_L32001 G rd t1 t2 t3 t4 t5 h c df = some q) (hq : q.e ≠ .normal) : G (f32_k32001 rd) [t1, t2, t3, t4, t5] h c df = some q := runG_lp_last ((f32_L32001_eq G rd t1 t2 t3 t4 t5 h c df).trans e) hq
theorem f32_N32000 {rd : Option Nat} {t1 t2 t3 t4 : Value} {h : FH} {c : Nat} {df : List Nat} {q r : Rt FH} (e : f32_L32000 G rd t1 t2 t3 t4 h c df = some q) (hq : q.e = .normal) (k : G (f32_k32000 rd) q.vs q.h q.c q.df = some r) : G (f32_k32000 rd) [t1, t2, t3, t4] h c df = some r := runG_lp_next ((f32_L32000_eq G rd t1 t2 t3 t4 h c df).trans e) hq k
theorem f32_Z32000 {rd : Option Nat} {t1 t2 t3 t4 : Value} {h : FH} {c : Nat} {df : List Nat} {q : Rt FH} (e : f32_L32000 G rd t1 t2 t3 t4 h c df = some q) (hq : q.e ≠ .normal) : G (f32_k32000 rd) [t1, t2, t3, t4] h c df = some q := runG_lp_last ((f32_L32000_eq G rd t1 t2 t3 t4 h c df).trans e) hq
noncomputable def f37_L37000 (o : Orc H) (rd : Option Nat) (t1 t2 t3 t8 t9 t10 : Value) (h : H) (c : Nat) (df : List Nat) : Option (Rt H) :=
 (aBinOp P .lss 3 t10 t9).bind fun t11 =>
 boolK t11
 ((ixS 1 t8 t10).bind fun t12 =>
 (ld1 h t12).bind fun t13 =>
 (ldN h 3 t3).bind fun t14 =>
 (callF o 53 [t14, t13] h (((c + 1) + 1) + 1)).bind fun r0 =>
 (callF o 55 [r0.1] r0.2.1 r0.2.2).bind fun r1 =>
 (stN r1.2.1 3 t3 r1.1).bind fun h3 =>
 (aBinOp P .add 3 t10 (.int .i64 1)).bind fun t18 =>
 some { e := .normal, vs := [t1, t2, t3, t8, t9, t18], h := h3, c := (r1.2.2 + 1), df := df })
 (some { e := (.exit 0), vs := [t1, t2, t3, t8, t9, t10], h := h, c := (c + 1), df := df })
theorem f37_L37000_eq (o : Orc H) (rd : Option Nat) (t1 t2 t3 t8 t9 t10 : Value) (h : H) (c : Nat) (df : List Nat) : jx P o 23 rd f37_c37000 (tmOf [1, 2, 3, 8, 9, 10] [t1, t2, t3, t8, t9, t10]) h c df (Klp [1, 2, 3, 8, 9, 10]) = f37_L37000 o rd t1 t2 t3 t8 t9 t10 h c df := by kernel_rfl
/-- sphenoid/lens.ahead -/
noncomputable def f37_S (o : Orc H) (t0 : Value) (h : H) (c : Nat) : Option (Rt H) :=
 (bif (t0 : Value).cells.toList.all isFlat then
 (bldV [(.int .i64 0), (.int .i64 0), (.int .i64 0)] [(0, 1, (.int .i64 1)), (1, 1, (.int .i64 2)), (2, 1, (.int .i64 3))]).bind fun t6 =>
 (stN (newB (newB (newB h (256 * c + 0) (t0 : Value).cells.toList) (256 * c + 1) [(.int .i64 0), (.int .i64 0), (.int .i64 0)]) (256 * (c + 1) + 1) [(.int .i64 0), (.int .i64 0), (.int .i64 0)]) 3 (ptrTo (256 * (c + 1) + 1)) t6).bind fun h1 =>
 (addOff (ptrTo (256 * c + 0)) 0).bind fun t7 =>
 (ld1 h1 t7).bind fun t8 =>
 (lenS t8).bind fun t9 =>
 (o (f37_k37000 none) [(ptrTo (256 * c + 0)), (ptrTo (256 * c + 1)), (ptrTo (256 * (c + 1) + 1)), t8, t9, (.int .i64 0)] h1 (((c + 1) + 1) + 1) []).bind fun r2 =>
 cond (exIs r2.e (.exit 0))
 ((ldN r2.h 3 (r2.v 2)).bind fun t19 =>
 (addOff (r2.v 0) 1).bind fun t20 =>
 (ld1 r2.h t20).bind fun t21 =>
 (callF o 53 [t19, t21] r2.h (r2.c + 1)).bind fun r3 =>
 (stN r3.2.1 3 (r2.v 1) r3.1).bind fun h5 =>
 (takeAll h5 r2.df).bind fun h6 =>
 (ldN h6 3 (r2.v 1)).bind fun v7 =>
 some { e := .ret, vs := [v7], h := h6, c := r3.2.2, df := [] })
 (none)
 else none)
theorem f37_S_eq (o : Orc H) (t0 : Value) (h : H) (c : Nat) : jx P o 23 none f37_c (tmOf (List.range 1) [t0]) h c [] (Kfn P Try.f37.results.toList) = f37_S o t0 h c := by kernel_rfl
theorem f37_go {t0 : Value} {h : FH} {c : Nat} {df : List Nat} {r : Rt FH} (e : f37_S G t0 h c = some r) : G (.fn 37) [t0] h c df = some (gcR h c [] r) := runG_fn (a := f37_f) bk_37 rfl (fun args h c => by cases args <;> rfl) rfl ((f37_S_eq G t0 h c).trans e)
theorem f37_N37000 {rd : Option Nat} {t1 t2 t3 t8 t9 t10 : Value} {h : FH} {c : Nat} {df : List Nat} {q r : Rt FH} (e : f37_L37000 G rd t1 t2 t3 t8 t9 t10 h c df = some q) (hq : q.e = .normal) (k : G (f37_k37000 rd) q.vs q.h q.c q.df = some r) : G (f37_k37000 rd) [t1, t2, t3, t8, t9, t10] h c df = some r := runG_lp_next ((f37_L37000_eq G rd t1 t2 t3 t8 t9 t10 h c df).trans e) hq k
theorem f37_Z37000 {rd : Option Nat} {t1 t2 t3 t8 t9 t10 : Value} {h : FH} {c : Nat} {df : List Nat} {q : Rt FH} (e : f37_L37000 G rd t1 t2 t3 t8 t9 t10 h c df = some q) (hq : q.e ≠ .normal) : G (f37_k37000 rd) [t1, t2, t3, t8, t9, t10] h c df = some q := runG_lp_last ((f37_L37000_eq G rd t1 t2 t3 t8 t9 t10 h c df).trans e) hq
/-- (sphenoid/lens.slopes).space -/
noncomputable def f38_S (o : Orc H) (t0 : Value) (h : H) (c : Nat) : Option (Rt H) :=
 (bif (t0 : Value).cells.toList.all isFlat then
 (ixA 3 1 (ptrTo (256 * c + 0)) (.int .i64 0)).bind fun t7 =>
 (ld1 (newB h (256 * c + 0) (t0 : Value).cells.toList) t7).bind fun t8 =>
 (ixA 3 1 (ptrTo (256 * c + 0)) (.int .i64 1)).bind fun t9 =>
 (ld1 (newB h (256 * c + 0) (t0 : Value).cells.toList) t9).bind fun t10 =>
 (aBinOp P .sub 3 t8 t10).bind fun t11 =>
 (ixA 3 1 (ptrTo (256 * c + 0)) (.int .i64 1)).bind fun t12 =>
 (ld1 (newB h (256 * c + 0) (t0 : Value).cells.toList) t12).bind fun t13 =>
 (ixA 3 1 (ptrTo (256 * c + 0)) (.int .i64 0)).bind fun t14 =>
 (ld1 (newB h (256 * c + 0) (t0 : Value).cells.toList) t14).bind fun t15 =>
 (aBinOp P .sub 3 t13 t15).bind fun t16 =>
 (foldV max2 [t11, t16]).bind fun t17 =>
 (ixA 3 1 (ptrTo (256 * c + 0)) (.int .i64 0)).bind fun t19 =>
 (ld1 (newB h (256 * c + 0) (t0 : Value).cells.toList) t19).bind fun t20 =>
 (ixA 3 1 (ptrTo (256 * c + 0)) (.int .i64 1)).bind fun t21 =>
 (ld1 (newB h (256 * c + 0) (t0 : Value).cells.toList) t21).bind fun t22 =>
 (callF o 39 [t20, t22] (newB h (256 * c + 0) (t0 : Value).cells.toList) (((c + 1) + 1) + 1)).bind fun r0 =>
 (extV r0.1 0).bind fun t24 =>
 (extV r0.1 1).bind fun t25 =>
 (extV r0.1 2).bind fun t26 =>
 (aBinOp P .add 3 t25 t26).bind fun t31 =>
 (callF o 40 [t17, t31] r0.2.1 (r0.2.2 + 1)).bind fun r1 =>
 some { e := .ret, vs := [.tuple #[t17, r1.1]], h := r1.2.1, c := r1.2.2, df := [] }
 else none)
theorem f38_S_eq (o : Orc H) (t0 : Value) (h : H) (c : Nat) : jx P o 33 none f38_c (tmOf (List.range 1) [t0]) h c [] (Kfn P Try.f38.results.toList) = f38_S o t0 h c := by kernel_rfl
theorem f38_go {t0 : Value} {h : FH} {c : Nat} {df : List Nat} {r : Rt FH} (e : f38_S G t0 h c = some r) : G (.fn 38) [t0] h c df = some (gcR h c [] r) := runG_fn (a := f38_f) bk_38 rfl (fun args h c => by cases args <;> rfl) rfl ((f38_S_eq G t0 h c).trans e)
/-- sphenoid/lens.bezout[int] -/
noncomputable def f39_S (o : Orc H) (t0 t1 : Value) (h : H) (c : Nat) : Option (Rt H) :=
 (aBinOp P .eql 3 t1 (.int .i64 0)).bind fun t10 =>
 boolK t10
 ((aBinOp P .lss 3 t0 (.int .i64 0)).bind fun t12 =>
 boolK t12
  ((aUnOp .neg t0).bind fun t14 =>
  some { e := .ret, vs := [.tuple #[t14, (.int .i64 (-1)), (.int .i64 0)]], h := h, c := ((((c + 1) + 1) + 1) + 1), df := [] })
  (some { e := .ret, vs := [.tuple #[t0, (.int .i64 1), (.int .i64 0)]], h := h, c := ((((c + 1) + 1) + 1) + 1), df := [] }))
 ((aBinOp P .rem 3 t0 t1).bind fun t20 =>
 (callF o 39 [t1, t20] h (((c + 1) + 1) + 1)).bind fun r0 =>
 (extV r0.1 0).bind fun t22 =>
 (extV r0.1 1).bind fun t23 =>
 (extV r0.1 2).bind fun t24 =>
 (aBinOp P .quo 3 t0 t1).bind fun t30 =>
 (aBinOp P .mul 3 t30 t24).bind fun t32 =>
 (aBinOp P .sub 3 t23 t32).bind fun t33 =>
 some { e := .ret, vs := [.tuple #[t22, t24, t33]], h := r0.2.1, c := (r0.2.2 + 1), df := [] })
theorem f39_S_eq (o : Orc H) (t0 t1 : Value) (h : H) (c : Nat) : jx P o 34 none f39_c (tmOf (List.range 2) [t0, t1]) h c [] (Kfn P Try.f39.results.toList) = f39_S o t0 t1 h c := by kernel_rfl
theorem f39_go {t0 t1 : Value} {h : FH} {c : Nat} {df : List Nat} {r : Rt FH} (e : f39_S G t0 t1 h c = some r) : G (.fn 39) [t0, t1] h c df = some (gcR h c [] r) := runG_fn (a := f39_f) bk_39 rfl (fun args h c => by cases args <;> rfl) rfl ((f39_S_eq G t0 t1 h c).trans e)
/-- sphenoid/lens.standard -/
noncomputable def f40_S (o : Orc H) (t0 t1 : Value) (h : H) (c : Nat) : Option (Rt H) :=
 (aBinOp P .lss 3 t0 (.int .i64 2)).bind fun t11 =>
 boolK t11
 ((aBinOp P .sub 3 (.int .i64 1) t0).bind fun t13 =>
 some { e := .ret, vs := [t13], h := h, c := (((c + 1) + 1) + 1), df := [] })
 ((callF o 67 [t1, t0] h (((c + 1) + 1) + 1)).bind fun r0 =>
 (callF o 39 [r0.1, t0] r0.2.1 (r0.2.2 + 1)).bind fun r1 =>
 (extV r1.1 0).bind fun t21 =>
 (extV r1.1 1).bind fun t22 =>
 (extV r1.1 2).bind fun t23 =>
 (callF o 67 [t22, t0] r1.2.1 (r1.2.2 + 1)).bind fun r2 =>
 (aBinOp P .sub 3 t0 r0.1).bind fun t30 =>
 (aBinOp P .sub 3 t0 r2.1).bind fun t34 =>
 (foldV min2 [r0.1, t30, r2.1, t34]).bind fun t35 =>
 some { e := .ret, vs := [t35], h := r2.2.1, c := (r2.2.2 + 1), df := [] })
theorem f40_S_eq (o : Orc H) (t0 t1 : Value) (h : H) (c : Nat) : jx P o 36 none f40_c (tmOf (List.range 2) [t0, t1]) h c [] (Kfn P Try.f40.results.toList) = f40_S o t0 t1 h c := by kernel_rfl
theorem f40_go {t0 t1 : Value} {h : FH} {c : Nat} {df : List Nat} {r : Rt FH} (e : f40_S G t0 t1 h c = some r) : G (.fn 40) [t0, t1] h c df = some (gcR h c [] r) := runG_fn (a := f40_f) bk_40 rfl (fun args h c => by cases args <;> rfl) rfl ((f40_S_eq G t0 t1 h c).trans e)
noncomputable def f42_L42000 (o : Orc H) (rd : Option Nat) (t3 t8 t9 t10 : Value) (h : H) (c : Nat) (df : List Nat) : Option (Rt H) :=
 (aBinOp P .lss 3 t10 t9).bind fun t11 =>
 boolK t11
 ((ixS 1 t8 t10).bind fun t12 =>
 (ld1 h t12).bind fun t13 =>
 (callF o 62 [t3, t13] h (((c + 1) + 1) + 1)).bind fun r0 =>
 (callF o 70 [t3] r0.2.1 (r0.2.2 + 1)).bind fun r1 =>
 (aBinOp P .add 3 t10 (.int .i64 1)).bind fun t19 =>
 some { e := .normal, vs := [t3, t8, t9, t19], h := r1.2.1, c := (r1.2.2 + 1), df := df })
 (some { e := (.exit 0), vs := [t3, t8, t9, t10], h := h, c := (c + 1), df := df })
theorem f42_L42000_eq (o : Orc H) (rd : Option Nat) (t3 t8 t9 t10 : Value) (h : H) (c : Nat) (df : List Nat) : jx P o 21 rd f42_c42000 (tmOf [3, 8, 9, 10] [t3, t8, t9, t10]) h c df (Klp [3, 8, 9, 10]) = f42_L42000 o rd t3 t8 t9 t10 h c df := by kernel_rfl
/-- sphenoid/lens.torus -/
noncomputable def f42_S (o : Orc H) (t0 : Value) (h : H) (c : Nat) : Option (Rt H) :=
 (bif (t0 : Value).cells.toList.all isFlat then
 (callF o 69 [] (newB h (256 * c + 0) (t0 : Value).cells.toList) ((c + 1) + 1)).bind fun r0 =>
 (addOff (ptrTo (256 * c + 0)) 0).bind fun t7 =>
 (ld1 r0.2.1 t7).bind fun t8 =>
 (lenS t8).bind fun t9 =>
 (o (f42_k42000 none) [r0.1, t8, t9, (.int .i64 0)] r0.2.1 (r0.2.2 + 1) []).bind fun r1 =>
 cond (exIs r1.e (.exit 0))
 ((takeAll r1.h r1.df).bind fun h2 =>
 some { e := .ret, vs := [(r1.v 0)], h := h2, c := (r1.c + 1), df := [] })
 (none)
 else none)
theorem f42_S_eq (o : Orc H) (t0 : Value) (h : H) (c : Nat) : jx P o 21 none f42_c (tmOf (List.range 1) [t0]) h c [] (Kfn P Try.f42.results.toList) = f42_S o t0 h c := by kernel_rfl
theorem f42_go {t0 : Value} {h : FH} {c : Nat} {df : List Nat} {r : Rt FH} (e : f42_S G t0 h c = some r) : G (.fn 42) [t0] h c df = some (gcR h c [] r) := runG_fn (a := f42_f) bk_42 rfl (fun args h c => by cases args <;> rfl) rfl ((f42_S_eq G t0 h c).trans e)
theorem f42_N42000 {rd : Option Nat} {t3 t8 t9 t10 : Value} {h : FH} {c : Nat} {df : List Nat} {q r : Rt FH} (e : f42_L42000 G rd t3 t8 t9 t10 h c df = some q) (hq : q.e = .normal) (k : G (f42_k42000 rd) q.vs q.h q.c q.df = some r) : G (f42_k42000 rd) [t3, t8, t9, t10] h c df = some r := runG_lp_next ((f42_L42000_eq G rd t3 t8 t9 t10 h c df).trans e) hq k
theorem f42_Z42000 {rd : Option Nat} {t3 t8 t9 t10 : Value} {h : FH} {c : Nat} {df : List Nat} {q : Rt FH} (e : f42_L42000 G rd t3 t8 t9 t10 h c df = some q) (hq : q.e ≠ .normal) : G (f42_k42000 rd) [t3, t8, t9, t10] h c df = some q := runG_lp_last ((f42_L42000_eq G rd t3 t8 t9 t10 h c df).trans e) hq
noncomputable def f48_R48000 (o : Orc H) (l : Nat) (t13 t14 t1 t2 t3 : Value) (h : H) (c : Nat) : Option (Rt H) :=
 (stN (newB h (256 * c + 0) [(.int .i64 0), (.int .i64 0)]) 2 (ptrTo (256 * c + 0)) t13).bind fun h1 =>
 (stN (newB h1 (256 * (c + 1) + 0) [(.int .i64 0), (.int .i64 0), (.int .i64 0), (.int .i64 0), (.int .i64 0)]) 5 (ptrTo (256 * (c + 1) + 0)) t14).bind fun h3 =>
 (beginSt h3 l).bind fun h4 =>
 ((ldN h4 5 (ptrTo (256 * (c + 1) + 0))).bind fun t15 =>
 (ldN h4 5 t3).bind fun t16 =>
 (aBinOp P .eql 89 t15 t16).bind fun t17 =>
 boolK t17
  (some { e := .normal, vs := [], h := h4, c := (((c + 1) + 1) + 1), df := [] })
  ((addOff (ptrTo (256 * (c + 1) + 0)) 0).bind fun t18 =>
  (ld1 h4 t18).bind fun t19 =>
  (aBinOp P .lss 3 t19 (.int .i64 0)).bind fun t20 =>
  ((gv t20 false).bind fun w => cond w (ret1 h4 ((((c + 1) + 1) + 1) + 1) (addOff (ptrTo (256 * (c + 1) + 0)) 0)) (some (undef, h4, ((((c + 1) + 1) + 1) + 1)))).bind fun r5 =>
  ((gv t20 false).bind fun w => cond w (ret1 r5.2.1 r5.2.2 (ld1 r5.2.1 r5.1)) (some (undef, r5.2.1, r5.2.2))).bind fun r6 =>
  ((gv t20 false).bind fun w => cond w (ret1 r6.2.1 r6.2.2 (addOff t1 0)) (some (undef, r6.2.1, r6.2.2))).bind fun r7 =>
  ((gv t20 false).bind fun w => cond w (ret1 r7.2.1 r7.2.2 (ld1 r7.2.1 r7.1)) (some (undef, r7.2.1, r7.2.2))).bind fun r8 =>
  ((gv t20 false).bind fun w => cond w (((lenS r8.1).bind fun v => some (v, r8.2.1)).bind fun r => some (r.1, r.2, r8.2.2)) (some (undef, r8.2.1, r8.2.2))).bind fun r9 =>
  ((gv t20 false).bind fun w => cond w (ret1 r9.2.1 r9.2.2 (aBinOp P .geq 3 r6.1 r9.1)) (some (undef, r9.2.1, r9.2.2))).bind fun r10 =>
  (pickV t20 (.bool true) r10.1).bind fun t28 =>
  ((gv t28 false).bind fun w => cond w (ret1 r10.2.1 r10.2.2 (addOff (ptrTo (256 * (c + 1) + 0)) 1)) (some (undef, r10.2.1, r10.2.2))).bind fun r11 =>
  ((gv t28 false).bind fun w => cond w (ret1 r11.2.1 r11.2.2 (ldN r11.2.1 4 r11.1)) (some (undef, r11.2.1, r11.2.2))).bind fun r12 =>
  ((gv t28 false).bind fun w => cond w (callF o 72 [r12.1] r12.2.1 r12.2.2) (some (undef, r12.2.1, r12.2.2))).bind fun r13 =>
  ((gv t28 false).bind fun w => cond w (ret1 r13.2.1 r13.2.2 (aUnOp .not r13.1)) (some (undef, r13.2.1, r13.2.2))).bind fun r14 =>
  (pickV t28 (.bool true) r14.1).bind fun t34 =>
  ((gv t34 false).bind fun w => cond w (ret1 r14.2.1 r14.2.2 (addOff (ptrTo (256 * (c + 1) + 0)) 0)) (some (undef, r14.2.1, r14.2.2))).bind fun r15 =>
  ((gv t34 false).bind fun w => cond w (ret1 r15.2.1 r15.2.2 (ld1 r15.2.1 r15.1)) (some (undef, r15.2.1, r15.2.2))).bind fun r16 =>
  ((gv t34 false).bind fun w => cond w (ret1 r16.2.1 r16.2.2 (addOff (ptrTo (256 * c + 0)) 0)) (some (undef, r16.2.1, r16.2.2))).bind fun r17 =>
  ((gv t34 false).bind fun w => cond w (ret1 r17.2.1 r17.2.2 (ld1 r17.2.1 r17.1)) (some (undef, r17.2.1, r17.2.2))).bind fun r18 =>
  ((gv t34 false).bind fun w => cond w (ret1 r18.2.1 r18.2.2 (aBinOp P .eql 3 r16.1 r18.1)) (some (undef, r18.2.1, r18.2.2))).bind fun r19 =>
  ((gv t34 false).bind fun w => cond w (ret1 r19.2.1 r19.2.2 (some r19.1)) (some (undef, r19.2.1, r19.2.2))).bind fun r20 =>
  ((gv r20.1 true).bind fun w => cond w (ret1 r20.2.1 r20.2.2 (addOff (ptrTo (256 * c + 0)) 1)) (some (undef, r20.2.1, r20.2.2))).bind fun r21 =>
  ((gv r20.1 true).bind fun w => cond w (ret1 r21.2.1 r21.2.2 (ld1 r21.2.1 r21.1)) (some (undef, r21.2.1, r21.2.2))).bind fun r22 =>
  ((gv r20.1 true).bind fun w => cond w (ret1 r22.2.1 r22.2.2 (addOff (ptrTo (256 * (c + 1) + 0)) 1)) (some (undef, r22.2.1, r22.2.2))).bind fun r23 =>
  ((gv r20.1 true).bind fun w => cond w (ret1 r23.2.1 r23.2.2 (ixA 4 1 r23.1 r22.1)) (some (undef, r23.2.1, r23.2.2))).bind fun r24 =>
  ((gv r20.1 true).bind fun w => cond w (ret1 r24.2.1 r24.2.2 (ld1 r24.2.1 r24.1)) (some (undef, r24.2.1, r24.2.2))).bind fun r25 =>
  ((gv r20.1 true).bind fun w => cond w (ret1 r25.2.1 r25.2.2 (addOff (ptrTo (256 * c + 0)) 1)) (some (undef, r25.2.1, r25.2.2))).bind fun r26 =>
  ((gv r20.1 true).bind fun w => cond w (ret1 r26.2.1 r26.2.2 (ld1 r26.2.1 r26.1)) (some (undef, r26.2.1, r26.2.2))).bind fun r27 =>
  ((gv r20.1 true).bind fun w => cond w (ret1 r27.2.1 r27.2.2 (aBinOp P .eql 3 r25.1 r27.1)) (some (undef, r27.2.1, r27.2.2))).bind fun r28 =>
  ((gv t34 false).bind fun w => cond w (pickR r28.2.1 r28.2.2 r20.1 r28.1 (.bool false)) (some (undef, r28.2.1, r28.2.2))).bind fun r29 =>
  (pickV t34 (.bool true) r29.1).bind fun t51 =>
  boolK t51
   ((stN r29.2.1 1 t2 (.int .i64 7)).bind fun h31 =>
   some { e := .ret, vs := [], h := h31, c := (r29.2.2 + 1), df := [] })
   ((addOff t1 0).bind fun t52 =>
   (ld1 r29.2.1 t52).bind fun t53 =>
   (addOff (ptrTo (256 * (c + 1) + 0)) 0).bind fun t54 =>
   (ld1 r29.2.1 t54).bind fun t55 =>
   (addOff (ptrTo (256 * c + 0)) 1).bind fun t56 =>
   (ld1 r29.2.1 t56).bind fun t57 =>
   (addOff (ptrTo (256 * (c + 1) + 0)) 1).bind fun t58 =>
   (ixA 4 1 t58 t57).bind fun t59 =>
   (ld1 r29.2.1 t59).bind fun t60 =>
   (ixS 20 t53 t55).bind fun t61 =>
   (ixA 4 5 t61 t60).bind fun t62 =>
   (ldN r29.2.1 5 t62).bind fun t63 =>
   (addOff (ptrTo (256 * c + 0)) 0).bind fun t64 =>
   (ld1 r29.2.1 t64).bind fun t65 =>
   (addOff (ptrTo (256 * (c + 1) + 0)) 1).bind fun t66 =>
   (ldN r29.2.1 4 t66).bind fun t67 =>
   (callF o 73 [t67] r29.2.1 (r29.2.2 + 1)).bind fun r32 =>
   (bldV [(.int .i64 0), (.int .i64 0), (.int .i64 0), (.int .i64 0), (.int .i64 0)] [(0, 1, t65), (1, 4, r32.1)]).bind fun t69 =>
   (aBinOp P .neq 89 t63 t69).bind fun t70 =>
   (bif (sameB (ridV t52) r29.2.1 r32.2.1 && (sameB (ridV t54) r29.2.1 r32.2.1 && (sameB (ridV t56) r29.2.1 r32.2.1 && (sameB (ridV t59) r29.2.1 r32.2.1 && (sameB (ridV t62) r29.2.1 r32.2.1 && (sameB (ridV t64) r29.2.1 r32.2.1 && true)))))) then
   boolK t70
    ((stN r32.2.1 1 t2 (.int .i64 7)).bind fun h34 =>
    some { e := .ret, vs := [], h := h34, c := (r32.2.2 + 1), df := [] })
    (some { e := .normal, vs := [], h := r32.2.1, c := r32.2.2, df := [] })
   else none))) : Option (Rt H)).bind fun r35 =>
 cond (exIs r35.e .normal)
 ((setState r35.h l .ready none).bind fun h37 =>
 cond (List.isEmpty (r35.df : List Nat)) (some { e := .ret, vs := [.bool true], h := h37, c := r35.c, df := [] }) none)
 (cond (exIs r35.e .ret)
  ((setState r35.h l .done (some .ret)).bind fun h36 =>
  cond (List.isEmpty (r35.df : List Nat)) (some { e := .ret, vs := [.bool false], h := h36, c := r35.c, df := [] }) none)
  (none))
theorem f48_R48000_eq (o : Orc H) (l : Nat) (t13 t14 t1 t2 t3 : Value) (h : H) (c : Nat) : jx P o 71 (some l) f48_a48000 (tmOf ([13, 14] ++ [1, 2, 3]) [t13, t14, t1, t2, t3]) h c [] (rndK P o 71 l f48_c48000) = f48_R48000 o l t13 t14 t1 t2 t3 h c := by kernel_rfl
/-- sphenoid/glue.Check -/
noncomputable def f48_S (o : Orc H) (t0 : Value) (h : H) (c : Nat) : Option (Rt H) :=
 (bif (t0 : Value).cells.toList.all isFlat then
 (addOff (ptrTo (256 * c + 0)) 0).bind fun t6 =>
 (ld1 (newB (newB h (256 * c + 0) (t0 : Value).cells.toList) (256 * c + 1) [(.int .i64 0)]) t6).bind fun t7 =>
 (lenS t7).bind fun t8 =>
 (aBinOp P .gtr 3 t8 (.int .i64 1000)).bind fun t9 =>
 boolK t9
 ((stN (newB (newB h (256 * c + 0) (t0 : Value).cells.toList) (256 * c + 1) [(.int .i64 0)]) 1 (ptrTo (256 * c + 1)) (.int .i64 7)).bind fun h1 =>
 (ld1 h1 (ptrTo (256 * c + 1))).bind fun v2 =>
 some { e := .ret, vs := [v2], h := h1, c := (((c + 1) + 1) + 1), df := [] })
 ((bldV [(.int .i64 0), (.int .i64 0), (.int .i64 0), (.int .i64 0), (.int .i64 0)] [(0, 1, (.int .i64 (-1)))]).bind fun t10 =>
 (stN (newB (newB (newB h (256 * c + 0) (t0 : Value).cells.toList) (256 * c + 1) [(.int .i64 0)]) (256 * ((c + 1) + 1) + 1) [(.int .i64 0), (.int .i64 0), (.int .i64 0), (.int .i64 0), (.int .i64 0)]) 5 (ptrTo (256 * ((c + 1) + 1) + 1)) t10).bind fun h4 =>
 (ldN h4 1 (ptrTo (256 * c + 0))).bind fun t11 =>
 (callF o 71 [t11] h4 ((((c + 1) + 1) + 1) + 1)).bind fun r5 =>
 (rangeV o 71 none [1, 2, 3] [] #[13, 14] f48_a48000 f48_c48000 r5.1 [(ptrTo (256 * c + 0)), (ptrTo (256 * c + 1)), (ptrTo (256 * ((c + 1) + 1) + 1))] r5.2.1 r5.2.2 []).bind fun q6 =>
 cond (exIs q6.1 .normal)
  ((stN q6.2.1 1 (ptrTo (256 * c + 1)) (.int .i64 0)).bind fun h10 =>
  (takeAll h10 q6.2.2.2).bind fun h11 =>
  (ld1 h11 (ptrTo (256 * c + 1))).bind fun v12 =>
  some { e := .ret, vs := [v12], h := h11, c := (q6.2.2.1 + 1), df := [] })
  (cond (exIs q6.1 .ret)
   ((takeAll q6.2.1 q6.2.2.2).bind fun h7 =>
   (ld1 h7 (ptrTo (256 * c + 1))).bind fun v8 =>
   some { e := .ret, vs := [v8], h := h7, c := q6.2.2.1, df := [] })
   (none)))
 else none)
theorem f48_S_eq (o : Orc H) (t0 : Value) (h : H) (c : Nat) : jx P o 71 none f48_c (tmOf (List.range 1) [t0]) h c [] (Kfn P Try.f48.results.toList) = f48_S o t0 h c := by kernel_rfl
theorem f48_go {t0 : Value} {h : FH} {c : Nat} {df : List Nat} {r : Rt FH} (e : f48_S G t0 h c = some r) : G (.fn 48) [t0] h c df = some (gcR h c [] r) := runG_fn (a := f48_f) bk_48 rfl (fun args h c => by cases args <;> rfl) rfl ((f48_S_eq G t0 h c).trans e)
theorem f48_G48000 {t13 t14 t1 t2 t3 : Value} {l : Nat} {h : FH} {c : Nat} {df : List Nat} {r : Rt FH} (e : f48_R48000 G l t13 t14 t1 t2 t3 h c = some r) : G (.rnd 71 [1, 2, 3] [] [13, 14] l f48_a48000 f48_c48000) [t13, t14, t1, t2, t3] h c df = some r := runG_rnd ((f48_R48000_eq G l t13 t14 t1 t2 t3 h c).trans e)
/-- sphenoid/iso.Canonical -/
noncomputable def f49_S (o : Orc H) (t0 : Value) (h : H) (c : Nat) : Option (Rt H) :=
 (bif (t0 : Value).cells.toList.all isFlat then
 (ldN (newB (newB (newB h (256 * c + 0) (t0 : Value).cells.toList) (256 * c + 1) [(.slice none 0 0)]) (256 * c + 2) [(.slice none 0 0), (.slice none 0 0)]) 1 (ptrTo (256 * c + 0))).bind fun t8 =>
 (bldL [(.slice none 0 0)] [(0, 1, t8)]).bind fun r0 =>
 (callF o 74 [(.slice (some ⟨(256 * (c + 1) + 1), 0, none⟩) 1 1)] (newB (newB (newB (newB h (256 * c + 0) (t0 : Value).cells.toList) (256 * c + 1) [(.slice none 0 0)]) (256 * c + 2) [(.slice none 0 0), (.slice none 0 0)]) (256 * (c + 1) + 1) r0) ((c + 1) + 1)).bind fun r1 =>
 (aBinOp P .neq 31 r1.1 (.int .i64 0)).bind fun t12 =>
 boolK t12
 ((bldV [(.slice none 0 0)] []).bind fun t13 =>
 (bldV [(.slice none 0 0), (.slice none 0 0)] []).bind fun t14 =>
 (stN r1.2.1 1 (ptrTo (256 * c + 1)) t13).bind fun h3 =>
 (stN h3 2 (ptrTo (256 * c + 2)) t14).bind fun h5 =>
 (ldN h5 1 (ptrTo (256 * c + 1))).bind fun v6 =>
 (ldN h5 2 (ptrTo (256 * c + 2))).bind fun v7 =>
 some { e := .ret, vs := [.tuple #[v6, v7, r1.1]], h := h5, c := ((r1.2.2 + 1) + 1), df := [] })
 ((ldN r1.2.1 1 (ptrTo (256 * c + 0))).bind fun t17 =>
 (callF o 75 [t17] r1.2.1 ((r1.2.2 + 1) + 1)).bind fun r8 =>
 (extV r8.1 0).bind fun t19 =>
 (extV r8.1 1).bind fun t20 =>
 (stN (newB (newB r8.2.1 (256 * (r1.2.2 + 1) + 5) [(.slice none 0 0)]) (256 * (r1.2.2 + 1) + 6) [(.slice none 0 0), (.slice none 0 0)]) 1 (ptrTo (256 * (r1.2.2 + 1) + 5)) t19).bind fun h10 =>
 (stN h10 2 (ptrTo (256 * (r1.2.2 + 1) + 6)) t20).bind fun h12 =>
 (ldN h12 1 (ptrTo (256 * (r1.2.2 + 1) + 5))).bind fun t21 =>
 (ldN h12 2 (ptrTo (256 * (r1.2.2 + 1) + 6))).bind fun t22 =>
 (stN h12 1 (ptrTo (256 * c + 1)) t21).bind fun h14 =>
 (stN h14 2 (ptrTo (256 * c + 2)) t22).bind fun h16 =>
 (bif (sameB (ridV (ptrTo (256 * (r1.2.2 + 1) + 6))) h12 h14 && true) then
 (ldN h16 1 (ptrTo (256 * c + 1))).bind fun v17 =>
 (ldN h16 2 (ptrTo (256 * c + 2))).bind fun v18 =>
 some { e := .ret, vs := [.tuple #[v17, v18, (.int .i64 0)]], h := h16, c := (r8.2.2 + 1), df := [] }
 else none))
 else none)
theorem f49_S_eq (o : Orc H) (t0 : Value) (h : H) (c : Nat) : jx P o 23 none f49_c (tmOf (List.range 1) [t0]) h c [] (Kfn P Try.f49.results.toList) = f49_S o t0 h c := by kernel_rfl
theorem f49_go {t0 : Value} {h : FH} {c : Nat} {df : List Nat} {r : Rt FH} (e : f49_S G t0 h c = some r) : G (.fn 49) [t0] h c df = some (gcR h c [] r) := runG_fn (a := f49_f) bk_49 rfl (fun args h c => by cases args <;> rfl) rfl ((f49_S_eq G t0 h c).trans e)
/-- sphenoid/lens.descriptions -/
noncomputable def f50_S (o : Orc H) (t0 : Value) (h : H) (c : Nat) : Option (Rt H) :=
 (bif (t0 : Value).cells.toList.all isFlat then
 some { e := .ret, vs := [(.func (.func 76) [].toArray [(ptrTo (256 * c + 0))].toArray)], h := (newB h (256 * c + 0) (t0 : Value).cells.toList), c := ((c + 1) + 1), df := [] }
 else none)
theorem f50_S_eq (o : Orc H) (t0 : Value) (h : H) (c : Nat) : jx P o 4 none f50_c (tmOf (List.range 1) [t0]) h c [] (Kfn P Try.f50.results.toList) = f50_S o t0 h c := by kernel_rfl
theorem f50_go {t0 : Value} {h : FH} {c : Nat} {df : List Nat} {r : Rt FH} (e : f50_S G t0 h c = some r) : G (.fn 50) [t0] h c df = some (gcR h c [] r) := runG_fn (a := f50_f) bk_50 rfl (fun args h c => by cases args <;> rfl) rfl ((f50_S_eq G t0 h c).trans e)
/-- sphenoid/glue.Same -/
noncomputable def f51_S (o : Orc H) (t0 t1 : Value) (h : H) (c : Nat) : Option (Rt H) :=
 (bif (t0 : Value).cells.toList.all isFlat then
 (bif (t1 : Value).cells.toList.all isFlat then
 (addOff (ptrTo (256 * c + 0)) 0).bind fun t5 =>
 (ld1 (newB (newB h (256 * c + 0) (t0 : Value).cells.toList) (256 * c + 1) (t1 : Value).cells.toList) t5).bind fun t6 =>
 (addOff (ptrTo (256 * c + 1)) 0).bind fun t7 =>
 (ld1 (newB (newB h (256 * c + 0) (t0 : Value).cells.toList) (256 * c + 1) (t1 : Value).cells.toList) t7).bind fun t8 =>
 (callF o 78 [t6, t8] (newB (newB h (256 * c + 0) (t0 : Value).cells.toList) (256 * c + 1) (t1 : Value).cells.toList) ((c + 1) + 1)).bind fun r0 =>
 some { e := .ret, vs := [r0.1], h := r0.2.1, c := r0.2.2, df := [] }
 else none)
 else none)
theorem f51_S_eq (o : Orc H) (t0 t1 : Value) (h : H) (c : Nat) : jx P o 10 none f51_c (tmOf (List.range 2) [t0, t1]) h c [] (Kfn P Try.f51.results.toList) = f51_S o t0 t1 h c := by kernel_rfl
theorem f51_go {t0 t1 : Value} {h : FH} {c : Nat} {df : List Nat} {r : Rt FH} (e : f51_S G t0 t1 h c = some r) : G (.fn 51) [t0, t1] h c df = some (gcR h c [] r) := runG_fn (a := f51_f) bk_51 rfl (fun args h c => by cases args <;> rfl) rfl ((f51_S_eq G t0 t1 h c).trans e)
end Go.Proofs.Ytdbiilapiloaiaa
