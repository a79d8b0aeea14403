/- The shallow texts of the functions, with their equations. Printed by a program. -/
import Derived.Test.YtdbiilapiloaiaaK
set_option linter.all false
namespace Go.Proofs.Ytdbiilapiloaiaa
open Go Go.Ab Go.Proofs
set_option maxRecDepth 100000
set_option linter.unusedVariables false
variable {H : Type} [HeapC H]
/-- sphenoid/sphenoidlaw19.LensStandard -/
noncomputable def f4_S (o : Orc H) (t0 t1 t2 : Value) (h : H) (c : Nat) : Option (Rt H) :=
 (callF o 8 [] h ((c + 1) + 1)).bind fun r0 =>
 (aUnOp .not r0.1).bind fun t16 =>
 boolK t16
 (some { e := .ret, vs := [(.bool false)], h := r0.2.1, c := (r0.2.2 + 1), df := [] })
 ((aBinOp P .lss 3 t0 (.int .i64 0)).bind fun t18 =>
 ((gv t18 false).bind fun w => cond w (ret1 r0.2.1 (r0.2.2 + 1) (some t0)) (some (undef, r0.2.1, (r0.2.2 + 1)))).bind fun r1 =>
 ((gv t18 false).bind fun w => cond w (ret1 r1.2.1 r1.2.2 (aBinOp P .gtr 3 r1.1 (.int .i64 2000))) (some (undef, r1.2.1, r1.2.2))).bind fun r2 =>
 (pickV t18 (.bool true) r2.1).bind fun t22 =>
 ((gv t22 false).bind fun w => cond w (ret1 r2.2.1 r2.2.2 (some t1)) (some (undef, r2.2.1, r2.2.2))).bind fun r3 =>
 ((gv t22 false).bind fun w => cond w (ret1 r3.2.1 r3.2.2 (aBinOp P .lss 3 r3.1 (.int .i64 (-100000)))) (some (undef, r3.2.1, r3.2.2))).bind fun r4 =>
 (pickV t22 (.bool true) r4.1).bind fun t26 =>
 ((gv t26 false).bind fun w => cond w (ret1 r4.2.1 r4.2.2 (some t1)) (some (undef, r4.2.1, r4.2.2))).bind fun r5 =>
 ((gv t26 false).bind fun w => cond w (ret1 r5.2.1 r5.2.2 (aBinOp P .gtr 3 r5.1 (.int .i64 100000))) (some (undef, r5.2.1, r5.2.2))).bind fun r6 =>
 (pickV t26 (.bool true) r6.1).bind fun t30 =>
 ((gv t30 false).bind fun w => cond w (ret1 r6.2.1 r6.2.2 (some t2)) (some (undef, r6.2.1, r6.2.2))).bind fun r7 =>
 ((gv t30 false).bind fun w => cond w (ret1 r7.2.1 r7.2.2 (aBinOp P .lss 3 r7.1 (.int .i64 (-100000)))) (some (undef, r7.2.1, r7.2.2))).bind fun r8 =>
 (pickV t30 (.bool true) r8.1).bind fun t34 =>
 ((gv t34 false).bind fun w => cond w (ret1 r8.2.1 r8.2.2 (some t2)) (some (undef, r8.2.1, r8.2.2))).bind fun r9 =>
 ((gv t34 false).bind fun w => cond w (ret1 r9.2.1 r9.2.2 (aBinOp P .gtr 3 r9.1 (.int .i64 100000))) (some (undef, r9.2.1, r9.2.2))).bind fun r10 =>
 (pickV t34 (.bool true) r10.1).bind fun t38 =>
 boolK t38
  (some { e := .ret, vs := [(.bool true)], h := r10.2.1, c := (r10.2.2 + 1), df := [] })
  ((callF o 14 [t0, t1] r10.2.1 (r10.2.2 + 1)).bind fun r11 =>
  (extV r11.1 0).bind fun t43 =>
  (extV r11.1 1).bind fun t44 =>
  (aBinOp P .neq 31 t44 (.int .i64 0)).bind fun t46 =>
  boolK t46
   ((aBinOp P .eql 31 t44 (.int .i64 1)).bind fun t48 =>
   some { e := .ret, vs := [t48], h := r11.2.1, c := ((r11.2.2 + 1) + 1), df := [] })
   ((callF o 14 [t0, t43] r11.2.1 ((r11.2.2 + 1) + 1)).bind fun r12 =>
   (extV r12.1 0).bind fun t53 =>
   (extV r12.1 1).bind fun t54 =>
   (aUnOp .neg t1).bind fun t58 =>
   (callF o 14 [t0, t58] r12.2.1 (r12.2.2 + 1)).bind fun r13 =>
   (extV r13.1 0).bind fun t60 =>
   (extV r13.1 1).bind fun t61 =>
   (aBinOp P .neq 31 t54 (.int .i64 0)).bind fun t63 =>
   ((gv t63 false).bind fun w => cond w (ret1 r13.2.1 (r13.2.2 + 1) (some t61)) (some (undef, r13.2.1, (r13.2.2 + 1)))).bind fun r14 =>
   ((gv t63 false).bind fun w => cond w (ret1 r14.2.1 r14.2.2 (aBinOp P .neq 31 r14.1 (.int .i64 0))) (some (undef, r14.2.1, r14.2.2))).bind fun r15 =>
   (pickV t63 (.bool true) r15.1).bind fun t67 =>
   ((gv t67 false).bind fun w => cond w (ret1 r15.2.1 r15.2.2 (some t53)) (some (undef, r15.2.1, r15.2.2))).bind fun r16 =>
   ((gv t67 false).bind fun w => cond w (ret1 r16.2.1 r16.2.2 (some t43)) (some (undef, r16.2.1, r16.2.2))).bind fun r17 =>
   ((gv t67 false).bind fun w => cond w (ret1 r17.2.1 r17.2.2 (aBinOp P .neq 3 r16.1 r17.1)) (some (undef, r17.2.1, r17.2.2))).bind fun r18 =>
   (pickV t67 (.bool true) r18.1).bind fun t72 =>
   ((gv t72 false).bind fun w => cond w (ret1 r18.2.1 r18.2.2 (some t60)) (some (undef, r18.2.1, r18.2.2))).bind fun r19 =>
   ((gv t72 false).bind fun w => cond w (ret1 r19.2.1 r19.2.2 (some t43)) (some (undef, r19.2.1, r19.2.2))).bind fun r20 =>
   ((gv t72 false).bind fun w => cond w (ret1 r20.2.1 r20.2.2 (aBinOp P .neq 3 r19.1 r20.1)) (some (undef, r20.2.1, r20.2.2))).bind fun r21 =>
   (pickV t72 (.bool true) r21.1).bind fun t77 =>
   boolK t77
    (some { e := .ret, vs := [(.bool false)], h := r21.2.1, c := (r21.2.2 + 1), df := [] })
    ((callF o 14 [t0, t2] r21.2.1 (r21.2.2 + 1)).bind fun r22 =>
    (extV r22.1 0).bind fun t82 =>
    (extV r22.1 1).bind fun t83 =>
    (aBinOp P .neq 31 t83 (.int .i64 0)).bind fun t85 =>
    ((gv t85 false).bind fun w => cond w (ret1 r22.2.1 (r22.2.2 + 1) (some t0)) (some (undef, r22.2.1, (r22.2.2 + 1)))).bind fun r23 =>
    ((gv t85 false).bind fun w => cond w (ret1 r23.2.1 r23.2.2 (aBinOp P .eql 3 r23.1 (.int .i64 0))) (some (undef, r23.2.1, r23.2.2))).bind fun r24 =>
    (pickV t85 (.bool true) r24.1).bind fun t89 =>
    boolK t89
     ((aBinOp P .eql 31 t83 (.int .i64 1)).bind fun t91 =>
     ((gv t91 false).bind fun w => cond w (ret1 r24.2.1 (r24.2.2 + 1) (some t82)) (some (undef, r24.2.1, (r24.2.2 + 1)))).bind fun r25 =>
     ((gv t91 false).bind fun w => cond w (ret1 r25.2.1 r25.2.2 (some t43)) (some (undef, r25.2.1, r25.2.2))).bind fun r26 =>
     ((gv t91 false).bind fun w => cond w (ret1 r26.2.1 r26.2.2 (aBinOp P .eql 3 r25.1 r26.1)) (some (undef, r26.2.1, r26.2.2))).bind fun r27 =>
     (pickV t91 (.bool true) r27.1).bind fun t96 =>
     some { e := .ret, vs := [t96], h := r27.2.1, c := r27.2.2, df := [] })
     ((aBinOp P .sub 3 t1 t2).bind fun t99 =>
     (aBinOp P .rem 3 t99 t0).bind fun t101 =>
     (aBinOp P .eql 3 t101 (.int .i64 0)).bind fun t102 =>
     ((gv t102 false).bind fun w => cond w (ret1 r24.2.1 (r24.2.2 + 1) (some t1)) (some (undef, r24.2.1, (r24.2.2 + 1)))).bind fun r28 =>
     ((gv t102 false).bind fun w => cond w (ret1 r28.2.1 r28.2.2 (some t2)) (some (undef, r28.2.1, r28.2.2))).bind fun r29 =>
     ((gv t102 false).bind fun w => cond w (ret1 r29.2.1 r29.2.2 (aBinOp P .add 3 r28.1 r29.1)) (some (undef, r29.2.1, r29.2.2))).bind fun r30 =>
     ((gv t102 false).bind fun w => cond w (ret1 r30.2.1 r30.2.2 (some t0)) (some (undef, r30.2.1, r30.2.2))).bind fun r31 =>
     ((gv t102 false).bind fun w => cond w (ret1 r31.2.1 r31.2.2 (aBinOp P .rem 3 r30.1 r31.1)) (some (undef, r31.2.1, r31.2.2))).bind fun r32 =>
     ((gv t102 false).bind fun w => cond w (ret1 r32.2.1 r32.2.2 (aBinOp P .eql 3 r32.1 (.int .i64 0))) (some (undef, r32.2.1, r32.2.2))).bind fun r33 =>
     (pickV t102 (.bool true) r33.1).bind fun t110 =>
     ((gv t110 false).bind fun w => cond w (ret1 r33.2.1 r33.2.2 (some t1)) (some (undef, r33.2.1, r33.2.2))).bind fun r34 =>
     ((gv t110 false).bind fun w => cond w (ret1 r34.2.1 r34.2.2 (some t2)) (some (undef, r34.2.1, r34.2.2))).bind fun r35 =>
     ((gv t110 false).bind fun w => cond w (ret1 r35.2.1 r35.2.2 (aBinOp P .mul 3 r34.1 r35.1)) (some (undef, r35.2.1, r35.2.2))).bind fun r36 =>
     ((gv t110 false).bind fun w => cond w (ret1 r36.2.1 r36.2.2 (aBinOp P .sub 3 r36.1 (.int .i64 1))) (some (undef, r36.2.1, r36.2.2))).bind fun r37 =>
     ((gv t110 false).bind fun w => cond w (ret1 r37.2.1 r37.2.2 (some t0)) (some (undef, r37.2.1, r37.2.2))).bind fun r38 =>
     ((gv t110 false).bind fun w => cond w (ret1 r38.2.1 r38.2.2 (aBinOp P .rem 3 r37.1 r38.1)) (some (undef, r38.2.1, r38.2.2))).bind fun r39 =>
     ((gv t110 false).bind fun w => cond w (ret1 r39.2.1 r39.2.2 (aBinOp P .eql 3 r39.1 (.int .i64 0))) (some (undef, r39.2.1, r39.2.2))).bind fun r40 =>
     (pickV t110 (.bool true) r40.1).bind fun t119 =>
     ((gv t119 false).bind fun w => cond w (ret1 r40.2.1 r40.2.2 (some t1)) (some (undef, r40.2.1, r40.2.2))).bind fun r41 =>
     ((gv t119 false).bind fun w => cond w (ret1 r41.2.1 r41.2.2 (some t2)) (some (undef, r41.2.1, r41.2.2))).bind fun r42 =>
     ((gv t119 false).bind fun w => cond w (ret1 r42.2.1 r42.2.2 (aBinOp P .mul 3 r41.1 r42.1)) (some (undef, r42.2.1, r42.2.2))).bind fun r43 =>
     ((gv t119 false).bind fun w => cond w (ret1 r43.2.1 r43.2.2 (aBinOp P .add 3 r43.1 (.int .i64 1))) (some (undef, r43.2.1, r43.2.2))).bind fun r44 =>
     ((gv t119 false).bind fun w => cond w (ret1 r44.2.1 r44.2.2 (some t0)) (some (undef, r44.2.1, r44.2.2))).bind fun r45 =>
     ((gv t119 false).bind fun w => cond w (ret1 r45.2.1 r45.2.2 (aBinOp P .rem 3 r44.1 r45.1)) (some (undef, r45.2.1, r45.2.2))).bind fun r46 =>
     ((gv t119 false).bind fun w => cond w (ret1 r46.2.1 r46.2.2 (aBinOp P .eql 3 r46.1 (.int .i64 0))) (some (undef, r46.2.1, r46.2.2))).bind fun r47 =>
     (pickV t119 (.bool true) r47.1).bind fun t128 =>
     (aBinOp P .eql 3 t43 t82).bind fun t131 =>
     (aBinOp P .eql 4 t131 t128).bind fun t133 =>
     some { e := .ret, vs := [t133], h := r47.2.1, c := (r47.2.2 + 1), df := [] })))))
theorem f4_S_eq (o : Orc H) (t0 t1 t2 : Value) (h : H) (c : Nat) : jx P o 134 none f4_c (tmOf (List.range 3) [t0, t1, t2]) h c [] (Kfn P Try.f4.results.toList) = f4_S o t0 t1 t2 h c := by kernel_rfl
theorem f4_go {t0 t1 t2 : Value} {h : FH} {c : Nat} {df : List Nat} {r : Rt FH} (e : f4_S G t0 t1 t2 h c = some r) : G (.fn 4) [t0, t1, t2] h c df = some r := runG_fn (a := f4_f) bk_4 rfl (fun args h c => by cases args <;> rfl) rfl ((f4_S_eq G t0 t1 t2 h c).trans e)
/-- sphenoid/sphenoidlaw19.sane -/
noncomputable def f8_S (o : Orc H) (h : H) (c : Nat) : Option (Rt H) :=
 (callF o 28 [(.string (ByteArray.mk #[49, 32, 48, 32, 51, 48, 49, 50, 32, 48, 32, 48, 50, 49, 51, 32, 48, 32, 48, 50, 49, 51, 32, 48, 32, 49, 50, 51, 48]))] h ((c + 1) + 1)).bind fun r0 =>
 (extV r0.1 0).bind fun t16 =>
 (extV r0.1 1).bind fun t17 =>
 (stN (newB r0.2.1 (256 * (c + 1) + 4) [(.slice none 0 0)]) 1 (ptrTo (256 * (c + 1) + 4)) t16).bind fun h2 =>
 (bldV [(.slice none 0 0), (.int .i64 0)] []).bind fun t19 =>
 (callF o 10 [t19] h2 (r0.2.2 + 1)).bind fun r3 =>
 (extV r3.1 0).bind fun t21 =>
 (extV r3.1 1).bind fun t22 =>
 (stN (newB r3.2.1 (256 * r0.2.2 + 5) [(.slice none 0 0)]) 1 (ptrTo (256 * r0.2.2 + 5)) t21).bind fun h5 =>
 (aBinOp P .neq 31 t22 (.int .i64 0)).bind fun t24 =>
 ((gv t24 false).bind fun w => cond w (ret1 h5 (r3.2.2 + 1) (ldN h5 1 (ptrTo (256 * r0.2.2 + 5)))) (some (undef, h5, (r3.2.2 + 1)))).bind fun r6 =>
 ((gv t24 false).bind fun w => cond w (ret1 r6.2.1 r6.2.2 (ldN r6.2.1 1 (ptrTo (256 * (c + 1) + 4)))) (some (undef, r6.2.1, r6.2.2))).bind fun r7 =>
 ((gv t24 false).bind fun w => cond w (callF o 17 [r6.1, r7.1] r7.2.1 r7.2.2) (some (undef, r7.2.1, r7.2.2))).bind fun r8 =>
 ((gv t24 false).bind fun w => cond w (ret1 r8.2.1 r8.2.2 (aUnOp .not r8.1)) (some (undef, r8.2.1, r8.2.2))).bind fun r9 =>
 (pickV t24 (.bool true) r9.1).bind fun t30 =>
 ((gv t30 false).bind fun w => cond w (callF o 29 [(.slice none 0 0), (.int .i64 0), (.int .i64 1), (.int .i64 0)] r9.2.1 r9.2.2) (some (undef, r9.2.1, r9.2.2))).bind fun r10 =>
 ((gv t30 false).bind fun w => cond w (ret1 r10.2.1 r10.2.2 (aUnOp .not r10.1)) (some (undef, r10.2.1, r10.2.2))).bind fun r11 =>
 (pickV t30 (.bool true) r11.1).bind fun t34 =>
 ((gv t34 false).bind fun w => cond w (callF o 29 [(.slice none 0 0), (.int .i64 1), (.int .i64 5), (.int .i64 2)] r11.2.1 r11.2.2) (some (undef, r11.2.1, r11.2.2))).bind fun r12 =>
 ((gv t34 false).bind fun w => cond w (ret1 r12.2.1 r12.2.2 (aUnOp .not r12.1)) (some (undef, r12.2.1, r12.2.2))).bind fun r13 =>
 (pickV t34 (.bool true) r13.1).bind fun t38 =>
 ((gv t38 false).bind fun w => cond w (callF o 29 [(.slice none 0 0), (.int .i64 2), (.int .i64 4), (.int .i64 1)] r13.2.1 r13.2.2) (some (undef, r13.2.1, r13.2.2))).bind fun r14 =>
 ((gv t38 false).bind fun w => cond w (ret1 r14.2.1 r14.2.2 (aUnOp .not r14.1)) (some (undef, r14.2.1, r14.2.2))).bind fun r15 =>
 (pickV t38 (.bool true) r15.1).bind fun t42 =>
 ((gv t42 false).bind fun w => cond w ((bldL [(.int .i64 0)] [(0, 1, (.int .i64 0))]).bind fun cs => some (.slice (some ⟨(256 * r3.2.2 + 21), 0, none⟩) 1 1, newB r15.2.1 (256 * r3.2.2 + 21) cs, r15.2.2)) (some (undef, r15.2.1, r15.2.2))).bind fun r16 =>
 ((gv t42 false).bind fun w => cond w (callF o 29 [r16.1, (.int .i64 0), (.int .i64 0), (.int .i64 1)] r16.2.1 r16.2.2) (some (undef, r16.2.1, r16.2.2))).bind fun r17 =>
 ((gv t42 false).bind fun w => cond w (ret1 r17.2.1 r17.2.2 (aUnOp .not r17.1)) (some (undef, r17.2.1, r17.2.2))).bind fun r18 =>
 (pickV t42 (.bool true) r18.1).bind fun t47 =>
 ((gv t47 false).bind fun w => cond w ((bldL [(.int .i64 0)] [(0, 1, (.int .i64 1))]).bind fun cs => some (.slice (some ⟨(256 * r3.2.2 + 26), 0, none⟩) 1 1, newB r18.2.1 (256 * r3.2.2 + 26) cs, r18.2.2)) (some (undef, r18.2.1, r18.2.2))).bind fun r19 =>
 ((gv t47 false).bind fun w => cond w (callF o 29 [r19.1, (.int .i64 0), (.int .i64 7), (.int .i64 2)] r19.2.1 r19.2.2) (some (undef, r19.2.1, r19.2.2))).bind fun r20 =>
 ((gv t47 false).bind fun w => cond w (ret1 r20.2.1 r20.2.2 (aUnOp .not r20.1)) (some (undef, r20.2.1, r20.2.2))).bind fun r21 =>
 (pickV t47 (.bool true) r21.1).bind fun t52 =>
 boolK t52
 (some { e := .ret, vs := [(.bool false)], h := r21.2.1, c := (r21.2.2 + 1), df := [] })
 ((bldL [(.int .i64 0)] [(0, 1, (.int .i64 0))]).bind fun r22 =>
 (bldV [(.slice none 0 0), (.int .i64 0)] [(0, 1, (.slice (some ⟨(256 * r21.2.2 + 0), 0, none⟩) 1 1))]).bind fun t55 =>
 (callF o 20 [t55] (newB r21.2.1 (256 * r21.2.2 + 0) r22) (r21.2.2 + 1)).bind fun r23 =>
 (extV r23.1 0).bind fun t57 =>
 (extV r23.1 1).bind fun t58 =>
 (extV r23.1 2).bind fun t59 =>
 (extV r23.1 3).bind fun t60 =>
 (callF o 14 [(.int .i64 7), (.int .i64 3)] r23.2.1 (r23.2.2 + 1)).bind fun r24 =>
 (extV r24.1 0).bind fun t63 =>
 (extV r24.1 1).bind fun t64 =>
 (callF o 14 [(.int .i64 5), (.int .i64 4)] r24.2.1 (r24.2.2 + 1)).bind fun r25 =>
 (extV r25.1 0).bind fun t67 =>
 (extV r25.1 1).bind fun t68 =>
 (ldN r25.2.1 1 (ptrTo (256 * (c + 1) + 4))).bind fun t70 =>
 (callF o 24 [t70] r25.2.1 (r25.2.2 + 1)).bind fun r26 =>
 (extV r26.1 0).bind fun t72 =>
 (extV r26.1 1).bind fun t73 =>
 (stN (newB r26.2.1 (256 * r25.2.2 + 5) [(.slice none 0 0), (.int .i64 0)]) 2 (ptrTo (256 * r25.2.2 + 5)) t72).bind fun h28 =>
 (aBinOp P .eql 31 t60 (.int .i64 0)).bind fun t75 =>
 ((gv t75 true).bind fun w => cond w (ret1 h28 (r26.2.2 + 1) (some t64)) (some (undef, h28, (r26.2.2 + 1)))).bind fun r29 =>
 ((gv t75 true).bind fun w => cond w (ret1 r29.2.1 r29.2.2 (aBinOp P .eql 31 r29.1 (.int .i64 0))) (some (undef, r29.2.1, r29.2.2))).bind fun r30 =>
 (pickV t75 r30.1 (.bool false)).bind fun t79 =>
 ((gv t79 true).bind fun w => cond w (ret1 r30.2.1 r30.2.2 (some t68)) (some (undef, r30.2.1, r30.2.2))).bind fun r31 =>
 ((gv t79 true).bind fun w => cond w (ret1 r31.2.1 r31.2.2 (aBinOp P .eql 31 r31.1 (.int .i64 0))) (some (undef, r31.2.1, r31.2.2))).bind fun r32 =>
 (pickV t79 r32.1 (.bool false)).bind fun t83 =>
 ((gv t83 true).bind fun w => cond w (ret1 r32.2.1 r32.2.2 (some t73)) (some (undef, r32.2.1, r32.2.2))).bind fun r33 =>
 ((gv t83 true).bind fun w => cond w (ret1 r33.2.1 r33.2.2 (aBinOp P .eql 31 r33.1 (.int .i64 0))) (some (undef, r33.2.1, r33.2.2))).bind fun r34 =>
 (pickV t83 r34.1 (.bool false)).bind fun t87 =>
 ((gv t87 true).bind fun w => cond w (ret1 r34.2.1 r34.2.2 (some t57)) (some (undef, r34.2.1, r34.2.2))).bind fun r35 =>
 ((gv t87 true).bind fun w => cond w (ret1 r35.2.1 r35.2.2 (aBinOp P .eql 3 r35.1 (.int .i64 1))) (some (undef, r35.2.1, r35.2.2))).bind fun r36 =>
 (pickV t87 r36.1 (.bool false)).bind fun t91 =>
 ((gv t91 true).bind fun w => cond w (ret1 r36.2.1 r36.2.2 (some t58)) (some (undef, r36.2.1, r36.2.2))).bind fun r37 =>
 ((gv t91 true).bind fun w => cond w (ret1 r37.2.1 r37.2.2 (aBinOp P .eql 3 r37.1 (.int .i64 1))) (some (undef, r37.2.1, r37.2.2))).bind fun r38 =>
 (pickV t91 r38.1 (.bool false)).bind fun t95 =>
 ((gv t95 true).bind fun w => cond w (ret1 r38.2.1 r38.2.2 (some t59)) (some (undef, r38.2.1, r38.2.2))).bind fun r39 =>
 ((gv t95 true).bind fun w => cond w (ret1 r39.2.1 r39.2.2 (aBinOp P .eql 3 r39.1 (.int .i64 2))) (some (undef, r39.2.1, r39.2.2))).bind fun r40 =>
 (pickV t95 r40.1 (.bool false)).bind fun t99 =>
 ((gv t99 true).bind fun w => cond w (ret1 r40.2.1 r40.2.2 (some t63)) (some (undef, r40.2.1, r40.2.2))).bind fun r41 =>
 ((gv t99 true).bind fun w => cond w (ret1 r41.2.1 r41.2.2 (aBinOp P .eql 3 r41.1 (.int .i64 2))) (some (undef, r41.2.1, r41.2.2))).bind fun r42 =>
 (pickV t99 r42.1 (.bool false)).bind fun t103 =>
 ((gv t103 true).bind fun w => cond w (ret1 r42.2.1 r42.2.2 (some t67)) (some (undef, r42.2.1, r42.2.2))).bind fun r43 =>
 ((gv t103 true).bind fun w => cond w (ret1 r43.2.1 r43.2.2 (aBinOp P .eql 3 r43.1 (.int .i64 1))) (some (undef, r43.2.1, r43.2.2))).bind fun r44 =>
 (pickV t103 r44.1 (.bool false)).bind fun t107 =>
 ((gv t107 true).bind fun w => cond w (ret1 r44.2.1 r44.2.2 (ldN r44.2.1 2 (ptrTo (256 * r25.2.2 + 5)))) (some (undef, r44.2.1, r44.2.2))).bind fun r45 =>
 ((gv t107 true).bind fun w => cond w (ret1 r45.2.1 r45.2.2 (bldV [(.slice none 0 0), (.int .i64 0)] [])) (some (undef, r45.2.1, r45.2.2))).bind fun r46 =>
 ((gv t107 true).bind fun w => cond w (callF o 25 [r45.1, r46.1] r46.2.1 r46.2.2) (some (undef, r46.2.1, r46.2.2))).bind fun r47 =>
 (pickV t107 r47.1 (.bool false)).bind fun t112 =>
 some { e := .ret, vs := [t112], h := r47.2.1, c := r47.2.2, df := [] })
theorem f8_S_eq (o : Orc H) (h : H) (c : Nat) : jx P o 113 none f8_c (tmOf (List.range 0) []) h c [] (Kfn P Try.f8.results.toList) = f8_S o h c := by kernel_rfl
/-- sphenoid/lens.Make -/
noncomputable def f10_S (o : Orc H) (t0 : Value) (h : H) (c : Nat) : Option (Rt H) :=
 (bif (t0 : Value).cells.toList.all isFlat then
 (ldN (newB (newB h (256 * c + 0) (t0 : Value).cells.toList) (256 * c + 1) [(.slice none 0 0)]) 2 (ptrTo (256 * c + 0))).bind fun t4 =>
 (callF o 30 [t4] (newB (newB h (256 * c + 0) (t0 : Value).cells.toList) (256 * c + 1) [(.slice none 0 0)]) ((c + 1) + 1)).bind fun r0 =>
 (aUnOp .not r0.1).bind fun t6 =>
 boolK t6
 ((bldV [(.slice none 0 0)] []).bind fun t7 =>
 (stN r0.2.1 1 (ptrTo (256 * c + 1)) t7).bind fun h2 =>
 (ldN h2 1 (ptrTo (256 * c + 1))).bind fun v3 =>
 some { e := .ret, vs := [.tuple #[v3, (.int .i64 1)]], h := h2, c := (r0.2.2 + 1), df := [] })
 ((ldN r0.2.1 2 (ptrTo (256 * c + 0))).bind fun t8 =>
 (callF o 31 [t8] r0.2.1 (r0.2.2 + 1)).bind fun r4 =>
 (stN r4.2.1 1 (ptrTo (256 * c + 1)) r4.1).bind fun h6 =>
 (ldN h6 1 (ptrTo (256 * c + 1))).bind fun v7 =>
 some { e := .ret, vs := [.tuple #[v7, (.int .i64 0)]], h := h6, c := r4.2.2, df := [] })
 else none)
theorem f10_S_eq (o : Orc H) (t0 : Value) (h : H) (c : Nat) : jx P o 10 none f10_c (tmOf (List.range 1) [t0]) h c [] (Kfn P Try.f10.results.toList) = f10_S o t0 h c := by kernel_rfl
theorem f10_go {t0 : Value} {h : FH} {c : Nat} {df : List Nat} {r : Rt FH} (e : f10_S G t0 h c = some r) : G (.fn 10) [t0] h c df = some (gcR h c [] r) := runG_fn (a := f10_f) bk_10 rfl (fun args h c => by cases args <;> rfl) rfl ((f10_S_eq G t0 h c).trans e)
/-- sphenoid/lens.Lens -/
noncomputable def f13_S (o : Orc H) (t0 : Value) (h : H) (c : Nat) : Option (Rt H) :=
 (bif (t0 : Value).cells.toList.all isFlat then
 (ldN (newB h (256 * c + 0) (t0 : Value).cells.toList) 2 (ptrTo (256 * c + 0))).bind fun t5 =>
 (callF o 30 [t5] (newB h (256 * c + 0) (t0 : Value).cells.toList) ((c + 1) + 1)).bind fun r0 =>
 (aUnOp .not r0.1).bind fun t7 =>
 boolK t7
 (some { e := .ret, vs := [.tuple #[(.int .i64 0), (.int .i64 0), (.int .i64 1)]], h := r0.2.1, c := (r0.2.2 + 1), df := [] })
 ((ldN r0.2.1 2 (ptrTo (256 * c + 0))).bind fun t9 =>
 (callF o 37 [t9] r0.2.1 (r0.2.2 + 1)).bind fun r1 =>
 (callF o 38 [r1.1] r1.2.1 r1.2.2).bind fun r2 =>
 (extV r2.1 0).bind fun t12 =>
 (extV r2.1 1).bind fun t13 =>
 (aBinOp P .gtr 3 t12 (.int .i64 1000000)).bind fun t15 =>
 boolK t15
  (some { e := .ret, vs := [.tuple #[(.int .i64 0), (.int .i64 0), (.int .i64 2)]], h := r2.2.1, c := ((r2.2.2 + 1) + 1), df := [] })
  (some { e := .ret, vs := [.tuple #[t12, t13, (.int .i64 0)]], h := r2.2.1, c := ((r2.2.2 + 1) + 1), df := [] }))
 else none)
theorem f13_S_eq (o : Orc H) (t0 : Value) (h : H) (c : Nat) : jx P o 18 none f13_c (tmOf (List.range 1) [t0]) h c [] (Kfn P Try.f13.results.toList) = f13_S o t0 h c := by kernel_rfl
theorem f13_go {t0 : Value} {h : FH} {c : Nat} {df : List Nat} {r : Rt FH} (e : f13_S G t0 h c = some r) : G (.fn 13) [t0] h c df = some (gcR h c [] r) := runG_fn (a := f13_f) bk_13 rfl (fun args h c => by cases args <;> rfl) rfl ((f13_S_eq G t0 h c).trans e)
/-- sphenoid/lens.Standard -/
noncomputable def f14_S (o : Orc H) (t0 t1 : Value) (h : H) (c : Nat) : Option (Rt H) :=
 (aBinOp P .lss 3 t0 (.int .i64 0)).bind fun t10 =>
 ((gv t10 false).bind fun w => cond w (ret1 h ((c + 1) + 1) (some t0)) (some (undef, h, ((c + 1) + 1)))).bind fun r0 =>
 ((gv t10 false).bind fun w => cond w (ret1 r0.2.1 r0.2.2 (aBinOp P .gtr 3 r0.1 (.int .i64 1000000))) (some (undef, r0.2.1, r0.2.2))).bind fun r1 =>
 (pickV t10 (.bool true) r1.1).bind fun t14 =>
 ((gv t14 false).bind fun w => cond w (ret1 r1.2.1 r1.2.2 (some t1)) (some (undef, r1.2.1, r1.2.2))).bind fun r2 =>
 ((gv t14 false).bind fun w => cond w (ret1 r2.2.1 r2.2.2 (aBinOp P .lss 3 r2.1 (.int .i64 (-1000000)))) (some (undef, r2.2.1, r2.2.2))).bind fun r3 =>
 (pickV t14 (.bool true) r3.1).bind fun t18 =>
 ((gv t18 false).bind fun w => cond w (ret1 r3.2.1 r3.2.2 (some t1)) (some (undef, r3.2.1, r3.2.2))).bind fun r4 =>
 ((gv t18 false).bind fun w => cond w (ret1 r4.2.1 r4.2.2 (aBinOp P .gtr 3 r4.1 (.int .i64 1000000))) (some (undef, r4.2.1, r4.2.2))).bind fun r5 =>
 (pickV t18 (.bool true) r5.1).bind fun t22 =>
 boolK t22
 (some { e := .ret, vs := [.tuple #[(.int .i64 0), (.int .i64 1)]], h := r5.2.1, c := (r5.2.2 + 1), df := [] })
 ((callF o 39 [t0, t1] r5.2.1 (r5.2.2 + 1)).bind fun r6 =>
 (extV r6.1 0).bind fun t27 =>
 (extV r6.1 1).bind fun t28 =>
 (extV r6.1 2).bind fun t29 =>
 (aBinOp P .neq 3 t27 (.int .i64 1)).bind fun t31 =>
 boolK t31
  (some { e := .ret, vs := [.tuple #[(.int .i64 0), (.int .i64 1)]], h := r6.2.1, c := ((r6.2.2 + 1) + 1), df := [] })
  ((callF o 40 [t0, t1] r6.2.1 ((r6.2.2 + 1) + 1)).bind fun r7 =>
  some { e := .ret, vs := [.tuple #[r7.1, (.int .i64 0)]], h := r7.2.1, c := r7.2.2, df := [] }))
theorem f14_S_eq (o : Orc H) (t0 t1 : Value) (h : H) (c : Nat) : jx P o 35 none f14_c (tmOf (List.range 2) [t0, t1]) h c [] (Kfn P Try.f14.results.toList) = f14_S o t0 t1 h c := by kernel_rfl
theorem f14_go {t0 t1 : Value} {h : FH} {c : Nat} {df : List Nat} {r : Rt FH} (e : f14_S G t0 t1 h c = some r) : G (.fn 14) [t0, t1] h c df = some (gcR h c [] r) := runG_fn (a := f14_f) bk_14 rfl (fun args h c => by cases args <;> rfl) rfl ((f14_S_eq G t0 t1 h c).trans e)
noncomputable def f17_L17000 (o : Orc H) (rd : Option Nat) (t2 t3 t4 t5 : Value) (h : H) (c : Nat) (df : List Nat) : Option (Rt H) :=
 (addOff t2 0).bind fun t14 =>
 (ld1 h t14).bind fun t15 =>
 (lenS t15).bind fun t16 =>
 (aBinOp P .lss 3 t5 t16).bind fun t17 =>
 boolK t17
 ((addOff t2 0).bind fun t20 =>
 (ld1 h t20).bind fun t21 =>
 (ixS 20 t21 t5).bind fun t23 =>
 (ldN h 20 t23).bind fun t24 =>
 (addOff t3 0).bind fun t25 =>
 (ld1 h t25).bind fun t26 =>
 (ixS 20 t26 t5).bind fun t28 =>
 (ldN h 20 t28).bind fun t29 =>
 (aBinOp P .neq 90 t24 t29).bind fun t30 =>
 boolK t30
  (some { e := .ret, vs := [t2, t3, (.bool false), t5], h := h, c := (((c + 1) + 1) + 1), df := df })
  ((aBinOp P .add 3 t5 (.int .i64 1)).bind fun t19 =>
  some { e := .normal, vs := [t2, t3, t4, t19], h := h, c := (((c + 1) + 1) + 1), df := df }))
 (some { e := (.exit 0), vs := [t2, t3, t4, t5], h := h, c := (c + 1), df := df })
theorem f17_L17000_eq (o : Orc H) (rd : Option Nat) (t2 t3 t4 t5 : Value) (h : H) (c : Nat) (df : List Nat) : jx P o 31 rd f17_c17000 (tmOf [2, 3, 4, 5] [t2, t3, t4, t5]) h c df (Klp [2, 3, 4, 5]) = f17_L17000 o rd t2 t3 t4 t5 h c df := by kernel_rfl
/-- sphenoid/sphenoidref01.Same -/
noncomputable def f17_S (o : Orc H) (t0 t1 : Value) (h : H) (c : Nat) : Option (Rt H) :=
 (bif (t0 : Value).cells.toList.all isFlat then
 (bif (t1 : Value).cells.toList.all isFlat then
 (addOff (ptrTo (256 * c + 0)) 0).bind fun t6 =>
 (ld1 (newB (newB h (256 * c + 0) (t0 : Value).cells.toList) (256 * c + 1) (t1 : Value).cells.toList) t6).bind fun t7 =>
 (lenS t7).bind fun t8 =>
 (addOff (ptrTo (256 * c + 1)) 0).bind fun t9 =>
 (ld1 (newB (newB h (256 * c + 0) (t0 : Value).cells.toList) (256 * c + 1) (t1 : Value).cells.toList) t9).bind fun t10 =>
 (lenS t10).bind fun t11 =>
 (aBinOp P .neq 3 t8 t11).bind fun t12 =>
 boolK t12
 (some { e := .ret, vs := [(.bool false)], h := (newB (newB h (256 * c + 0) (t0 : Value).cells.toList) (256 * c + 1) (t1 : Value).cells.toList), c := (((c + 1) + 1) + 1), df := [] })
 ((o (f17_k17000 none) [(ptrTo (256 * c + 0)), (ptrTo (256 * c + 1)), (.bool false), (.int .i64 0)] (newB (newB h (256 * c + 0) (t0 : Value).cells.toList) (256 * c + 1) (t1 : Value).cells.toList) (((c + 1) + 1) + 1) []).bind fun r0 =>
 cond (exIs r0.e (.exit 0))
  ((takeAll r0.h r0.df).bind fun h2 =>
  some { e := .ret, vs := [(.bool true)], h := h2, c := (r0.c + 1), df := [] })
  (cond (exIs r0.e .ret)
   ((takeAll r0.h r0.df).bind fun h1 =>
   some { e := .ret, vs := [(r0.v 2)], h := h1, c := r0.c, df := [] })
   (none)))
 else none)
 else none)
theorem f17_S_eq (o : Orc H) (t0 t1 : Value) (h : H) (c : Nat) : jx P o 31 none f17_c (tmOf (List.range 2) [t0, t1]) h c [] (Kfn P Try.f17.results.toList) = f17_S o t0 t1 h c := by kernel_rfl
theorem f17_go {t0 t1 : Value} {h : FH} {c : Nat} {df : List Nat} {r : Rt FH} (e : f17_S G t0 t1 h c = some r) : G (.fn 17) [t0, t1] h c df = some (gcR h c [] r) := runG_fn (a := f17_f) bk_17 rfl (fun args h c => by cases args <;> rfl) rfl ((f17_S_eq G t0 t1 h c).trans e)
theorem f17_N17000 {rd : Option Nat} {t2 t3 t4 t5 : Value} {h : FH} {c : Nat} {df : List Nat} {q r : Rt FH} (e : f17_L17000 G rd t2 t3 t4 t5 h c df = some q) (hq : q.e = .normal) (k : G (f17_k17000 rd) q.vs q.h q.c q.df = some r) : G (f17_k17000 rd) [t2, t3, t4, t5] h c df = some r := runG_lp_next ((f17_L17000_eq G rd t2 t3 t4 t5 h c df).trans e) hq k
theorem f17_Z17000 {rd : Option Nat} {t2 t3 t4 t5 : Value} {h : FH} {c : Nat} {df : List Nat} {q : Rt FH} (e : f17_L17000 G rd t2 t3 t4 t5 h c df = some q) (hq : q.e ≠ .normal) : G (f17_k17000 rd) [t2, t3, t4, t5] h c df = some q := runG_lp_last ((f17_L17000_eq G rd t2 t3 t4 t5 h c df).trans e) hq
/-- sphenoid/lens.Slopes -/
noncomputable def f20_S (o : Orc H) (t0 : Value) (h : H) (c : Nat) : Option (Rt H) :=
 (bif (t0 : Value).cells.toList.all isFlat then
 (ldN (newB h (256 * c + 0) (t0 : Value).cells.toList) 2 (ptrTo (256 * c + 0))).bind fun t7 =>
 (callF o 30 [t7] (newB h (256 * c + 0) (t0 : Value).cells.toList) ((c + 1) + 1)).bind fun r0 =>
 (aUnOp .not r0.1).bind fun t9 =>
 boolK t9
 (some { e := .ret, vs := [.tuple #[(.int .i64 0), (.int .i64 0), (.int .i64 0), (.int .i64 1)]], h := r0.2.1, c := (r0.2.2 + 1), df := [] })
 ((ldN r0.2.1 2 (ptrTo (256 * c + 0))).bind fun t10 =>
 (callF o 37 [t10] r0.2.1 (r0.2.2 + 1)).bind fun r1 =>
 (stN (newB r1.2.1 (256 * r0.2.2 + 2) [(.int .i64 0), (.int .i64 0), (.int .i64 0)]) 3 (ptrTo (256 * r0.2.2 + 2)) r1.1).bind fun h3 =>
 (ixA 3 1 (ptrTo (256 * r0.2.2 + 2)) (.int .i64 0)).bind fun t12 =>
 (ld1 h3 t12).bind fun t13 =>
 (ixA 3 1 (ptrTo (256 * r0.2.2 + 2)) (.int .i64 1)).bind fun t14 =>
 (ld1 h3 t14).bind fun t15 =>
 (ixA 3 1 (ptrTo (256 * r0.2.2 + 2)) (.int .i64 2)).bind fun t16 =>
 (ld1 h3 t16).bind fun t17 =>
 some { e := .ret, vs := [.tuple #[t13, t15, t17, (.int .i64 0)]], h := h3, c := (r1.2.2 + 1), df := [] })
 else none)
theorem f20_S_eq (o : Orc H) (t0 : Value) (h : H) (c : Nat) : jx P o 18 none f20_c (tmOf (List.range 1) [t0]) h c [] (Kfn P Try.f20.results.toList) = f20_S o t0 h c := by kernel_rfl
theorem f20_go {t0 : Value} {h : FH} {c : Nat} {df : List Nat} {r : Rt FH} (e : f20_S G t0 h c = some r) : G (.fn 20) [t0] h c df = some (gcR h c [] r) := runG_fn (a := f20_f) bk_20 rfl (fun args h c => by cases args <;> rfl) rfl ((f20_S_eq G t0 h c).trans e)
end Go.Proofs.Ytdbiilapiloaiaa
