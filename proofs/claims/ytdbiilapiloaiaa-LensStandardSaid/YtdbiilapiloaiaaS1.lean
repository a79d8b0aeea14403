/- The shallow texts of the functions, with their equations. Printed by a program. -/
import Derived.Test.YtdbiilapiloaiaaK
set_option linter.all false
namespace Go.Proofs.Ytdbiilapiloaiaa
open Go Go.Ab Go.Proofs
set_option maxRecDepth 100000
set_option linter.unusedVariables false
variable {H : Type} [HeapC H]
noncomputable def f24_R24000 (o : Orc H) (l : Nat) (t43 t2 t3 t5 : Value) (h : H) (c : Nat) : Option (Rt H) :=
 (stN (newB h (256 * c + 0) [(.slice none 0 0), (.int .i64 0)]) 2 (ptrTo (256 * c + 0)) t43).bind fun h1 =>
 (beginSt h1 l).bind fun h2 =>
 (ldN h2 2 (ptrTo (256 * c + 0))).bind fun t45 =>
 (callF o 31 [t45] h2 ((c + 1) + 1)).bind fun r3 =>
 (callF o 49 [r3.1] r3.2.1 r3.2.2).bind fun r4 =>
 (extV r4.1 0).bind fun t48 =>
 (extV r4.1 1).bind fun t49 =>
 (extV r4.1 2).bind fun t50 =>
 (stN (newB (newB r4.2.1 (256 * (c + 1) + 7) [(.slice none 0 0)]) (256 * (c + 1) + 8) [(.slice none 0 0), (.slice none 0 0)]) 1 (ptrTo (256 * (c + 1) + 7)) t48).bind fun h6 =>
 (stN h6 2 (ptrTo (256 * (c + 1) + 8)) t49).bind fun h8 =>
 (aBinOp P .eql 31 t50 (.int .i64 0)).bind fun t52 =>
 ((gv t52 true).bind fun w => cond w (ret1 h8 (r4.2.2 + 1) (ldN h8 1 (ptrTo (256 * (c + 1) + 7)))) (some (undef, h8, (r4.2.2 + 1)))).bind fun r9 =>
 ((gv t52 true).bind fun w => cond w (ret1 r9.2.1 r9.2.2 (ldN r9.2.1 1 t5)) (some (undef, r9.2.1, r9.2.2))).bind fun r10 =>
 ((gv t52 true).bind fun w => cond w (callF o 51 [r9.1, r10.1] r10.2.1 r10.2.2) (some (undef, r10.2.1, r10.2.2))).bind fun r11 =>
 (pickV t52 r11.1 (.bool false)).bind fun t57 =>
 boolK t57
 ((ldN r11.2.1 2 (ptrTo (256 * c + 0))).bind fun t58 =>
 (stN r11.2.1 2 t2 t58).bind fun h13 =>
 (stN h13 1 t3 (.int .i64 0)).bind fun h15 =>
 (setState h15 l .done (some .ret)).bind fun h16 =>
 cond (List.isEmpty ([] : List Nat)) (some { e := .ret, vs := [.bool false], h := h16, c := (r11.2.2 + 1), df := [] }) none)
 ((setState r11.2.1 l .ready none).bind fun h17 =>
 cond (List.isEmpty ([] : List Nat)) (some { e := .ret, vs := [.bool true], h := h17, c := r11.2.2, df := [] }) none)
theorem f24_R24000_eq (o : Orc H) (l : Nat) (t43 t2 t3 t5 : Value) (h : H) (c : Nat) : jx P o 60 (some l) f24_a24000 (tmOf ([43] ++ [2, 3, 5]) [t43, t2, t3, t5]) h c [] (rndK P o 60 l f24_c24000) = f24_R24000 o l t43 t2 t3 t5 h c := by kernel_rfl
/-- sphenoid/lens.Recognize -/
noncomputable def f24_S (o : Orc H) (t0 : Value) (h : H) (c : Nat) : Option (Rt H) :=
 (bif (t0 : Value).cells.toList.all isFlat then
 (ldN (newB (newB (newB h (256 * c + 0) (t0 : Value).cells.toList) (256 * c + 1) [(.slice none 0 0), (.int .i64 0)]) (256 * c + 2) [(.int .i64 0)]) 1 (ptrTo (256 * c + 0))).bind fun t12 =>
 (callF o 48 [t12] (newB (newB (newB h (256 * c + 0) (t0 : Value).cells.toList) (256 * c + 1) [(.slice none 0 0), (.int .i64 0)]) (256 * c + 2) [(.int .i64 0)]) ((c + 1) + 1)).bind fun r0 =>
 (aBinOp P .neq 31 r0.1 (.int .i64 0)).bind fun t15 =>
 boolK t15
 ((bldV [(.slice none 0 0), (.int .i64 0)] []).bind fun t16 =>
 (stN r0.2.1 2 (ptrTo (256 * c + 1)) t16).bind fun h2 =>
 (stN h2 1 (ptrTo (256 * c + 2)) r0.1).bind fun h4 =>
 (ldN h4 2 (ptrTo (256 * c + 1))).bind fun v5 =>
 (ld1 h4 (ptrTo (256 * c + 2))).bind fun v6 =>
 some { e := .ret, vs := [.tuple #[v5, v6]], h := h4, c := ((r0.2.2 + 1) + 1), df := [] })
 ((addOff (ptrTo (256 * c + 0)) 0).bind fun t18 =>
 (ld1 r0.2.1 t18).bind fun t19 =>
 (lenS t19).bind fun t20 =>
 (aBinOp P .gtr 3 t20 (.int .i64 6)).bind fun t21 =>
 boolK t21
  ((bldV [(.slice none 0 0), (.int .i64 0)] []).bind fun t22 =>
  (stN r0.2.1 2 (ptrTo (256 * c + 1)) t22).bind fun h8 =>
  (stN h8 1 (ptrTo (256 * c + 2)) (.int .i64 2)).bind fun h10 =>
  (ldN h10 2 (ptrTo (256 * c + 1))).bind fun v11 =>
  (ld1 h10 (ptrTo (256 * c + 2))).bind fun v12 =>
  some { e := .ret, vs := [.tuple #[v11, v12]], h := h10, c := (((r0.2.2 + 1) + 1) + 1), df := [] })
  ((addOff (ptrTo (256 * c + 0)) 0).bind fun t23 =>
  (ld1 r0.2.1 t23).bind fun t24 =>
  (lenS t24).bind fun t25 =>
  (aBinOp P .eql 3 t25 (.int .i64 0)).bind fun t26 =>
  boolK t26
   ((bldV [(.slice none 0 0), (.int .i64 0)] []).bind fun t27 =>
   (stN r0.2.1 2 (ptrTo (256 * c + 1)) t27).bind fun h14 =>
   (stN h14 1 (ptrTo (256 * c + 2)) (.int .i64 3)).bind fun h16 =>
   (ldN h16 2 (ptrTo (256 * c + 1))).bind fun v17 =>
   (ld1 h16 (ptrTo (256 * c + 2))).bind fun v18 =>
   some { e := .ret, vs := [.tuple #[v17, v18]], h := h16, c := ((((r0.2.2 + 1) + 1) + 1) + 1), df := [] })
   ((ldN r0.2.1 1 (ptrTo (256 * c + 0))).bind fun t29 =>
   (callF o 49 [t29] r0.2.1 ((((r0.2.2 + 1) + 1) + 1) + 1)).bind fun r19 =>
   (extV r19.1 0).bind fun t31 =>
   (extV r19.1 1).bind fun t32 =>
   (extV r19.1 2).bind fun t33 =>
   (stN (newB (newB r19.2.1 (256 * (((r0.2.2 + 1) + 1) + 1) + 6) [(.slice none 0 0)]) (256 * (((r0.2.2 + 1) + 1) + 1) + 7) [(.slice none 0 0), (.slice none 0 0)]) 1 (ptrTo (256 * (((r0.2.2 + 1) + 1) + 1) + 6)) t31).bind fun h21 =>
   (stN h21 2 (ptrTo (256 * (((r0.2.2 + 1) + 1) + 1) + 7)) t32).bind fun h23 =>
   (aBinOp P .neq 31 t33 (.int .i64 0)).bind fun t35 =>
   boolK t35
    ((bldV [(.slice none 0 0), (.int .i64 0)] []).bind fun t36 =>
    (stN h23 2 (ptrTo (256 * c + 1)) t36).bind fun h25 =>
    (stN h25 1 (ptrTo (256 * c + 2)) t33).bind fun h27 =>
    (ldN h27 2 (ptrTo (256 * c + 1))).bind fun v28 =>
    (ld1 h27 (ptrTo (256 * c + 2))).bind fun v29 =>
    some { e := .ret, vs := [.tuple #[v28, v29]], h := h27, c := ((r19.2.2 + 1) + 1), df := [] })
    ((addOff (ptrTo (256 * c + 0)) 0).bind fun t38 =>
    (ld1 h23 t38).bind fun t39 =>
    (lenS t39).bind fun t40 =>
    (aBinOp P .sub 3 t40 (.int .i64 1)).bind fun t41 =>
    (callF o 50 [t41] h23 ((r19.2.2 + 1) + 1)).bind fun r30 =>
    (rangeV o 60 none [2, 3, 5] [] #[43] f24_a24000 f24_c24000 r30.1 [(ptrTo (256 * c + 1)), (ptrTo (256 * c + 2)), (ptrTo (256 * (((r0.2.2 + 1) + 1) + 1) + 6))] r30.2.1 r30.2.2 []).bind fun q31 =>
    cond (exIs q31.1 .normal)
     ((bldV [(.slice none 0 0), (.int .i64 0)] []).bind fun t59 =>
     (stN q31.2.1 2 (ptrTo (256 * c + 1)) t59).bind fun h36 =>
     (stN h36 1 (ptrTo (256 * c + 2)) (.int .i64 3)).bind fun h38 =>
     (takeAll h38 q31.2.2.2).bind fun h39 =>
     (ldN h39 2 (ptrTo (256 * c + 1))).bind fun v40 =>
     (ld1 h39 (ptrTo (256 * c + 2))).bind fun v41 =>
     some { e := .ret, vs := [.tuple #[v40, v41]], h := h39, c := (q31.2.2.1 + 1), df := [] })
     (cond (exIs q31.1 .ret)
      ((takeAll q31.2.1 q31.2.2.2).bind fun h32 =>
      (ldN h32 2 (ptrTo (256 * c + 1))).bind fun v33 =>
      (ld1 h32 (ptrTo (256 * c + 2))).bind fun v34 =>
      some { e := .ret, vs := [.tuple #[v33, v34]], h := h32, c := q31.2.2.1, df := [] })
      (none))))))
 else none)
theorem f24_S_eq (o : Orc H) (t0 : Value) (h : H) (c : Nat) : jx P o 60 none f24_c (tmOf (List.range 1) [t0]) h c [] (Kfn P Try.f24.results.toList) = f24_S o t0 h c := by kernel_rfl
theorem f24_go {t0 : Value} {h : FH} {c : Nat} {df : List Nat} {r : Rt FH} (e : f24_S G t0 h c = some r) : G (.fn 24) [t0] h c df = some (gcR h c [] r) := runG_fn (a := f24_f) bk_24 rfl (fun args h c => by cases args <;> rfl) rfl ((f24_S_eq G t0 h c).trans e)
theorem f24_G24000 {t43 t2 t3 t5 : Value} {l : Nat} {h : FH} {c : Nat} {df : List Nat} {r : Rt FH} (e : f24_R24000 G l t43 t2 t3 t5 h c = some r) : G (.rnd 60 [2, 3, 5] [] [43] l f24_a24000 f24_c24000) [t43, t2, t3, t5] h c df = some r := runG_rnd ((f24_R24000_eq G l t43 t2 t3 t5 h c).trans e)
/-- sphenoid/sphenoidref19.Same -/
noncomputable def f25_S (o : Orc H) (t0 t1 : Value) (h : H) (c : Nat) : Option (Rt H) :=
 (bif (t0 : Value).cells.toList.all isFlat then
 (bif (t1 : Value).cells.toList.all isFlat then
 (addOff (ptrTo (256 * c + 0)) 1).bind fun t5 =>
 (ld1 (newB (newB h (256 * c + 0) (t0 : Value).cells.toList) (256 * c + 1) (t1 : Value).cells.toList) t5).bind fun t6 =>
 (addOff (ptrTo (256 * c + 1)) 1).bind fun t7 =>
 (ld1 (newB (newB h (256 * c + 0) (t0 : Value).cells.toList) (256 * c + 1) (t1 : Value).cells.toList) t7).bind fun t8 =>
 (aBinOp P .eql 3 t6 t8).bind fun t9 =>
 ((gv t9 true).bind fun w => cond w (ret1 (newB (newB h (256 * c + 0) (t0 : Value).cells.toList) (256 * c + 1) (t1 : Value).cells.toList) ((c + 1) + 1) (addOff (ptrTo (256 * c + 0)) 0)) (some (undef, (newB (newB h (256 * c + 0) (t0 : Value).cells.toList) (256 * c + 1) (t1 : Value).cells.toList), ((c + 1) + 1)))).bind fun r0 =>
 ((gv t9 true).bind fun w => cond w (ret1 r0.2.1 r0.2.2 (ld1 r0.2.1 r0.1)) (some (undef, r0.2.1, r0.2.2))).bind fun r1 =>
 ((gv t9 true).bind fun w => cond w (ret1 r1.2.1 r1.2.2 (addOff (ptrTo (256 * c + 1)) 0)) (some (undef, r1.2.1, r1.2.2))).bind fun r2 =>
 ((gv t9 true).bind fun w => cond w (ret1 r2.2.1 r2.2.2 (ld1 r2.2.1 r2.1)) (some (undef, r2.2.1, r2.2.2))).bind fun r3 =>
 ((gv t9 true).bind fun w => cond w (callF o 52 [r1.1, r3.1] r3.2.1 r3.2.2) (some (undef, r3.2.1, r3.2.2))).bind fun r4 =>
 (pickV t9 r4.1 (.bool false)).bind fun t16 =>
 some { e := .ret, vs := [t16], h := r4.2.1, c := r4.2.2, df := [] }
 else none)
 else none)
theorem f25_S_eq (o : Orc H) (t0 t1 : Value) (h : H) (c : Nat) : jx P o 17 none f25_c (tmOf (List.range 2) [t0, t1]) h c [] (Kfn P Try.f25.results.toList) = f25_S o t0 t1 h c := by kernel_rfl
theorem f25_go {t0 t1 : Value} {h : FH} {c : Nat} {df : List Nat} {r : Rt FH} (e : f25_S G t0 t1 h c = some r) : G (.fn 25) [t0, t1] h c df = some (gcR h c [] r) := runG_fn (a := f25_f) bk_25 rfl (fun args h c => by cases args <;> rfl) rfl ((f25_S_eq G t0 t1 h c).trans e)
noncomputable def f28_L28002 (o : Orc H) (rd : Option Nat) (t2 t3 t4 t5 t7 t8 t9 t10 t11 t14 : Value) (h : H) (c : Nat) (df : List Nat) : Option (Rt H) :=
 (aBinOp P .lss 3 t14 (.int .i64 4)).bind fun t92 =>
 boolK t92
 ((aBinOp P .add 3 t8 (.int .i64 1)).bind fun t97 =>
 (ixS 1 t4 t97).bind fun t98 =>
 (ld1 h t98).bind fun t99 =>
 (ixStr t99 t14).bind fun t101 =>
 (aBinOp P .lss 5 t101 (.int .u8 48)).bind fun t103 =>
 ((gv t103 false).bind fun w => cond w (ret1 h (((c + 1) + 1) + 1) (some t101)) (some (undef, h, (((c + 1) + 1) + 1)))).bind fun r0 =>
 ((gv t103 false).bind fun w => cond w (ret1 r0.2.1 r0.2.2 (aBinOp P .gtr 5 r0.1 (.int .u8 57))) (some (undef, r0.2.1, r0.2.2))).bind fun r1 =>
 (pickV t103 (.bool true) r1.1).bind fun t107 =>
 boolK t107
  ((bldV [(.slice none 0 0)] []).bind fun t108 =>
  (stN r1.2.1 1 t2 t108).bind fun h3 =>
  some { e := .ret, vs := [t2, (.int .i64 4), t4, t5, t7, t8, t9, t10, t11, t14], h := h3, c := (r1.2.2 + 1), df := df })
  ((aBinOp P .sub 5 t101 (.int .u8 48)).bind fun t112 =>
  (cnvI .i64 t112).bind fun t113 =>
  (ixA 4 5 t10 t11).bind fun t114 =>
  (addOff t114 1).bind fun t115 =>
  (ixA 4 1 t115 t14).bind fun t116 =>
  (stN r1.2.1 1 t116 t113).bind fun h6 =>
  (aBinOp P .add 3 t14 (.int .i64 1)).bind fun t94 =>
  some { e := .normal, vs := [t2, t3, t4, t5, t7, t8, t9, t10, t11, t94], h := h6, c := ((r1.2.2 + 1) + 1), df := df }))
 (some { e := (.exit 4), vs := [t2, t3, t4, t5, t7, t8, t9, t10, t11, t14], h := h, c := (c + 1), df := df })
theorem f28_L28002_eq (o : Orc H) (rd : Option Nat) (t2 t3 t4 t5 t7 t8 t9 t10 t11 t14 : Value) (h : H) (c : Nat) (df : List Nat) : jx P o 135 rd f28_c28002 (tmOf [2, 3, 4, 5, 7, 8, 9, 10, 11, 14] [t2, t3, t4, t5, t7, t8, t9, t10, t11, t14]) h c df (Klp [2, 3, 4, 5, 7, 8, 9, 10, 11, 14]) = f28_L28002 o rd t2 t3 t4 t5 t7 t8 t9 t10 t11 t14 h c df := by kernel_rfl
noncomputable def f28_L28001 (o : Orc H) (rd : Option Nat) (t2 t3 t4 t5 t7 t8 t9 t10 t11 : Value) (h : H) (c : Nat) (df : List Nat) : Option (Rt H) :=
 (aBinOp P .lss 3 t11 (.int .i64 4)).bind fun t42 =>
 boolK t42
 (((lenS t4).bind fun t47 =>
  (aBinOp P .geq 3 t8 t47).bind fun t48 =>
  boolK t48
   ((bldV [(.slice none 0 0)] []).bind fun t49 =>
   (stN h 1 t2 t49).bind fun h1 =>
   some { e := .ret, vs := [t2, (.int .i64 4), t4, t5, t7, t8, t9, t10, t11], h := h1, c := (((c + 1) + 1) + 1), df := df })
   ((ixS 1 t4 t8).bind fun t52 =>
   (ld1 h t52).bind fun t53 =>
   (aBinOp P .eql 9 t53 (.string (ByteArray.mk #[45]))).bind fun t54 =>
   boolK t54
    ((ixA 4 5 t10 t11).bind fun t56 =>
    (addOff t56 0).bind fun t57 =>
    (stN h 1 t57 (.int .i64 (-1))).bind fun h4 =>
    (aBinOp P .add 3 t8 (.int .i64 1)).bind fun t59 =>
    some { e := .normal, vs := [t2, t3, t4, t5, t7, t59, t9, t10, t11], h := h4, c := (((((c + 1) + 1) + 1) + 1) + 1), df := df })
    ((ixS 1 t4 t8).bind fun t63 =>
    (ld1 h t63).bind fun t64 =>
    (callF o 61 [t64] h ((((c + 1) + 1) + 1) + 1)).bind fun r6 =>
    (extV r6.1 0).bind fun t66 =>
    (extV r6.1 1).bind fun t67 =>
    (aUnOp .not t67).bind fun t69 =>
    ((gv t69 false).bind fun w => cond w (ret1 r6.2.1 (r6.2.2 + 1) (some t8)) (some (undef, r6.2.1, (r6.2.2 + 1)))).bind fun r7 =>
    ((gv t69 false).bind fun w => cond w (ret1 r7.2.1 r7.2.2 (aBinOp P .add 3 r7.1 (.int .i64 1))) (some (undef, r7.2.1, r7.2.2))).bind fun r8 =>
    ((gv t69 false).bind fun w => cond w (ret1 r8.2.1 r8.2.2 (some t4)) (some (undef, r8.2.1, r8.2.2))).bind fun r9 =>
    ((gv t69 false).bind fun w => cond w (((lenS r9.1).bind fun v => some (v, r9.2.1)).bind fun r => some (r.1, r.2, r9.2.2)) (some (undef, r9.2.1, r9.2.2))).bind fun r10 =>
    ((gv t69 false).bind fun w => cond w (ret1 r10.2.1 r10.2.2 (aBinOp P .geq 3 r8.1 r10.1)) (some (undef, r10.2.1, r10.2.2))).bind fun r11 =>
    (pickV t69 (.bool true) r11.1).bind fun t76 =>
    ((gv t76 false).bind fun w => cond w (ret1 r11.2.1 r11.2.2 (some t4)) (some (undef, r11.2.1, r11.2.2))).bind fun r12 =>
    ((gv t76 false).bind fun w => cond w (ret1 r12.2.1 r12.2.2 (some t8)) (some (undef, r12.2.1, r12.2.2))).bind fun r13 =>
    ((gv t76 false).bind fun w => cond w (ret1 r13.2.1 r13.2.2 (aBinOp P .add 3 r13.1 (.int .i64 1))) (some (undef, r13.2.1, r13.2.2))).bind fun r14 =>
    ((gv t76 false).bind fun w => cond w (ret1 r14.2.1 r14.2.2 (ixS 1 r12.1 r14.1)) (some (undef, r14.2.1, r14.2.2))).bind fun r15 =>
    ((gv t76 false).bind fun w => cond w (ret1 r15.2.1 r15.2.2 (ld1 r15.2.1 r15.1)) (some (undef, r15.2.1, r15.2.2))).bind fun r16 =>
    ((gv t76 false).bind fun w => cond w (((aLen P r16.2.1 9 r16.1).bind fun v => some (v, r16.2.1)).bind fun r => some (r.1, r.2, r16.2.2)) (some (undef, r16.2.1, r16.2.2))).bind fun r17 =>
    ((gv t76 false).bind fun w => cond w (ret1 r17.2.1 r17.2.2 (aBinOp P .neq 3 r17.1 (.int .i64 4))) (some (undef, r17.2.1, r17.2.2))).bind fun r18 =>
    (pickV t76 (.bool true) r18.1).bind fun t85 =>
    boolK t85
     ((bldV [(.slice none 0 0)] []).bind fun t86 =>
     (stN r18.2.1 1 t2 t86).bind fun h20 =>
     some { e := .ret, vs := [t2, (.int .i64 4), t4, t5, t7, t8, t9, t10, t11], h := h20, c := (r18.2.2 + 1), df := df })
     ((ixA 4 5 t10 t11).bind fun t89 =>
     (addOff t89 0).bind fun t90 =>
     (stN r18.2.1 1 t90 t66).bind fun h23 =>
     (o (f28_k28002 rd) [t2, t3, t4, t5, t7, t8, t9, t10, t11, (.int .i64 0)] h23 ((r18.2.2 + 1) + 1) df).bind fun r24 =>
     cond (exIs r24.e (.exit 4))
      ((aBinOp P .add 3 (r24.v 5) (.int .i64 2)).bind fun t118 =>
      some { e := .normal, vs := [(r24.v 0), (r24.v 1), (r24.v 2), (r24.v 3), (r24.v 4), t118, (r24.v 6), (r24.v 7), (r24.v 8)], h := r24.h, c := (r24.c + 1), df := r24.df })
      (cond (exIs r24.e .ret)
       (some { e := .ret, vs := [(r24.v 0), (r24.v 1), (r24.v 2), (r24.v 3), (r24.v 4), (r24.v 5), (r24.v 6), (r24.v 7), (r24.v 8)], h := r24.h, c := r24.c, df := r24.df })
       (none))))) : Option (Rt H)).bind fun r26 =>
 cond (exIs r26.e .ret)
  (some { e := .ret, vs := [(r26.v 0), (r26.v 1), (r26.v 2), (r26.v 3), (r26.v 4), (r26.v 5), (r26.v 6), (r26.v 7), (r26.v 8)], h := r26.h, c := r26.c, df := r26.df })
  (cond (exIs r26.e .normal)
   ((aBinOp P .add 3 (r26.v 8) (.int .i64 1)).bind fun t44 =>
   some { e := .normal, vs := [(r26.v 0), (r26.v 1), (r26.v 2), (r26.v 3), (r26.v 4), (r26.v 5), (r26.v 6), (r26.v 7), t44], h := r26.h, c := (r26.c + 1), df := r26.df })
   (none)))
 (some { e := (.exit 2), vs := [t2, t3, t4, t5, t7, t8, t9, t10, t11], h := h, c := (c + 1), df := df })
theorem f28_L28001_eq (o : Orc H) (rd : Option Nat) (t2 t3 t4 t5 t7 t8 t9 t10 t11 : Value) (h : H) (c : Nat) (df : List Nat) : jx P o 135 rd f28_c28001 (tmOf [2, 3, 4, 5, 7, 8, 9, 10, 11] [t2, t3, t4, t5, t7, t8, t9, t10, t11]) h c df (Klp [2, 3, 4, 5, 7, 8, 9, 10, 11]) = f28_L28001 o rd t2 t3 t4 t5 t7 t8 t9 t10 t11 h c df := by kernel_rfl
noncomputable def f28_L28000 (o : Orc H) (rd : Option Nat) (t2 t3 t4 t5 t7 t8 t9 : Value) (h : H) (c : Nat) (df : List Nat) : Option (Rt H) :=
 (aBinOp P .lss 3 t9 t5).bind fun t38 =>
 boolK t38
 ((o (f28_k28001 rd) [t2, t3, t4, t5, t7, t8, t9, (ptrTo (256 * (c + 1) + 0)), (.int .i64 0)] (newB h (256 * (c + 1) + 0) [(.int .i64 0), (.int .i64 0), (.int .i64 0), (.int .i64 0), (.int .i64 0), (.int .i64 0), (.int .i64 0), (.int .i64 0), (.int .i64 0), (.int .i64 0), (.int .i64 0), (.int .i64 0), (.int .i64 0), (.int .i64 0), (.int .i64 0), (.int .i64 0), (.int .i64 0), (.int .i64 0), (.int .i64 0), (.int .i64 0)]) (((c + 1) + 1) + 1) df).bind fun r0 =>
 cond (exIs r0.e (.exit 2))
  ((addOff (r0.v 4) 0).bind fun t119 =>
  (ld1 r0.h t119).bind fun t120 =>
  (ldN r0.h 20 (r0.v 7)).bind fun t121 =>
  (bldL [(.int .i64 0), (.int .i64 0), (.int .i64 0), (.int .i64 0), (.int .i64 0), (.int .i64 0), (.int .i64 0), (.int .i64 0), (.int .i64 0), (.int .i64 0), (.int .i64 0), (.int .i64 0), (.int .i64 0), (.int .i64 0), (.int .i64 0), (.int .i64 0), (.int .i64 0), (.int .i64 0), (.int .i64 0), (.int .i64 0)] [(0, 20, t121)]).bind fun r1 =>
  (appV (newB r0.h (256 * r0.c + 3) r1) (256 * r0.c + 4) 20 160 t120 (.slice (some ⟨(256 * r0.c + 3), 0, none⟩) 1 1)).bind fun r2 =>
  (addOff (r0.v 4) 0).bind fun t124 =>
  (stN r2.2 1 t124 r2.1).bind fun h4 =>
  (aBinOp P .add 3 (r0.v 6) (.int .i64 1)).bind fun t40 =>
  some { e := .normal, vs := [(r0.v 0), (r0.v 1), (r0.v 2), (r0.v 3), (r0.v 4), (r0.v 5), t40], h := h4, c := ((r0.c + 1) + 1), df := r0.df })
  (cond (exIs r0.e .ret)
   (some { e := .ret, vs := [(r0.v 0), (r0.v 1), (r0.v 2), (r0.v 3), (r0.v 4), (r0.v 5), (r0.v 6)], h := r0.h, c := r0.c, df := r0.df })
   (none)))
 (some { e := (.exit 0), vs := [t2, t3, t4, t5, t7, t8, t9], h := h, c := (c + 1), df := df })
theorem f28_L28000_eq (o : Orc H) (rd : Option Nat) (t2 t3 t4 t5 t7 t8 t9 : Value) (h : H) (c : Nat) (df : List Nat) : jx P o 135 rd f28_c28000 (tmOf [2, 3, 4, 5, 7, 8, 9] [t2, t3, t4, t5, t7, t8, t9]) h c df (Klp [2, 3, 4, 5, 7, 8, 9]) = f28_L28000 o rd t2 t3 t4 t5 t7 t8 t9 h c df := by kernel_rfl
/-- sphenoid/sphenoidref01.Parse -/
noncomputable def f28_S (o : Orc H) (t0 : Value) (h : H) (c : Nat) : Option (Rt H) :=
 (aLen P (newB h (256 * c + 0) [(.slice none 0 0)]) 9 t0).bind fun t17 =>
 (aBinOp P .gtr 3 t17 (.int .i64 200000)).bind fun t18 =>
 boolK t18
 ((bldV [(.slice none 0 0)] []).bind fun t19 =>
 (stN (newB h (256 * c + 0) [(.slice none 0 0)]) 1 (ptrTo (256 * c + 0)) t19).bind fun h1 =>
 (ldN h1 1 (ptrTo (256 * c + 0))).bind fun v2 =>
 some { e := .ret, vs := [.tuple #[v2, (.int .i64 2)]], h := h1, c := (((c + 1) + 1) + 1), df := [] })
 ((callF o 60 [t0] (newB h (256 * c + 0) [(.slice none 0 0)]) (((c + 1) + 1) + 1)).bind fun r3 =>
 (lenS r3.1).bind fun t23 =>
 (aBinOp P .eql 3 t23 (.int .i64 0)).bind fun t24 =>
 boolK t24
  ((bldV [(.slice none 0 0)] []).bind fun t25 =>
  (stN r3.2.1 1 (ptrTo (256 * c + 0)) t25).bind fun h5 =>
  (ldN h5 1 (ptrTo (256 * c + 0))).bind fun v6 =>
  some { e := .ret, vs := [.tuple #[v6, (.int .i64 4)]], h := h5, c := ((r3.2.2 + 1) + 1), df := [] })
  ((ixS 1 r3.1 (.int .i64 0)).bind fun t28 =>
  (ld1 r3.2.1 t28).bind fun t29 =>
  (callF o 61 [t29] r3.2.1 ((r3.2.2 + 1) + 1)).bind fun r7 =>
  (extV r7.1 0).bind fun t31 =>
  (extV r7.1 1).bind fun t32 =>
  (aUnOp .not t32).bind fun t34 =>
  boolK t34
   ((bldV [(.slice none 0 0)] []).bind fun t35 =>
   (stN r7.2.1 1 (ptrTo (256 * c + 0)) t35).bind fun h9 =>
   (ldN h9 1 (ptrTo (256 * c + 0))).bind fun v10 =>
   some { e := .ret, vs := [.tuple #[v10, (.int .i64 4)]], h := h9, c := ((r7.2.2 + 1) + 1), df := [] })
   ((o (f28_k28000 none) [(ptrTo (256 * c + 0)), (.int .i64 0), r3.1, t31, (ptrTo (256 * (r7.2.2 + 1) + 0)), (.int .i64 1), (.int .i64 0)] (newB r7.2.1 (256 * (r7.2.2 + 1) + 0) [(.slice none 0 0)]) ((((r7.2.2 + 1) + 1) + 1) + 1) []).bind fun r11 =>
   cond (exIs r11.e (.exit 0))
    ((lenS (r11.v 2)).bind fun t127 =>
    (aBinOp P .neq 3 (r11.v 5) t127).bind fun t128 =>
    boolK t128
     ((bldV [(.slice none 0 0)] []).bind fun t129 =>
     (stN r11.h 1 (r11.v 0) t129).bind fun h15 =>
     (takeAll h15 r11.df).bind fun h16 =>
     (ldN h16 1 (r11.v 0)).bind fun v17 =>
     some { e := .ret, vs := [.tuple #[v17, (.int .i64 4)]], h := h16, c := ((r11.c + 1) + 1), df := [] })
     ((ldN r11.h 1 (r11.v 4)).bind fun t130 =>
     (callF o 32 [t130] r11.h ((r11.c + 1) + 1)).bind fun r18 =>
     (aBinOp P .neq 31 r18.1 (.int .i64 0)).bind fun t132 =>
     boolK t132
      ((bldV [(.slice none 0 0)] []).bind fun t133 =>
      (stN r18.2.1 1 (r11.v 0) t133).bind fun h20 =>
      (takeAll h20 r11.df).bind fun h21 =>
      (ldN h21 1 (r11.v 0)).bind fun v22 =>
      some { e := .ret, vs := [.tuple #[v22, (.int .i64 7)]], h := h21, c := (r18.2.2 + 1), df := [] })
      ((ldN r18.2.1 1 (r11.v 4)).bind fun t134 =>
      (stN r18.2.1 1 (r11.v 0) t134).bind fun h24 =>
      (takeAll h24 r11.df).bind fun h25 =>
      (ldN h25 1 (r11.v 0)).bind fun v26 =>
      some { e := .ret, vs := [.tuple #[v26, (.int .i64 0)]], h := h25, c := (r18.2.2 + 1), df := [] })))
    (cond (exIs r11.e .ret)
     ((takeAll r11.h r11.df).bind fun h12 =>
     (ldN h12 1 (r11.v 0)).bind fun v13 =>
     some { e := .ret, vs := [.tuple #[v13, (r11.v 1)]], h := h12, c := r11.c, df := [] })
     (none)))))
theorem f28_S_eq (o : Orc H) (t0 : Value) (h : H) (c : Nat) : jx P o 135 none f28_c (tmOf (List.range 1) [t0]) h c [] (Kfn P Try.f28.results.toList) = f28_S o t0 h c := by kernel_rfl
theorem f28_go {t0 : Value} {h : FH} {c : Nat} {df : List Nat} {r : Rt FH} (e : f28_S G t0 h c = some r) : G (.fn 28) [t0] h c df = some (gcR h c [] r) := runG_fn (a := f28_f) bk_28 rfl (fun args h c => by cases args <;> rfl) rfl ((f28_S_eq G t0 h c).trans e)
theorem f28_N28002 {rd : Option Nat} {t2 t3 t4 t5 t7 t8 t9 t10 t11 t14 : Value} {h : FH} {c : Nat} {df : List Nat} {q r : Rt FH} (e : f28_L28002 G rd t2 t3 t4 t5 t7 t8 t9 t10 t11 t14 h c df = some q) (hq : q.e = .normal) (k : G (f28_k28002 rd) q.vs q.h q.c q.df = some r) : G (f28_k28002 rd) [t2, t3, t4, t5, t7, t8, t9, t10, t11, t14] h c df = some r := runG_lp_next ((f28_L28002_eq G rd t2 t3 t4 t5 t7 t8 t9 t10 t11 t14 h c df).trans e) hq k
theorem f28_Z28002 {rd : Option Nat} {t2 t3 t4 t5 t7 t8 t9 t10 t11 t14 : Value} {h : FH} {c : Nat} {df : List Nat} {q : Rt FH} (e : f28_L28002 G rd t2 t3 t4 t5 t7 t8 t9 t10 t11 t14 h c df = some q) (hq : q.e ≠ .normal) : G (f28_k28002 rd) [t2, t3, t4, t5, t7, t8, t9, t10, t11, t14] h c df = some q := runG_lp_last ((f28_L28002_eq G rd t2 t3 t4 t5 t7 t8 t9 t10 t11 t14 h c df).trans e) hq
theorem f28_N28001 {rd : Option Nat} {t2 t3 t4 t5 t7 t8 t9 t10 t11 : Value} {h : FH} {c : Nat} {df : List Nat} {q r : Rt FH} (e : f28_L28001 G rd t2 t3 t4 t5 t7 t8 t9 t10 t11 h c df = some q) (hq : q.e = .normal) (k : G (f28_k28001 rd) q.vs q.h q.c q.df = some r) : G (f28_k28001 rd) [t2, t3, t4, t5, t7, t8, t9, t10, t11] h c df = some r := runG_lp_next ((f28_L28001_eq G rd t2 t3 t4 t5 t7 t8 t9 t10 t11 h c df).trans e) hq k
theorem f28_Z28001 {rd : Option Nat} {t2 t3 t4 t5 t7 t8 t9 t10 t11 : Value} {h : FH} {c : Nat} {df : List Nat} {q : Rt FH} (e : f28_L28001 G rd t2 t3 t4 t5 t7 t8 t9 t10 t11 h c df = some q) (hq : q.e ≠ .normal) : G (f28_k28001 rd) [t2, t3, t4, t5, t7, t8, t9, t10, t11] h c df = some q := runG_lp_last ((f28_L28001_eq G rd t2 t3 t4 t5 t7 t8 t9 t10 t11 h c df).trans e) hq
theorem f28_N28000 {rd : Option Nat} {t2 t3 t4 t5 t7 t8 t9 : Value} {h : FH} {c : Nat} {df : List Nat} {q r : Rt FH} (e : f28_L28000 G rd t2 t3 t4 t5 t7 t8 t9 h c df = some q) (hq : q.e = .normal) (k : G (f28_k28000 rd) q.vs q.h q.c q.df = some r) : G (f28_k28000 rd) [t2, t3, t4, t5, t7, t8, t9] h c df = some r := runG_lp_next ((f28_L28000_eq G rd t2 t3 t4 t5 t7 t8 t9 h c df).trans e) hq k
theorem f28_Z28000 {rd : Option Nat} {t2 t3 t4 t5 t7 t8 t9 : Value} {h : FH} {c : Nat} {df : List Nat} {q : Rt FH} (e : f28_L28000 G rd t2 t3 t4 t5 t7 t8 t9 h c df = some q) (hq : q.e ≠ .normal) : G (f28_k28000 rd) [t2, t3, t4, t5, t7, t8, t9] h c df = some q := runG_lp_last ((f28_L28000_eq G rd t2 t3 t4 t5 t7 t8 t9 h c df).trans e) hq
/-- sphenoid/sphenoidlaw19.is -/
noncomputable def f29_S (o : Orc H) (t0 t1 t2 t3 : Value) (h : H) (c : Nat) : Option (Rt H) :=
 (bldV [(.slice none 0 0), (.int .i64 0)] [(0, 1, t0), (1, 1, t1)]).bind fun t15 =>
 (callF o 13 [t15] h ((c + 1) + 1)).bind fun r0 =>
 (extV r0.1 0).bind fun t17 =>
 (extV r0.1 1).bind fun t18 =>
 (extV r0.1 2).bind fun t19 =>
 (aBinOp P .eql 31 t19 (.int .i64 0)).bind fun t21 =>
 ((gv t21 true).bind fun w => cond w (ret1 r0.2.1 (r0.2.2 + 1) (some t17)) (some (undef, r0.2.1, (r0.2.2 + 1)))).bind fun r1 =>
 ((gv t21 true).bind fun w => cond w (ret1 r1.2.1 r1.2.2 (some t2)) (some (undef, r1.2.1, r1.2.2))).bind fun r2 =>
 ((gv t21 true).bind fun w => cond w (ret1 r2.2.1 r2.2.2 (aBinOp P .eql 3 r1.1 r2.1)) (some (undef, r2.2.1, r2.2.2))).bind fun r3 =>
 (pickV t21 r3.1 (.bool false)).bind fun t26 =>
 ((gv t26 true).bind fun w => cond w (ret1 r3.2.1 r3.2.2 (some t18)) (some (undef, r3.2.1, r3.2.2))).bind fun r4 =>
 ((gv t26 true).bind fun w => cond w (ret1 r4.2.1 r4.2.2 (some t3)) (some (undef, r4.2.1, r4.2.2))).bind fun r5 =>
 ((gv t26 true).bind fun w => cond w (ret1 r5.2.1 r5.2.2 (aBinOp P .eql 3 r4.1 r5.1)) (some (undef, r5.2.1, r5.2.2))).bind fun r6 =>
 (pickV t26 r6.1 (.bool false)).bind fun t31 =>
 some { e := .ret, vs := [t31], h := r6.2.1, c := r6.2.2, df := [] }
theorem f29_S_eq (o : Orc H) (t0 t1 t2 t3 : Value) (h : H) (c : Nat) : jx P o 32 none f29_c (tmOf (List.range 4) [t0, t1, t2, t3]) h c [] (Kfn P Try.f29.results.toList) = f29_S o t0 t1 t2 t3 h c := by kernel_rfl
theorem f29_go {t0 t1 t2 t3 : Value} {h : FH} {c : Nat} {df : List Nat} {r : Rt FH} (e : f29_S G t0 t1 t2 t3 h c = some r) : G (.fn 29) [t0, t1, t2, t3] h c df = some (gcR h c [] r) := runG_fn (a := f29_f) bk_29 rfl (fun args h c => by cases args <;> rfl) rfl ((f29_S_eq G t0 t1 t2 t3 h c).trans e)
noncomputable def f30_L30000 (o : Orc H) (rd : Option Nat) (t1 t2 t10 t11 t12 : Value) (h : H) (c : Nat) (df : List Nat) : Option (Rt H) :=
 (aBinOp P .lss 3 t12 t11).bind fun t13 =>
 boolK t13
 ((ixS 1 t10 t12).bind fun t14 =>
 (ld1 h t14).bind fun t15 =>
 (aBinOp P .lss 3 t15 (.int .i64 0)).bind fun t17 =>
 ((gv t17 false).bind fun w => cond w (ret1 h (((c + 1) + 1) + 1) (some t15)) (some (undef, h, (((c + 1) + 1) + 1)))).bind fun r0 =>
 ((gv t17 false).bind fun w => cond w (ret1 r0.2.1 r0.2.2 (aBinOp P .gtr 3 r0.1 (.int .i64 2))) (some (undef, r0.2.1, r0.2.2))).bind fun r1 =>
 (pickV t17 (.bool true) r1.1).bind fun t21 =>
 boolK t21
  (some { e := .ret, vs := [t1, (.bool false), t10, t11, t12], h := r1.2.1, c := (r1.2.2 + 1), df := df })
  ((aBinOp P .add 3 t12 (.int .i64 1)).bind fun t22 =>
  some { e := .normal, vs := [t1, t2, t10, t11, t22], h := r1.2.1, c := (r1.2.2 + 1), df := df }))
 (some { e := (.exit 0), vs := [t1, t2, t10, t11, t12], h := h, c := (c + 1), df := df })
theorem f30_L30000_eq (o : Orc H) (rd : Option Nat) (t1 t2 t10 t11 t12 : Value) (h : H) (c : Nat) (df : List Nat) : jx P o 27 rd f30_c30000 (tmOf [1, 2, 10, 11, 12] [t1, t2, t10, t11, t12]) h c df (Klp [1, 2, 10, 11, 12]) = f30_L30000 o rd t1 t2 t10 t11 t12 h c df := by kernel_rfl
/-- sphenoid/lens.valid -/
noncomputable def f30_S (o : Orc H) (t0 : Value) (h : H) (c : Nat) : Option (Rt H) :=
 (bif (t0 : Value).cells.toList.all isFlat then
 (addOff (ptrTo (256 * c + 0)) 1).bind fun t5 =>
 (ld1 (newB h (256 * c + 0) (t0 : Value).cells.toList) t5).bind fun t6 =>
 (bldL [(.int .i64 0)] [(0, 1, t6)]).bind fun r0 =>
 (addOff (ptrTo (256 * c + 0)) 0).bind fun t8 =>
 (ld1 (newB (newB h (256 * c + 0) (t0 : Value).cells.toList) (256 * (c + 1) + 2) r0) t8).bind fun t9 =>
 (appV (newB (newB h (256 * c + 0) (t0 : Value).cells.toList) (256 * (c + 1) + 2) r0) (256 * (c + 1) + 5) 1 8 (.slice (some ⟨(256 * (c + 1) + 2), 0, none⟩) 1 1) t9).bind fun r1 =>
 (lenS r1.1).bind fun t11 =>
 (o (f30_k30000 none) [(ptrTo (256 * c + 0)), (.bool false), r1.1, t11, (.int .i64 0)] r1.2 ((c + 1) + 1) []).bind fun r2 =>
 cond (exIs r2.e (.exit 0))
 ((addOff (r2.v 0) 0).bind fun t23 =>
 (ld1 r2.h t23).bind fun t24 =>
 (lenS t24).bind fun t25 =>
 (aBinOp P .leq 3 t25 (.int .i64 40)).bind fun t26 =>
 (takeAll r2.h r2.df).bind fun h4 =>
 some { e := .ret, vs := [t26], h := h4, c := (r2.c + 1), df := [] })
 (cond (exIs r2.e .ret)
  ((takeAll r2.h r2.df).bind fun h3 =>
  some { e := .ret, vs := [(r2.v 1)], h := h3, c := r2.c, df := [] })
  (none))
 else none)
theorem f30_S_eq (o : Orc H) (t0 : Value) (h : H) (c : Nat) : jx P o 27 none f30_c (tmOf (List.range 1) [t0]) h c [] (Kfn P Try.f30.results.toList) = f30_S o t0 h c := by kernel_rfl
theorem f30_go {t0 : Value} {h : FH} {c : Nat} {df : List Nat} {r : Rt FH} (e : f30_S G t0 h c = some r) : G (.fn 30) [t0] h c df = some (gcR h c [] r) := runG_fn (a := f30_f) bk_30 rfl (fun args h c => by cases args <;> rfl) rfl ((f30_S_eq G t0 h c).trans e)
theorem f30_N30000 {rd : Option Nat} {t1 t2 t10 t11 t12 : Value} {h : FH} {c : Nat} {df : List Nat} {q r : Rt FH} (e : f30_L30000 G rd t1 t2 t10 t11 t12 h c df = some q) (hq : q.e = .normal) (k : G (f30_k30000 rd) q.vs q.h q.c q.df = some r) : G (f30_k30000 rd) [t1, t2, t10, t11, t12] h c df = some r := runG_lp_next ((f30_L30000_eq G rd t1 t2 t10 t11 t12 h c df).trans e) hq k
theorem f30_Z30000 {rd : Option Nat} {t1 t2 t10 t11 t12 : Value} {h : FH} {c : Nat} {df : List Nat} {q : Rt FH} (e : f30_L30000 G rd t1 t2 t10 t11 t12 h c df = some q) (hq : q.e ≠ .normal) : G (f30_k30000 rd) [t1, t2, t10, t11, t12] h c df = some q := runG_lp_last ((f30_L30000_eq G rd t1 t2 t10 t11 t12 h c df).trans e) hq
/-- sphenoid/lens.closed -/
noncomputable def f31_S (o : Orc H) (t0 : Value) (h : H) (c : Nat) : Option (Rt H) :=
 (bif (t0 : Value).cells.toList.all isFlat then
 (ldN (newB (newB h (256 * c + 0) (t0 : Value).cells.toList) (256 * c + 1) [(.slice none 0 0)]) 2 (ptrTo (256 * c + 0))).bind fun t4 =>
 (callF o 42 [t4] (newB (newB h (256 * c + 0) (t0 : Value).cells.toList) (256 * c + 1) [(.slice none 0 0)]) ((c + 1) + 1)).bind fun r0 =>
 (addOff (ptrTo (256 * c + 0)) 1).bind fun t7 =>
 (ld1 r0.2.1 t7).bind fun t8 =>
 (callF o 62 [r0.1, t8] r0.2.1 (r0.2.2 + 1)).bind fun r1 =>
 (aNilCheck r0.1).bind fun t12 =>
 (addOff t12 1).bind fun t13 =>
 (addOff t13 0).bind fun t14 =>
 (ldN r1.2.1 4 t14).bind fun t15 =>
 (aNilCheck r0.1).bind fun t17 =>
 (addOff t17 1).bind fun t18 =>
 (addOff t18 4).bind fun t19 =>
 (ldN r1.2.1 4 t19).bind fun t20 =>
 (callF o 63 [r0.1, t15, t20] r1.2.1 (r1.2.2 + 1)).bind fun r2 =>
 (aNilCheck r0.1).bind fun t23 =>
 (addOff t23 0).bind fun t24 =>
 (ldN r2.2.1 1 t24).bind fun t25 =>
 (stN r2.2.1 1 (ptrTo (256 * c + 1)) t25).bind fun h4 =>
 (ldN h4 1 (ptrTo (256 * c + 1))).bind fun v5 =>
 some { e := .ret, vs := [v5], h := h4, c := (r2.2.2 + 1), df := [] }
 else none)
theorem f31_S_eq (o : Orc H) (t0 : Value) (h : H) (c : Nat) : jx P o 26 none f31_c (tmOf (List.range 1) [t0]) h c [] (Kfn P Try.f31.results.toList) = f31_S o t0 h c := by kernel_rfl
theorem f31_go {t0 : Value} {h : FH} {c : Nat} {df : List Nat} {r : Rt FH} (e : f31_S G t0 h c = some r) : G (.fn 31) [t0] h c df = some (gcR h c [] r) := runG_fn (a := f31_f) bk_31 rfl (fun args h c => by cases args <;> rfl) rfl ((f31_S_eq G t0 h c).trans e)
end Go.Proofs.Ytdbiilapiloaiaa
