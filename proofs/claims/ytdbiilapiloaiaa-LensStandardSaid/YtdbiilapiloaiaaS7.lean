/- The shallow texts of the functions, with their equations. Printed by a program. -/
import Derived.Test.YtdbiilapiloaiaaK
set_option linter.all false
namespace Go.Proofs.Ytdbiilapiloaiaa
open Go Go.Ab Go.Proofs
set_option maxRecDepth 100000
set_option linter.unusedVariables false
variable {H : Type} [HeapC H]
noncomputable def f109_L109000 (o : Orc H) (rd : Option Nat) (t0 t1 t4 t10 t11 : Value) (h : H) (c : Nat) (df : List Nat) : Option (Rt H) :=
 (aBinOp P .lss 3 t10 t11).bind fun t33 =>
 boolK t33
 ((aBinOp P .add 3 t10 t11).bind fun t36 =>
 (cnvI .u64 t36).bind fun t37 =>
 (aBinOp P .shr 175 t37 (.int .u64 1)).bind fun t38 =>
 (cnvI .i64 t38).bind fun t39 =>
 (ixS 1 t0 t39).bind fun t43 =>
 (ld1 h t43).bind fun t44 =>
 (ixS 1 t0 t1).bind fun t47 =>
 (ld1 h t47).bind fun t48 =>
 (callV o h (((c + 1) + 1) + 1) t4 [t44, t48]).bind fun r0 =>
 (aBinOp P .lss 3 r0.1 (.int .i64 0)).bind fun t50 =>
 (boolK t50
   ((aBinOp P .add 3 t39 (.int .i64 1)).bind fun t52 =>
   some { e := .normal, vs := [t0, t1, t4, t52, t11], h := r0.2.1, c := (r0.2.2 + 1), df := df })
   (some { e := .normal, vs := [t0, t1, t4, t10, t39], h := r0.2.1, c := (r0.2.2 + 1), df := df }) : Option (Rt H)).bind fun r3 =>
 cond (exIs r3.e .normal)
  (some { e := .normal, vs := [(r3.v 0), (r3.v 1), (r3.v 2), (r3.v 3), (r3.v 4)], h := r3.h, c := r3.c, df := r3.df })
  (none))
 (some { e := (.exit 0), vs := [t0, t1, t4, t10, t11], h := h, c := (c + 1), df := df })
theorem f109_L109000_eq (o : Orc H) (rd : Option Nat) (t0 t1 t4 t10 t11 : Value) (h : H) (c : Nat) (df : List Nat) : jx P o 220 rd f109_c109000 (tmOf [0, 1, 4, 10, 11] [t0, t1, t4, t10, t11]) h c df (Klp [0, 1, 4, 10, 11]) = f109_L109000 o rd t0 t1 t4 t10 t11 h c df := by kernel_rfl
noncomputable def f109_L109001 (o : Orc H) (rd : Option Nat) (t0 t10 t13 : Value) (h : H) (c : Nat) (df : List Nat) : Option (Rt H) :=
 (aBinOp P .sub 3 t10 (.int .i64 1)).bind fun t57 =>
 (aBinOp P .lss 3 t13 t57).bind fun t58 =>
 boolK t58
 ((aBinOp P .add 3 t13 (.int .i64 1)).bind fun t65 =>
 (aBinOp P .add 3 t13 (.int .i64 1)).bind fun t68 =>
 (ixS 1 t0 t68).bind fun t69 =>
 (ld1 h t69).bind fun t70 =>
 (ixS 1 t0 t13).bind fun t73 =>
 (ld1 h t73).bind fun t74 =>
 (ixS 1 t0 t13).bind fun t75 =>
 (stN h 1 t75 t70).bind fun h1 =>
 (ixS 1 t0 t65).bind fun t76 =>
 (stN h1 1 t76 t74).bind fun h3 =>
 (aBinOp P .add 3 t13 (.int .i64 1)).bind fun t60 =>
 some { e := .normal, vs := [t0, t10, t60], h := h3, c := (((c + 1) + 1) + 1), df := df })
 (some { e := (.exit 2), vs := [t0, t10, t13], h := h, c := (c + 1), df := df })
theorem f109_L109001_eq (o : Orc H) (rd : Option Nat) (t0 t10 t13 : Value) (h : H) (c : Nat) (df : List Nat) : jx P o 220 rd f109_c109001 (tmOf [0, 10, 13] [t0, t10, t13]) h c df (Klp [0, 10, 13]) = f109_L109001 o rd t0 t10 t13 h c df := by kernel_rfl
noncomputable def f109_L109002 (o : Orc H) (rd : Option Nat) (t0 t2 t4 t14 t15 : Value) (h : H) (c : Nat) (df : List Nat) : Option (Rt H) :=
 (aBinOp P .lss 3 t14 t15).bind fun t85 =>
 boolK t85
 ((aBinOp P .add 3 t14 t15).bind fun t88 =>
 (cnvI .u64 t88).bind fun t89 =>
 (aBinOp P .shr 175 t89 (.int .u64 1)).bind fun t90 =>
 (cnvI .i64 t90).bind fun t91 =>
 (ixS 1 t0 t2).bind fun t95 =>
 (ld1 h t95).bind fun t96 =>
 (ixS 1 t0 t91).bind fun t99 =>
 (ld1 h t99).bind fun t100 =>
 (callV o h (((c + 1) + 1) + 1) t4 [t96, t100]).bind fun r0 =>
 (aBinOp P .lss 3 r0.1 (.int .i64 0)).bind fun t102 =>
 (aUnOp .not t102).bind fun t103 =>
 (boolK t103
   ((aBinOp P .add 3 t91 (.int .i64 1)).bind fun t105 =>
   some { e := .normal, vs := [t0, t2, t4, t105, t15], h := r0.2.1, c := (r0.2.2 + 1), df := df })
   (some { e := .normal, vs := [t0, t2, t4, t14, t91], h := r0.2.1, c := (r0.2.2 + 1), df := df }) : Option (Rt H)).bind fun r3 =>
 cond (exIs r3.e .normal)
  (some { e := .normal, vs := [(r3.v 0), (r3.v 1), (r3.v 2), (r3.v 3), (r3.v 4)], h := r3.h, c := r3.c, df := r3.df })
  (none))
 (some { e := (.exit 4), vs := [t0, t2, t4, t14, t15], h := h, c := (c + 1), df := df })
theorem f109_L109002_eq (o : Orc H) (rd : Option Nat) (t0 t2 t4 t14 t15 : Value) (h : H) (c : Nat) (df : List Nat) : jx P o 220 rd f109_c109002 (tmOf [0, 2, 4, 14, 15] [t0, t2, t4, t14, t15]) h c df (Klp [0, 2, 4, 14, 15]) = f109_L109002 o rd t0 t2 t4 t14 t15 h c df := by kernel_rfl
noncomputable def f109_L109003 (o : Orc H) (rd : Option Nat) (t0 t14 t17 : Value) (h : H) (c : Nat) (df : List Nat) : Option (Rt H) :=
 (aBinOp P .gtr 3 t17 t14).bind fun t110 =>
 boolK t110
 ((aBinOp P .sub 3 t17 (.int .i64 1)).bind fun t117 =>
 (aBinOp P .sub 3 t17 (.int .i64 1)).bind fun t120 =>
 (ixS 1 t0 t120).bind fun t121 =>
 (ld1 h t121).bind fun t122 =>
 (ixS 1 t0 t17).bind fun t125 =>
 (ld1 h t125).bind fun t126 =>
 (ixS 1 t0 t17).bind fun t127 =>
 (stN h 1 t127 t122).bind fun h1 =>
 (ixS 1 t0 t117).bind fun t128 =>
 (stN h1 1 t128 t126).bind fun h3 =>
 (aBinOp P .sub 3 t17 (.int .i64 1)).bind fun t112 =>
 some { e := .normal, vs := [t0, t14, t112], h := h3, c := (((c + 1) + 1) + 1), df := df })
 (some { e := (.exit 6), vs := [t0, t14, t17], h := h, c := (c + 1), df := df })
theorem f109_L109003_eq (o : Orc H) (rd : Option Nat) (t0 t14 t17 : Value) (h : H) (c : Nat) (df : List Nat) : jx P o 220 rd f109_c109003 (tmOf [0, 14, 17] [t0, t14, t17]) h c df (Klp [0, 14, 17]) = f109_L109003 o rd t0 t14 t17 h c df := by kernel_rfl
noncomputable def f109_L109004 (o : Orc H) (rd : Option Nat) (t0 t1 t2 t3 t4 t18 t19 t20 t21 t22 : Value) (h : H) (c : Nat) (df : List Nat) : Option (Rt H) :=
 (aBinOp P .lss 3 t20 t21).bind fun t151 =>
 boolK t151
 ((aBinOp P .add 3 t20 t21).bind fun t154 =>
 (cnvI .u64 t154).bind fun t155 =>
 (aBinOp P .shr 175 t155 (.int .u64 1)).bind fun t156 =>
 (cnvI .i64 t156).bind fun t157 =>
 (aBinOp P .sub 3 t22 t157).bind fun t162 =>
 (ixS 1 t0 t162).bind fun t163 =>
 (ld1 h t163).bind fun t164 =>
 (ixS 1 t0 t157).bind fun t167 =>
 (ld1 h t167).bind fun t168 =>
 (callV o h (((c + 1) + 1) + 1) t4 [t164, t168]).bind fun r0 =>
 (aBinOp P .lss 3 r0.1 (.int .i64 0)).bind fun t170 =>
 (aUnOp .not t170).bind fun t171 =>
 (boolK t171
   ((aBinOp P .add 3 t157 (.int .i64 1)).bind fun t173 =>
   some { e := .normal, vs := [t0, t1, t2, t3, t4, t18, t19, t173, t21, t22], h := r0.2.1, c := (r0.2.2 + 1), df := df })
   (some { e := .normal, vs := [t0, t1, t2, t3, t4, t18, t19, t20, t157, t22], h := r0.2.1, c := (r0.2.2 + 1), df := df }) : Option (Rt H)).bind fun r3 =>
 cond (exIs r3.e .normal)
  (some { e := .normal, vs := [(r3.v 0), (r3.v 1), (r3.v 2), (r3.v 3), (r3.v 4), (r3.v 5), (r3.v 6), (r3.v 7), (r3.v 8), (r3.v 9)], h := r3.h, c := r3.c, df := r3.df })
  (none))
 (some { e := (.exit 8), vs := [t0, t1, t2, t3, t4, t18, t19, t20, t21, t22], h := h, c := (c + 1), df := df })
theorem f109_L109004_eq (o : Orc H) (rd : Option Nat) (t0 t1 t2 t3 t4 t18 t19 t20 t21 t22 : Value) (h : H) (c : Nat) (df : List Nat) : jx P o 220 rd f109_c109004 (tmOf [0, 1, 2, 3, 4, 18, 19, 20, 21, 22] [t0, t1, t2, t3, t4, t18, t19, t20, t21, t22]) h c df (Klp [0, 1, 2, 3, 4, 18, 19, 20, 21, 22]) = f109_L109004 o rd t0 t1 t2 t3 t4 t18 t19 t20 t21 t22 h c df := by kernel_rfl
/-- slices.symMergeCmpFunc[*sphenoid/iso.numbering] -/
noncomputable def f109_S (o : Orc H) (t0 t1 t2 t3 t4 : Value) (h : H) (c : Nat) : Option (Rt H) :=
 (aBinOp P .sub 3 t2 t1).bind fun t27 =>
 (aBinOp P .eql 3 t27 (.int .i64 1)).bind fun t28 =>
 boolK t28
 ((o (f109_k109000 none) [t0, t1, t4, t2, t3] h (((c + 1) + 1) + 1) []).bind fun r0 =>
 cond (exIs r0.e (.exit 0))
  ((o (f109_k109001 none) [(r0.v 0), (r0.v 3), (r0.v 1)] r0.h (r0.c + 1) r0.df).bind fun r1 =>
  cond (exIs r1.e (.exit 2))
   ((takeAll r1.h r1.df).bind fun h2 =>
   some { e := .ret, vs := [.tuple #[]], h := h2, c := r1.c, df := [] })
   (none))
  (none))
 ((aBinOp P .sub 3 t3 t2).bind fun t79 =>
 (aBinOp P .eql 3 t79 (.int .i64 1)).bind fun t80 =>
 boolK t80
  ((o (f109_k109002 none) [t0, t2, t4, t1, t2] h ((((c + 1) + 1) + 1) + 1) []).bind fun r3 =>
  cond (exIs r3.e (.exit 4))
   ((o (f109_k109003 none) [(r3.v 0), (r3.v 3), (r3.v 1)] r3.h (r3.c + 1) r3.df).bind fun r4 =>
   cond (exIs r4.e (.exit 6))
    ((takeAll r4.h r4.df).bind fun h5 =>
    some { e := .ret, vs := [.tuple #[]], h := h5, c := r4.c, df := [] })
    (none))
   (none))
  ((aBinOp P .add 3 t1 t3).bind fun t131 =>
  (cnvI .u64 t131).bind fun t132 =>
  (aBinOp P .shr 175 t132 (.int .u64 1)).bind fun t133 =>
  (cnvI .i64 t133).bind fun t134 =>
  (aBinOp P .add 3 t134 t2).bind fun t137 =>
  (aBinOp P .gtr 3 t2 t134).bind fun t140 =>
  (boolK t140
    ((aBinOp P .sub 3 t137 t3).bind fun t143 =>
    some { e := .normal, vs := [t0, t1, t2, t3, t4, t134, t137, t143, t134], h := h, c := ((((((((c + 1) + 1) + 1) + 1) + 1) + 1) + 1) + 1), df := [] })
    (some { e := .normal, vs := [t0, t1, t2, t3, t4, t134, t137, t1, t2], h := h, c := ((((((((c + 1) + 1) + 1) + 1) + 1) + 1) + 1) + 1), df := [] }) : Option (Rt H)).bind fun r6 =>
  cond (exIs r6.e .normal)
   ((aBinOp P .sub 3 (r6.v 6) (.int .i64 1)).bind fun t148 =>
   (o (f109_k109004 none) [(r6.v 0), (r6.v 1), (r6.v 2), (r6.v 3), (r6.v 4), (r6.v 5), (r6.v 6), (r6.v 7), (r6.v 8), t148] r6.h (r6.c + 1) r6.df).bind fun r7 =>
   cond (exIs r7.e (.exit 8))
    ((aBinOp P .sub 3 (r7.v 6) (r7.v 7)).bind fun t177 =>
    (aBinOp P .lss 3 (r7.v 7) (r7.v 2)).bind fun t180 =>
    ((gv t180 true).bind fun w => cond w (ret1 r7.h ((r7.c + 1) + 1) (some (r7.v 2))) (some (undef, r7.h, ((r7.c + 1) + 1)))).bind fun r8 =>
    ((gv t180 true).bind fun w => cond w (ret1 r8.2.1 r8.2.2 (some t177)) (some (undef, r8.2.1, r8.2.2))).bind fun r9 =>
    ((gv t180 true).bind fun w => cond w (ret1 r9.2.1 r9.2.2 (aBinOp P .lss 3 r8.1 r9.1)) (some (undef, r9.2.1, r9.2.2))).bind fun r10 =>
    (pickV t180 r10.1 (.bool false)).bind fun t185 =>
    (boolK t185
      ((callF o 111 [(r7.v 0), (r7.v 7), (r7.v 2), t177, (r7.v 4)] r10.2.1 (r10.2.2 + 1)).bind fun r11 =>
      some { e := .normal, vs := [(r7.v 0), (r7.v 1), (r7.v 3), (r7.v 4), (r7.v 5), (r7.v 7), t177], h := r11.2.1, c := r11.2.2, df := r7.df })
      (some { e := .normal, vs := [(r7.v 0), (r7.v 1), (r7.v 3), (r7.v 4), (r7.v 5), (r7.v 7), t177], h := r10.2.1, c := r10.2.2, df := r7.df }) : Option (Rt H)).bind fun r12 =>
    cond (exIs r12.e .normal)
     ((aBinOp P .lss 3 (r12.v 1) (r12.v 5)).bind fun t194 =>
     ((gv t194 true).bind fun w => cond w (ret1 r12.h (r12.c + 1) (some (r12.v 5))) (some (undef, r12.h, (r12.c + 1)))).bind fun r13 =>
     ((gv t194 true).bind fun w => cond w (ret1 r13.2.1 r13.2.2 (some (r12.v 4))) (some (undef, r13.2.1, r13.2.2))).bind fun r14 =>
     ((gv t194 true).bind fun w => cond w (ret1 r14.2.1 r14.2.2 (aBinOp P .lss 3 r13.1 r14.1)) (some (undef, r14.2.1, r14.2.2))).bind fun r15 =>
     (pickV t194 r15.1 (.bool false)).bind fun t199 =>
     (boolK t199
       ((callF o 109 [(r12.v 0), (r12.v 1), (r12.v 5), (r12.v 4), (r12.v 3)] r15.2.1 (r15.2.2 + 1)).bind fun r16 =>
       some { e := .normal, vs := [(r12.v 0), (r12.v 2), (r12.v 3), (r12.v 4), (r12.v 6)], h := r16.2.1, c := r16.2.2, df := r12.df })
       (some { e := .normal, vs := [(r12.v 0), (r12.v 2), (r12.v 3), (r12.v 4), (r12.v 6)], h := r15.2.1, c := r15.2.2, df := r12.df }) : Option (Rt H)).bind fun r17 =>
     cond (exIs r17.e .normal)
      ((aBinOp P .lss 3 (r17.v 3) (r17.v 4)).bind fun t208 =>
      ((gv t208 true).bind fun w => cond w (ret1 r17.h (r17.c + 1) (some (r17.v 4))) (some (undef, r17.h, (r17.c + 1)))).bind fun r18 =>
      ((gv t208 true).bind fun w => cond w (ret1 r18.2.1 r18.2.2 (some (r17.v 1))) (some (undef, r18.2.1, r18.2.2))).bind fun r19 =>
      ((gv t208 true).bind fun w => cond w (ret1 r19.2.1 r19.2.2 (aBinOp P .lss 3 r18.1 r19.1)) (some (undef, r19.2.1, r19.2.2))).bind fun r20 =>
      (pickV t208 r20.1 (.bool false)).bind fun t213 =>
      (boolK t213
        ((callF o 109 [(r17.v 0), (r17.v 3), (r17.v 4), (r17.v 1), (r17.v 2)] r20.2.1 (r20.2.2 + 1)).bind fun r21 =>
        some { e := .normal, vs := [], h := r21.2.1, c := r21.2.2, df := r17.df })
        (some { e := .normal, vs := [], h := r20.2.1, c := r20.2.2, df := r17.df }) : Option (Rt H)).bind fun r22 =>
      cond (exIs r22.e .normal)
       ((takeAll r22.h r22.df).bind fun h23 =>
       some { e := .ret, vs := [.tuple #[]], h := h23, c := r22.c, df := [] })
       (none))
      (none))
     (none))
    (none))
   (none)))
theorem f109_S_eq (o : Orc H) (t0 t1 t2 t3 t4 : Value) (h : H) (c : Nat) : jx P o 220 none f109_c (tmOf (List.range 5) [t0, t1, t2, t3, t4]) h c [] (Kfn P Try.f109.results.toList) = f109_S o t0 t1 t2 t3 t4 h c := by kernel_rfl
theorem f109_go {t0 t1 t2 t3 t4 : Value} {h : FH} {c : Nat} {df : List Nat} {r : Rt FH} (e : f109_S G t0 t1 t2 t3 t4 h c = some r) : G (.fn 109) [t0, t1, t2, t3, t4] h c df = some (gcR h c [] r) := runG_fn (a := f109_f) bk_109 rfl (fun args h c => by cases args <;> rfl) rfl ((f109_S_eq G t0 t1 t2 t3 t4 h c).trans e)
theorem f109_N109000 {rd : Option Nat} {t0 t1 t4 t10 t11 : Value} {h : FH} {c : Nat} {df : List Nat} {q r : Rt FH} (e : f109_L109000 G rd t0 t1 t4 t10 t11 h c df = some q) (hq : q.e = .normal) (k : G (f109_k109000 rd) q.vs q.h q.c q.df = some r) : G (f109_k109000 rd) [t0, t1, t4, t10, t11] h c df = some r := runG_lp_next ((f109_L109000_eq G rd t0 t1 t4 t10 t11 h c df).trans e) hq k
theorem f109_Z109000 {rd : Option Nat} {t0 t1 t4 t10 t11 : Value} {h : FH} {c : Nat} {df : List Nat} {q : Rt FH} (e : f109_L109000 G rd t0 t1 t4 t10 t11 h c df = some q) (hq : q.e ≠ .normal) : G (f109_k109000 rd) [t0, t1, t4, t10, t11] h c df = some q := runG_lp_last ((f109_L109000_eq G rd t0 t1 t4 t10 t11 h c df).trans e) hq
theorem f109_N109001 {rd : Option Nat} {t0 t10 t13 : Value} {h : FH} {c : Nat} {df : List Nat} {q r : Rt FH} (e : f109_L109001 G rd t0 t10 t13 h c df = some q) (hq : q.e = .normal) (k : G (f109_k109001 rd) q.vs q.h q.c q.df = some r) : G (f109_k109001 rd) [t0, t10, t13] h c df = some r := runG_lp_next ((f109_L109001_eq G rd t0 t10 t13 h c df).trans e) hq k
theorem f109_Z109001 {rd : Option Nat} {t0 t10 t13 : Value} {h : FH} {c : Nat} {df : List Nat} {q : Rt FH} (e : f109_L109001 G rd t0 t10 t13 h c df = some q) (hq : q.e ≠ .normal) : G (f109_k109001 rd) [t0, t10, t13] h c df = some q := runG_lp_last ((f109_L109001_eq G rd t0 t10 t13 h c df).trans e) hq
theorem f109_N109002 {rd : Option Nat} {t0 t2 t4 t14 t15 : Value} {h : FH} {c : Nat} {df : List Nat} {q r : Rt FH} (e : f109_L109002 G rd t0 t2 t4 t14 t15 h c df = some q) (hq : q.e = .normal) (k : G (f109_k109002 rd) q.vs q.h q.c q.df = some r) : G (f109_k109002 rd) [t0, t2, t4, t14, t15] h c df = some r := runG_lp_next ((f109_L109002_eq G rd t0 t2 t4 t14 t15 h c df).trans e) hq k
theorem f109_Z109002 {rd : Option Nat} {t0 t2 t4 t14 t15 : Value} {h : FH} {c : Nat} {df : List Nat} {q : Rt FH} (e : f109_L109002 G rd t0 t2 t4 t14 t15 h c df = some q) (hq : q.e ≠ .normal) : G (f109_k109002 rd) [t0, t2, t4, t14, t15] h c df = some q := runG_lp_last ((f109_L109002_eq G rd t0 t2 t4 t14 t15 h c df).trans e) hq
theorem f109_N109003 {rd : Option Nat} {t0 t14 t17 : Value} {h : FH} {c : Nat} {df : List Nat} {q r : Rt FH} (e : f109_L109003 G rd t0 t14 t17 h c df = some q) (hq : q.e = .normal) (k : G (f109_k109003 rd) q.vs q.h q.c q.df = some r) : G (f109_k109003 rd) [t0, t14, t17] h c df = some r := runG_lp_next ((f109_L109003_eq G rd t0 t14 t17 h c df).trans e) hq k
theorem f109_Z109003 {rd : Option Nat} {t0 t14 t17 : Value} {h : FH} {c : Nat} {df : List Nat} {q : Rt FH} (e : f109_L109003 G rd t0 t14 t17 h c df = some q) (hq : q.e ≠ .normal) : G (f109_k109003 rd) [t0, t14, t17] h c df = some q := runG_lp_last ((f109_L109003_eq G rd t0 t14 t17 h c df).trans e) hq
theorem f109_N109004 {rd : Option Nat} {t0 t1 t2 t3 t4 t18 t19 t20 t21 t22 : Value} {h : FH} {c : Nat} {df : List Nat} {q r : Rt FH} (e : f109_L109004 G rd t0 t1 t2 t3 t4 t18 t19 t20 t21 t22 h c df = some q) (hq : q.e = .normal) (k : G (f109_k109004 rd) q.vs q.h q.c q.df = some r) : G (f109_k109004 rd) [t0, t1, t2, t3, t4, t18, t19, t20, t21, t22] h c df = some r := runG_lp_next ((f109_L109004_eq G rd t0 t1 t2 t3 t4 t18 t19 t20 t21 t22 h c df).trans e) hq k
theorem f109_Z109004 {rd : Option Nat} {t0 t1 t2 t3 t4 t18 t19 t20 t21 t22 : Value} {h : FH} {c : Nat} {df : List Nat} {q : Rt FH} (e : f109_L109004 G rd t0 t1 t2 t3 t4 t18 t19 t20 t21 t22 h c df = some q) (hq : q.e ≠ .normal) : G (f109_k109004 rd) [t0, t1, t2, t3, t4, t18, t19, t20, t21, t22] h c df = some q := runG_lp_last ((f109_L109004_eq G rd t0 t1 t2 t3 t4 t18 t19 t20 t21 t22 h c df).trans e) hq
/-- sphenoid/glue.compose -/
noncomputable def f110_S (o : Orc H) (t0 t1 : Value) (h : H) (c : Nat) : Option (Rt H) :=
 (bif (t0 : Value).cells.toList.all isFlat then
 (bif (t1 : Value).cells.toList.all isFlat then
 (ixA 4 1 (ptrTo (256 * c + 1)) (.int .i64 0)).bind fun t5 =>
 (ld1 (newB (newB (newB h (256 * c + 0) (t0 : Value).cells.toList) (256 * c + 1) (t1 : Value).cells.toList) (256 * c + 2) [(.int .i64 0), (.int .i64 0), (.int .i64 0), (.int .i64 0)]) t5).bind fun t6 =>
 (ixA 4 1 (ptrTo (256 * c + 0)) t6).bind fun t7 =>
 (ld1 (newB (newB (newB h (256 * c + 0) (t0 : Value).cells.toList) (256 * c + 1) (t1 : Value).cells.toList) (256 * c + 2) [(.int .i64 0), (.int .i64 0), (.int .i64 0), (.int .i64 0)]) t7).bind fun t8 =>
 (ixA 4 1 (ptrTo (256 * c + 1)) (.int .i64 1)).bind fun t9 =>
 (ld1 (newB (newB (newB h (256 * c + 0) (t0 : Value).cells.toList) (256 * c + 1) (t1 : Value).cells.toList) (256 * c + 2) [(.int .i64 0), (.int .i64 0), (.int .i64 0), (.int .i64 0)]) t9).bind fun t10 =>
 (ixA 4 1 (ptrTo (256 * c + 0)) t10).bind fun t11 =>
 (ld1 (newB (newB (newB h (256 * c + 0) (t0 : Value).cells.toList) (256 * c + 1) (t1 : Value).cells.toList) (256 * c + 2) [(.int .i64 0), (.int .i64 0), (.int .i64 0), (.int .i64 0)]) t11).bind fun t12 =>
 (ixA 4 1 (ptrTo (256 * c + 1)) (.int .i64 2)).bind fun t13 =>
 (ld1 (newB (newB (newB h (256 * c + 0) (t0 : Value).cells.toList) (256 * c + 1) (t1 : Value).cells.toList) (256 * c + 2) [(.int .i64 0), (.int .i64 0), (.int .i64 0), (.int .i64 0)]) t13).bind fun t14 =>
 (ixA 4 1 (ptrTo (256 * c + 0)) t14).bind fun t15 =>
 (ld1 (newB (newB (newB h (256 * c + 0) (t0 : Value).cells.toList) (256 * c + 1) (t1 : Value).cells.toList) (256 * c + 2) [(.int .i64 0), (.int .i64 0), (.int .i64 0), (.int .i64 0)]) t15).bind fun t16 =>
 (ixA 4 1 (ptrTo (256 * c + 1)) (.int .i64 3)).bind fun t17 =>
 (ld1 (newB (newB (newB h (256 * c + 0) (t0 : Value).cells.toList) (256 * c + 1) (t1 : Value).cells.toList) (256 * c + 2) [(.int .i64 0), (.int .i64 0), (.int .i64 0), (.int .i64 0)]) t17).bind fun t18 =>
 (ixA 4 1 (ptrTo (256 * c + 0)) t18).bind fun t19 =>
 (ld1 (newB (newB (newB h (256 * c + 0) (t0 : Value).cells.toList) (256 * c + 1) (t1 : Value).cells.toList) (256 * c + 2) [(.int .i64 0), (.int .i64 0), (.int .i64 0), (.int .i64 0)]) t19).bind fun t20 =>
 (bldV [(.int .i64 0), (.int .i64 0), (.int .i64 0), (.int .i64 0)] [(0, 1, t8), (1, 1, t12), (2, 1, t16), (3, 1, t20)]).bind fun t21 =>
 (stN (newB (newB (newB h (256 * c + 0) (t0 : Value).cells.toList) (256 * c + 1) (t1 : Value).cells.toList) (256 * c + 2) [(.int .i64 0), (.int .i64 0), (.int .i64 0), (.int .i64 0)]) 4 (ptrTo (256 * c + 2)) t21).bind fun h1 =>
 (ldN h1 4 (ptrTo (256 * c + 2))).bind fun v2 =>
 some { e := .ret, vs := [v2], h := h1, c := ((c + 1) + 1), df := [] }
 else none)
 else none)
theorem f110_S_eq (o : Orc H) (t0 t1 : Value) (h : H) (c : Nat) : jx P o 22 none f110_c (tmOf (List.range 2) [t0, t1]) h c [] (Kfn P Try.f110.results.toList) = f110_S o t0 t1 h c := by kernel_rfl
theorem f110_go {t0 t1 : Value} {h : FH} {c : Nat} {df : List Nat} {r : Rt FH} (e : f110_S G t0 t1 h c = some r) : G (.fn 110) [t0, t1] h c df = some (gcR h c [] r) := runG_fn (a := f110_f) bk_110 rfl (fun args h c => by cases args <;> rfl) rfl ((f110_S_eq G t0 t1 h c).trans e)
noncomputable def f111_L111000 (o : Orc H) (rd : Option Nat) (t0 t2 t4 t10 t11 : Value) (h : H) (c : Nat) (df : List Nat) : Option (Rt H) :=
 (aBinOp P .neq 3 t10 t11).bind fun t20 =>
 boolK t20
 ((aBinOp P .gtr 3 t10 t11).bind fun t23 =>
 (boolK t23
   ((aBinOp P .sub 3 t2 t10).bind fun t27 =>
   (callF o 112 [t0, t27, t2, t11, t4] h (((c + 1) + 1) + 1)).bind fun r0 =>
   (aBinOp P .sub 3 t10 t11).bind fun t34 =>
   some { e := .normal, vs := [t0, t2, t4, t34, t11], h := r0.2.1, c := (r0.2.2 + 1), df := df })
   ((aBinOp P .sub 3 t2 t10).bind fun t38 =>
   (aBinOp P .add 3 t2 t11).bind fun t41 =>
   (aBinOp P .sub 3 t41 t10).bind fun t43 =>
   (callF o 112 [t0, t38, t43, t10, t4] h (((c + 1) + 1) + 1)).bind fun r2 =>
   (aBinOp P .sub 3 t11 t10).bind fun t49 =>
   some { e := .normal, vs := [t0, t2, t4, t10, t49], h := r2.2.1, c := (r2.2.2 + 1), df := df }) : Option (Rt H)).bind fun r4 =>
 cond (exIs r4.e .normal)
  (some { e := .normal, vs := [(r4.v 0), (r4.v 1), (r4.v 2), (r4.v 3), (r4.v 4)], h := r4.h, c := r4.c, df := r4.df })
  (none))
 (some { e := (.exit 0), vs := [t0, t2, t4, t10, t11], h := h, c := (c + 1), df := df })
theorem f111_L111000_eq (o : Orc H) (rd : Option Nat) (t0 t2 t4 t10 t11 : Value) (h : H) (c : Nat) (df : List Nat) : jx P o 58 rd f111_c111000 (tmOf [0, 2, 4, 10, 11] [t0, t2, t4, t10, t11]) h c df (Klp [0, 2, 4, 10, 11]) = f111_L111000 o rd t0 t2 t4 t10 t11 h c df := by kernel_rfl
/-- slices.rotateCmpFunc[*sphenoid/iso.numbering] -/
noncomputable def f111_S (o : Orc H) (t0 t1 t2 t3 t4 : Value) (h : H) (c : Nat) : Option (Rt H) :=
 (aBinOp P .sub 3 t2 t1).bind fun t14 =>
 (aBinOp P .sub 3 t3 t2).bind fun t17 =>
 (o (f111_k111000 none) [t0, t2, t4, t14, t17] h ((c + 1) + 1) []).bind fun r0 =>
 cond (exIs r0.e (.exit 0))
 ((aBinOp P .sub 3 (r0.v 1) (r0.v 3)).bind fun t53 =>
 (callF o 112 [(r0.v 0), t53, (r0.v 1), (r0.v 3), (r0.v 2)] r0.h (r0.c + 1)).bind fun r1 =>
 (takeAll r1.2.1 r0.df).bind fun h2 =>
 some { e := .ret, vs := [.tuple #[]], h := h2, c := r1.2.2, df := [] })
 (none)
theorem f111_S_eq (o : Orc H) (t0 t1 t2 t3 t4 : Value) (h : H) (c : Nat) : jx P o 58 none f111_c (tmOf (List.range 5) [t0, t1, t2, t3, t4]) h c [] (Kfn P Try.f111.results.toList) = f111_S o t0 t1 t2 t3 t4 h c := by kernel_rfl
theorem f111_go {t0 t1 t2 t3 t4 : Value} {h : FH} {c : Nat} {df : List Nat} {r : Rt FH} (e : f111_S G t0 t1 t2 t3 t4 h c = some r) : G (.fn 111) [t0, t1, t2, t3, t4] h c df = some (gcR h c [] r) := runG_fn (a := f111_f) bk_111 rfl (fun args h c => by cases args <;> rfl) rfl ((f111_S_eq G t0 t1 t2 t3 t4 h c).trans e)
theorem f111_N111000 {rd : Option Nat} {t0 t2 t4 t10 t11 : Value} {h : FH} {c : Nat} {df : List Nat} {q r : Rt FH} (e : f111_L111000 G rd t0 t2 t4 t10 t11 h c df = some q) (hq : q.e = .normal) (k : G (f111_k111000 rd) q.vs q.h q.c q.df = some r) : G (f111_k111000 rd) [t0, t2, t4, t10, t11] h c df = some r := runG_lp_next ((f111_L111000_eq G rd t0 t2 t4 t10 t11 h c df).trans e) hq k
theorem f111_Z111000 {rd : Option Nat} {t0 t2 t4 t10 t11 : Value} {h : FH} {c : Nat} {df : List Nat} {q : Rt FH} (e : f111_L111000 G rd t0 t2 t4 t10 t11 h c df = some q) (hq : q.e ≠ .normal) : G (f111_k111000 rd) [t0, t2, t4, t10, t11] h c df = some q := runG_lp_last ((f111_L111000_eq G rd t0 t2 t4 t10 t11 h c df).trans e) hq
noncomputable def f112_L112000 (o : Orc H) (rd : Option Nat) (t0 t1 t2 t3 t10 : Value) (h : H) (c : Nat) (df : List Nat) : Option (Rt H) :=
 (aBinOp P .lss 3 t10 t3).bind fun t13 =>
 boolK t13
 ((aBinOp P .add 3 t1 t10).bind fun t19 =>
 (aBinOp P .add 3 t2 t10).bind fun t23 =>
 (aBinOp P .add 3 t2 t10).bind fun t27 =>
 (ixS 1 t0 t27).bind fun t28 =>
 (ld1 h t28).bind fun t29 =>
 (aBinOp P .add 3 t1 t10).bind fun t33 =>
 (ixS 1 t0 t33).bind fun t34 =>
 (ld1 h t34).bind fun t35 =>
 (ixS 1 t0 t19).bind fun t36 =>
 (stN h 1 t36 t29).bind fun h1 =>
 (ixS 1 t0 t23).bind fun t37 =>
 (stN h1 1 t37 t35).bind fun h3 =>
 (aBinOp P .add 3 t10 (.int .i64 1)).bind fun t15 =>
 some { e := .normal, vs := [t0, t1, t2, t3, t15], h := h3, c := (((c + 1) + 1) + 1), df := df })
 (some { e := (.exit 0), vs := [t0, t1, t2, t3, t10], h := h, c := (c + 1), df := df })
theorem f112_L112000_eq (o : Orc H) (rd : Option Nat) (t0 t1 t2 t3 t10 : Value) (h : H) (c : Nat) (df : List Nat) : jx P o 38 rd f112_c112000 (tmOf [0, 1, 2, 3, 10] [t0, t1, t2, t3, t10]) h c df (Klp [0, 1, 2, 3, 10]) = f112_L112000 o rd t0 t1 t2 t3 t10 h c df := by kernel_rfl
/-- slices.swapRangeCmpFunc[*sphenoid/iso.numbering] -/
noncomputable def f112_S (o : Orc H) (t0 t1 t2 t3 t4 : Value) (h : H) (c : Nat) : Option (Rt H) :=
 (o (f112_k112000 none) [t0, t1, t2, t3, (.int .i64 0)] h (c + 1) []).bind fun r0 =>
 cond (exIs r0.e (.exit 0))
 ((takeAll r0.h r0.df).bind fun h1 =>
 some { e := .ret, vs := [.tuple #[]], h := h1, c := r0.c, df := [] })
 (none)
theorem f112_S_eq (o : Orc H) (t0 t1 t2 t3 t4 : Value) (h : H) (c : Nat) : jx P o 38 none f112_c (tmOf (List.range 5) [t0, t1, t2, t3, t4]) h c [] (Kfn P Try.f112.results.toList) = f112_S o t0 t1 t2 t3 t4 h c := by kernel_rfl
theorem f112_go {t0 t1 t2 t3 t4 : Value} {h : FH} {c : Nat} {df : List Nat} {r : Rt FH} (e : f112_S G t0 t1 t2 t3 t4 h c = some r) : G (.fn 112) [t0, t1, t2, t3, t4] h c df = some (gcR h c [] r) := runG_fn (a := f112_f) bk_112 rfl (fun args h c => by cases args <;> rfl) rfl ((f112_S_eq G t0 t1 t2 t3 t4 h c).trans e)
theorem f112_N112000 {rd : Option Nat} {t0 t1 t2 t3 t10 : Value} {h : FH} {c : Nat} {df : List Nat} {q r : Rt FH} (e : f112_L112000 G rd t0 t1 t2 t3 t10 h c df = some q) (hq : q.e = .normal) (k : G (f112_k112000 rd) q.vs q.h q.c q.df = some r) : G (f112_k112000 rd) [t0, t1, t2, t3, t10] h c df = some r := runG_lp_next ((f112_L112000_eq G rd t0 t1 t2 t3 t10 h c df).trans e) hq k
theorem f112_Z112000 {rd : Option Nat} {t0 t1 t2 t3 t10 : Value} {h : FH} {c : Nat} {df : List Nat} {q : Rt FH} (e : f112_L112000 G rd t0 t1 t2 t3 t10 h c df = some q) (hq : q.e ≠ .normal) : G (f112_k112000 rd) [t0, t1, t2, t3, t10] h c df = some q := runG_lp_last ((f112_L112000_eq G rd t0 t1 t2 t3 t10 h c df).trans e) hq
end Go.Proofs.Ytdbiilapiloaiaa
