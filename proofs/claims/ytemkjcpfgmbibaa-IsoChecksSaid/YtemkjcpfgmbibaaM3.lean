/- Parts of a proof: S2 S3 S4 S5 S6 S7. Conditions: none. -/
import Derived.Test.YtemkjcpfgmbibaaM2
set_option linter.all false
namespace Go.Proofs.Ytemkjcpfgmbibaa
open Go Go.Ab Go.Proofs
set_option maxRecDepth 100000
set_option linter.unusedVariables false
variable {H : Type} [HeapC H]
noncomputable def f31_L31000 (o : Orc H) (rd : Option Nat) (t2 t6 t7 t8 : Value) (h : H) (c : Nat) (df : List Nat) : Option (Rt H) :=
 (aBinOp P .lss 3 t8 t7).bind fun t9 =>
 boolK t9
 ((ixS 1 t6 t8).bind fun t10 =>
 (ldN h 1 t10).bind fun t11 =>
 (stN (newB h (256 * (c + 1) + 2) [(.slice none 0 0)]) 1 (ptrTo (256 * (c + 1) + 2)) t11).bind fun h1 =>
 (ldN h1 1 (ptrTo (256 * (c + 1) + 2))).bind fun t12 =>
 (callF o 57 [t12] h1 (((c + 1) + 1) + 1)).bind fun r2 =>
 (aBinOp P .neq 26 r2.1 (.int .i64 0)).bind fun t15 =>
 boolK t15
  (some { e := .ret, vs := [r2.1, t6, t7, t8], h := r2.2.1, c := ((r2.2.2 + 1) + 1), df := df })
  ((aBinOp P .add 3 t8 (.int .i64 1)).bind fun t17 =>
  some { e := .normal, vs := [t2, t6, t7, t17], h := r2.2.1, c := ((r2.2.2 + 1) + 1), df := df }))
 (some { e := (.exit 0), vs := [t2, t6, t7, t8], h := h, c := (c + 1), df := df })
theorem f31_L31000_eq (o : Orc H) (rd : Option Nat) (t2 t6 t7 t8 : Value) (h : H) (c : Nat) (df : List Nat) : jx P o 18 rd f31_c31000 (tmOf [2, 6, 7, 8] [t2, t6, t7, t8]) h c df (Klp [2, 6, 7, 8]) = f31_L31000 o rd t2 t6 t7 t8 h c df := by kernel_rfl
noncomputable def f31_S (o : Orc H) (t0 : Value) (h : H) (c : Nat) : Option (Rt H) :=
 (lenS t0).bind fun t7 =>
 (o (f31_k31000 none) [(.int .i64 0), t0, t7, (.int .i64 0)] h ((c + 1) + 1) []).bind fun r0 =>
 cond (exIs r0.e (.exit 0))
 ((takeAll r0.h r0.df).bind fun h2 =>
 some { e := .ret, vs := [(.int .i64 0)], h := h2, c := (r0.c + 1), df := [] })
 (cond (exIs r0.e .ret)
  ((takeAll r0.h r0.df).bind fun h1 =>
  some { e := .ret, vs := [(r0.v 0)], h := h1, c := r0.c, df := [] })
  (none))
theorem f31_S_eq (o : Orc H) (t0 : Value) (h : H) (c : Nat) : jx P o 18 none f31_c (tmOf (List.range 1) [t0]) h c [] (Kfn P Try.f31.results.toList) = f31_S o t0 h c := by kernel_rfl
theorem f31_go {t0 : Value} {h : FH} {c : Nat} {df : List Nat} {r : Rt FH} (e : f31_S G t0 h c = some r) : G (.fn 31) [t0] h c df = some (gcR h c [] r) := runG_fn (a := f31_f) bk_31 rfl (fun args h c => by cases args <;> rfl) rfl ((f31_S_eq G t0 h c).trans e)
theorem f31_N31000 {rd : Option Nat} {t2 t6 t7 t8 : Value} {h : FH} {c : Nat} {df : List Nat} {q r : Rt FH} (e : f31_L31000 G rd t2 t6 t7 t8 h c df = some q) (hq : q.e = .normal) (k : G (f31_k31000 rd) q.vs (gcR h c df q).h (gcR h c df q).c q.df = some r) : G (f31_k31000 rd) [t2, t6, t7, t8] h c df = some r := runG_lp_next ((f31_L31000_eq G rd t2 t6 t7 t8 h c df).trans e) hq k
theorem f31_Z31000 {rd : Option Nat} {t2 t6 t7 t8 : Value} {h : FH} {c : Nat} {df : List Nat} {q : Rt FH} (e : f31_L31000 G rd t2 t6 t7 t8 h c df = some q) (hq : q.e ≠ .normal) : G (f31_k31000 rd) [t2, t6, t7, t8] h c df = some (gcR h c df q) := runG_lp_last ((f31_L31000_eq G rd t2 t6 t7 t8 h c df).trans e) hq
noncomputable def f32_S (o : Orc H) (t0 : Value) (h : H) (c : Nat) : Option (Rt H) :=
 (bif (t0 : Value).cells.toList.all isFlat then
 (ldN (newB h (256 * c + 0) (t0 : Value).cells.toList) 1 (ptrTo (256 * c + 0))).bind fun t7 =>
 (callF o 57 [t7] (newB h (256 * c + 0) (t0 : Value).cells.toList) ((c + 1) + 1)).bind fun r0 =>
 (aBinOp P .neq 26 r0.1 (.int .i64 0)).bind fun t10 =>
 boolK t10
 (some { e := .ret, vs := [.tuple #[(.slice none 0 0), r0.1]], h := r0.2.1, c := ((r0.2.2 + 1) + 1), df := [] })
 ((ldN r0.2.1 1 (ptrTo (256 * c + 0))).bind fun t13 =>
 (callF o 58 [t13] r0.2.1 ((r0.2.2 + 1) + 1)).bind fun r1 =>
 (extV r1.1 0).bind fun t15 =>
 (extV r1.1 1).bind fun t16 =>
 some { e := .ret, vs := [.tuple #[t15, (.int .i64 0)]], h := r1.2.1, c := (r1.2.2 + 1), df := [] })
 else none)
theorem f32_S_eq (o : Orc H) (t0 : Value) (h : H) (c : Nat) : jx P o 18 none f32_c (tmOf (List.range 1) [t0]) h c [] (Kfn P Try.f32.results.toList) = f32_S o t0 h c := by kernel_rfl
theorem f32_go {t0 : Value} {h : FH} {c : Nat} {df : List Nat} {r : Rt FH} (e : f32_S G t0 h c = some r) : G (.fn 32) [t0] h c df = some (gcR h c [] r) := runG_fn (a := f32_f) bk_32 rfl (fun args h c => by cases args <;> rfl) rfl ((f32_S_eq G t0 h c).trans e)
noncomputable def f33_L33000 (o : Orc H) (rd : Option Nat) (t0 t3 t4 : Value) (h : H) (c : Nat) (df : List Nat) : Option (Rt H) :=
 (lenS t0).bind fun t14 =>
 (aBinOp P .lss 3 t4 t14).bind fun t15 =>
 boolK t15
 ((ixS 1 t0 t4).bind fun t21 =>
 (ld1 h t21).bind fun t22 =>
 (foldV max2 [t3, t22]).bind fun t23 =>
 (aBinOp P .add 3 t4 (.int .i64 1)).bind fun t17 =>
 some { e := .normal, vs := [t0, t23, t17], h := h, c := (((c + 1) + 1) + 1), df := df })
 (some { e := (.exit 0), vs := [t0, t3, t4], h := h, c := (c + 1), df := df })
theorem f33_L33000_eq (o : Orc H) (rd : Option Nat) (t0 t3 t4 : Value) (h : H) (c : Nat) (df : List Nat) : jx P o 25 rd f33_c33000 (tmOf [0, 3, 4] [t0, t3, t4]) h c df (Klp [0, 3, 4]) = f33_L33000 o rd t0 t3 t4 h c df := by kernel_rfl
noncomputable def f33_S (o : Orc H) (t0 : Value) (h : H) (c : Nat) : Option (Rt H) :=
 (lenS t0).bind fun t6 =>
 (aBinOp P .lss 3 t6 (.int .i64 1)).bind fun t7 =>
 (boolK t7
  ((none : Option Value).bind fun u0 =>
  some { e := .normal, vs := [t0], h := h, c := (((c + 1) + 1) + 1), df := [] })
  (some { e := .normal, vs := [t0], h := h, c := ((c + 1) + 1), df := [] }) : Option (Rt H)).bind fun r1 =>
 cond (exIs r1.e .normal)
 ((ixS 1 (r1.v 0) (.int .i64 0)).bind fun t10 =>
 (ld1 r1.h t10).bind fun t11 =>
 (o (f33_k33000 none) [(r1.v 0), t11, (.int .i64 1)] r1.h ((r1.c + 1) + 1) r1.df).bind fun r2 =>
 cond (exIs r2.e (.exit 0))
  ((takeAll r2.h r2.df).bind fun h3 =>
  some { e := .ret, vs := [(r2.v 1)], h := h3, c := (r2.c + 1), df := [] })
  (none))
 (none)
theorem f33_S_eq (o : Orc H) (t0 : Value) (h : H) (c : Nat) : jx P o 25 none f33_c (tmOf (List.range 1) [t0]) h c [] (Kfn P Try.f33.results.toList) = f33_S o t0 h c := by kernel_rfl
theorem f33_go {t0 : Value} {h : FH} {c : Nat} {df : List Nat} {r : Rt FH} (e : f33_S G t0 h c = some r) : G (.fn 33) [t0] h c df = some (gcR h c [] r) := runG_fn (a := f33_f) bk_33 rfl (fun args h c => by cases args <;> rfl) rfl ((f33_S_eq G t0 h c).trans e)
theorem f33_N33000 {rd : Option Nat} {t0 t3 t4 : Value} {h : FH} {c : Nat} {df : List Nat} {q r : Rt FH} (e : f33_L33000 G rd t0 t3 t4 h c df = some q) (hq : q.e = .normal) (k : G (f33_k33000 rd) q.vs q.h q.c q.df = some r) : G (f33_k33000 rd) [t0, t3, t4] h c df = some r := runG_lp_next ((f33_L33000_eq G rd t0 t3 t4 h c df).trans e) hq k
theorem f33_Z33000 {rd : Option Nat} {t0 t3 t4 : Value} {h : FH} {c : Nat} {df : List Nat} {q : Rt FH} (e : f33_L33000 G rd t0 t3 t4 h c df = some q) (hq : q.e ≠ .normal) : G (f33_k33000 rd) [t0, t3, t4] h c df = some q := runG_lp_last ((f33_L33000_eq G rd t0 t3 t4 h c df).trans e) hq
noncomputable def f34_S (o : Orc H) (h : H) (c : Nat) : Option (Rt H) :=
 some { e := .ret, vs := [(.func (.func 59) #[] #[])], h := h, c := ((c + 1) + 1), df := [] }
theorem f34_S_eq (o : Orc H) (h : H) (c : Nat) : jx P o 1 none f34_c (tmOf (List.range 0) []) h c [] (Kfn P Try.f34.results.toList) = f34_S o h c := by kernel_rfl
theorem f34_go {h : FH} {c : Nat} {df : List Nat} {r : Rt FH} (e : f34_S G h c = some r) : G (.fn 34) [] h c df = some (gcR h c [] r) := runG_fn (a := f34_f) bk_34 rfl (fun args h c => by cases args <;> rfl) rfl ((f34_S_eq G h c).trans e)
noncomputable def f35_L35001 (o : Orc H) (rd : Option Nat) (t4 t5 t8 t9 t10 t11 t12 t13 t14 t15 t53 t54 : Value) (h : H) (c : Nat) (df : List Nat) : Option (Rt H) :=
 (aBinOp P .lss 3 t54 (.int .i64 4)).bind fun t55 =>
 boolK t55
 (((ixV 4 true 5 t53 t54).bind fun t57 =>
  (stN (newB h (256 * (c + 1) + 2) [(.int .i64 0), (.int .i64 0), (.int .i64 0), (.int .i64 0), (.int .i64 0)]) 5 (ptrTo (256 * (c + 1) + 2)) t57).bind fun h1 =>
  (addOff t4 0).bind fun t58 =>
  (ld1 h1 t58).bind fun t59 =>
  (addOff t11 0).bind fun t60 =>
  (ld1 h1 t60).bind fun t61 =>
  (ixS 1 t61 t15).bind fun t63 =>
  (ld1 h1 t63).bind fun t64 =>
  (addOff t11 1).bind fun t65 =>
  (ld1 h1 t65).bind fun t66 =>
  (ixS 4 t66 t15).bind fun t69 =>
  (ixA 4 1 t69 t54).bind fun t70 =>
  (ld1 h1 t70).bind fun t71 =>
  (ixS 20 t59 t64).bind fun t72 =>
  (ixA 4 5 t72 t71).bind fun t73 =>
  (ldN h1 5 t73).bind fun t74 =>
  (stN (newB h1 (256 * ((c + 1) + 1) + 17) [(.int .i64 0), (.int .i64 0), (.int .i64 0), (.int .i64 0), (.int .i64 0)]) 5 (ptrTo (256 * ((c + 1) + 1) + 17)) t74).bind fun h3 =>
  (addOff (ptrTo (256 * ((c + 1) + 1) + 17)) 0).bind fun t75 =>
  (ld1 h3 t75).bind fun t76 =>
  (aBinOp P .lss 3 t76 (.int .i64 0)).bind fun t77 =>
  (addOff (ptrTo (256 * (c + 1) + 2)) 0).bind fun t78 =>
  (ld1 h3 t78).bind fun t79 =>
  (aBinOp P .lss 3 t79 (.int .i64 0)).bind fun t80 =>
  (aBinOp P .neq 4 t77 t80).bind fun t81 =>
  boolK t81
   ((bldV [(.slice none 0 0), (.slice none 0 0)] []).bind fun t82 =>
   (stN h3 2 t8 t82).bind fun h5 =>
   some { e := .ret, vs := [t4, t5, t8, (.bool false), t10, t11, t12, t13, t14, t15, t53, t54], h := h5, c := (((((c + 1) + 1) + 1) + 1) + 1), df := df })
   ((addOff (ptrTo (256 * ((c + 1) + 1) + 17)) 0).bind fun t83 =>
   (ld1 h3 t83).bind fun t84 =>
   (aBinOp P .lss 3 t84 (.int .i64 0)).bind fun t85 =>
   boolK t85
    (some { e := .normal, vs := [t4, t5, t8, t9, t10, t11, t12, t13, t14, t15, t53, t54], h := h3, c := (((((c + 1) + 1) + 1) + 1) + 1), df := df })
    ((addOff (ptrTo (256 * ((c + 1) + 1) + 17)) 1).bind fun t86 =>
    (ldN h3 4 t86).bind fun t87 =>
    (addOff t11 1).bind fun t88 =>
    (ld1 h3 t88).bind fun t89 =>
    (ixS 4 t89 t15).bind fun t91 =>
    (ldN h3 4 t91).bind fun t92 =>
    (callF o 61 [t87, t92] h3 ((((((c + 1) + 1) + 1) + 1) + 1) + 1)).bind fun r7 =>
    (addOff (ptrTo (256 * (c + 1) + 2)) 1).bind fun t94 =>
    (ldN r7.2.1 4 t94).bind fun t95 =>
    (callF o 62 [t95] r7.2.1 r7.2.2).bind fun r8 =>
    (callF o 61 [r7.1, r8.1] r8.2.1 r8.2.2).bind fun r9 =>
    (stN (newB r9.2.1 (256 * (((((c + 1) + 1) + 1) + 1) + 1) + 12) [(.int .i64 0), (.int .i64 0), (.int .i64 0), (.int .i64 0)]) 4 (ptrTo (256 * (((((c + 1) + 1) + 1) + 1) + 1) + 12)) r9.1).bind fun h11 =>
    (bif (sameB (ridV t94) h3 r7.2.1 && true) then
    (addOff (ptrTo (256 * (c + 1) + 2)) 0).bind fun t99 =>
    (ld1 h11 t99).bind fun t100 =>
    (aLookup P h11 92 t12 t100 false).bind fun t101 =>
    (aUnOp .not t101).bind fun t102 =>
    (boolK t102
      ((addOff (ptrTo (256 * (c + 1) + 2)) 0).bind fun t104 =>
      (ld1 h11 t104).bind fun t105 =>
      (aMapUpdate P h11 92 t12 t105 (.bool true)).bind fun h13 =>
      (addOff t11 0).bind fun t106 =>
      (ld1 h13 t106).bind fun t107 =>
      (addOff (ptrTo (256 * (c + 1) + 2)) 0).bind fun t108 =>
      (ld1 h13 t108).bind fun t109 =>
      (addOff t11 1).bind fun t110 =>
      (ld1 h13 t110).bind fun t111 =>
      (addOff (ptrTo (256 * (c + 1) + 2)) 0).bind fun t112 =>
      (ld1 h13 t112).bind fun t113 =>
      (addOff (ptrTo (256 * ((c + 1) + 1) + 17)) 0).bind fun t114 =>
      (ld1 h13 t114).bind fun t115 =>
      (ldN h13 4 (ptrTo (256 * (((((c + 1) + 1) + 1) + 1) + 1) + 12))).bind fun t116 =>
      (ixS 1 t107 t109).bind fun t117 =>
      (stN h13 1 t117 t115).bind fun h15 =>
      (ixS 4 t111 t113).bind fun t118 =>
      (stN h15 4 t118 t116).bind fun h17 =>
      (bif (sameB (ridV t110) h13 h15 && (sameB (ridV t112) h13 h15 && (sameB (ridV (ptrTo (256 * (((((c + 1) + 1) + 1) + 1) + 1) + 12))) h13 h15 && true))) then
      (addOff (ptrTo (256 * (c + 1) + 2)) 0).bind fun t120 =>
      (ld1 h17 t120).bind fun t121 =>
      (bldL [(.int .i64 0)] [(0, 1, t121)]).bind fun r18 =>
      (appV (newB h17 (256 * (((r9.2.2 + 1) + 1) + 1) + 3) r18) (256 * (((r9.2.2 + 1) + 1) + 1) + 4) 1 8 t13 (.slice (some ⟨(256 * (((r9.2.2 + 1) + 1) + 1) + 3), 0, none⟩) 1 1)).bind fun r19 =>
      some { e := .normal, vs := [t4, t5, t8, t9, t10, t11, t12, r19.1, t14, t15, (ptrTo (256 * (c + 1) + 2)), (ptrTo (256 * ((c + 1) + 1) + 17)), (ptrTo (256 * (((((c + 1) + 1) + 1) + 1) + 1) + 12)), t53, t54], h := r19.2, c := ((((r9.2.2 + 1) + 1) + 1) + 1), df := df }
      else none))
      (some { e := .normal, vs := [t4, t5, t8, t9, t10, t11, t12, t13, t14, t15, (ptrTo (256 * (c + 1) + 2)), (ptrTo (256 * ((c + 1) + 1) + 17)), (ptrTo (256 * (((((c + 1) + 1) + 1) + 1) + 1) + 12)), t53, t54], h := h11, c := (r9.2.2 + 1), df := df }) : Option (Rt H)).bind fun r21 =>
    cond (exIs r21.e .normal)
     ((addOff (r21.v 5) 0).bind fun t124 =>
     (ld1 r21.h t124).bind fun t125 =>
     (addOff (r21.v 10) 0).bind fun t126 =>
     (ld1 r21.h t126).bind fun t127 =>
     (ixS 1 t125 t127).bind fun t128 =>
     (ld1 r21.h t128).bind fun t129 =>
     (addOff (r21.v 11) 0).bind fun t130 =>
     (ld1 r21.h t130).bind fun t131 =>
     (aBinOp P .neq 3 t129 t131).bind fun t132 =>
     ((gv t132 false).bind fun w => cond w (ret1 r21.h (r21.c + 1) (addOff (r21.v 5) 1)) (some (undef, r21.h, (r21.c + 1)))).bind fun r22 =>
     ((gv t132 false).bind fun w => cond w (ret1 r22.2.1 r22.2.2 (ld1 r22.2.1 r22.1)) (some (undef, r22.2.1, r22.2.2))).bind fun r23 =>
     ((gv t132 false).bind fun w => cond w (ret1 r23.2.1 r23.2.2 (addOff (r21.v 10) 0)) (some (undef, r23.2.1, r23.2.2))).bind fun r24 =>
     ((gv t132 false).bind fun w => cond w (ret1 r24.2.1 r24.2.2 (ld1 r24.2.1 r24.1)) (some (undef, r24.2.1, r24.2.2))).bind fun r25 =>
     ((gv t132 false).bind fun w => cond w (ret1 r25.2.1 r25.2.2 (ixS 4 r23.1 r25.1)) (some (undef, r25.2.1, r25.2.2))).bind fun r26 =>
     ((gv t132 false).bind fun w => cond w (ret1 r26.2.1 r26.2.2 (ldN r26.2.1 4 r26.1)) (some (undef, r26.2.1, r26.2.2))).bind fun r27 =>
     ((gv t132 false).bind fun w => cond w (ret1 r27.2.1 r27.2.2 (ldN r27.2.1 4 (r21.v 12))) (some (undef, r27.2.1, r27.2.2))).bind fun r28 =>
     ((gv t132 false).bind fun w => cond w (ret1 r28.2.1 r28.2.2 (aBinOp P .neq 67 r27.1 r28.1)) (some (undef, r28.2.1, r28.2.2))).bind fun r29 =>
     (pickV t132 (.bool true) r29.1).bind fun t142 =>
     boolK t142
      ((bldV [(.slice none 0 0), (.slice none 0 0)] []).bind fun t143 =>
      (stN r29.2.1 2 (r21.v 2) t143).bind fun h31 =>
      some { e := .ret, vs := [(r21.v 0), (r21.v 1), (r21.v 2), (.bool false), (r21.v 4), (r21.v 5), (r21.v 6), (r21.v 7), (r21.v 8), (r21.v 9), (r21.v 13), (r21.v 14)], h := h31, c := (r29.2.2 + 1), df := r21.df })
      (some { e := .normal, vs := [(r21.v 0), (r21.v 1), (r21.v 2), (r21.v 3), (r21.v 4), (r21.v 5), (r21.v 6), (r21.v 7), (r21.v 8), (r21.v 9), (r21.v 13), (r21.v 14)], h := r29.2.1, c := r29.2.2, df := r21.df }))
     (none)
    else none))) : Option (Rt H)).bind fun r33 =>
 cond (exIs r33.e .ret)
  (some { e := .ret, vs := [(r33.v 0), (r33.v 1), (r33.v 2), (r33.v 3), (r33.v 4), (r33.v 5), (r33.v 6), (r33.v 7), (r33.v 8), (r33.v 9), (r33.v 10), (r33.v 11)], h := r33.h, c := r33.c, df := r33.df })
  (cond (exIs r33.e .normal)
   ((aBinOp P .add 3 (r33.v 11) (.int .i64 1)).bind fun t144 =>
   some { e := .normal, vs := [(r33.v 0), (r33.v 1), (r33.v 2), (r33.v 3), (r33.v 4), (r33.v 5), (r33.v 6), (r33.v 7), (r33.v 8), (r33.v 9), (r33.v 10), t144], h := r33.h, c := (r33.c + 1), df := r33.df })
   (none)))
 (some { e := (.exit 2), vs := [t4, t5, t8, t9, t10, t11, t12, t13, t14, t15, t53, t54], h := h, c := (c + 1), df := df })
theorem f35_L35001_eq (o : Orc H) (rd : Option Nat) (t4 t5 t8 t9 t10 t11 t12 t13 t14 t15 t53 t54 : Value) (h : H) (c : Nat) (df : List Nat) : jx P o 157 rd f35_c35001 (tmOf [4, 5, 8, 9, 10, 11, 12, 13, 14, 15, 53, 54] [t4, t5, t8, t9, t10, t11, t12, t13, t14, t15, t53, t54]) h c df (Klp [4, 5, 8, 9, 10, 11, 12, 13, 14, 15, 53, 54]) = f35_L35001 o rd t4 t5 t8 t9 t10 t11 t12 t13 t14 t15 t53 t54 h c df := by kernel_rfl
noncomputable def f35_L35000 (o : Orc H) (rd : Option Nat) (t4 t5 t8 t9 t10 t11 t12 t13 t14 : Value) (h : H) (c : Nat) (df : List Nat) : Option (Rt H) :=
 (lenS t13).bind fun t41 =>
 (aBinOp P .lss 3 t14 t41).bind fun t42 =>
 boolK t42
 ((ixS 1 t13 t14).bind fun t47 =>
 (ld1 h t47).bind fun t48 =>
 (addOff t5 0).bind fun t49 =>
 (ld1 h t49).bind fun t50 =>
 (ixS 20 t50 t48).bind fun t52 =>
 (ldN h 20 t52).bind fun t53 =>
 (o (f35_k35001 rd) [t4, t5, t8, t9, t10, t11, t12, t13, t14, t48, t53, (.int .i64 0)] h (((c + 1) + 1) + 1) df).bind fun r0 =>
 cond (exIs r0.e (.exit 2))
  ((aBinOp P .add 3 (r0.v 8) (.int .i64 1)).bind fun t44 =>
  some { e := .normal, vs := [(r0.v 0), (r0.v 1), (r0.v 2), (r0.v 3), (r0.v 4), (r0.v 5), (r0.v 6), (r0.v 7), t44], h := r0.h, c := (r0.c + 1), df := r0.df })
  (cond (exIs r0.e .ret)
   (some { e := .ret, vs := [(r0.v 0), (r0.v 1), (r0.v 2), (r0.v 3), (r0.v 4), (r0.v 5), (r0.v 6), (r0.v 7), (r0.v 8)], h := r0.h, c := r0.c, df := r0.df })
   (none)))
 (some { e := (.exit 0), vs := [t4, t5, t8, t9, t10, t11, t12, t13, t14], h := h, c := (c + 1), df := df })
theorem f35_L35000_eq (o : Orc H) (rd : Option Nat) (t4 t5 t8 t9 t10 t11 t12 t13 t14 : Value) (h : H) (c : Nat) (df : List Nat) : jx P o 157 rd f35_c35000 (tmOf [4, 5, 8, 9, 10, 11, 12, 13, 14] [t4, t5, t8, t9, t10, t11, t12, t13, t14]) h c df (Klp [4, 5, 8, 9, 10, 11, 12, 13, 14]) = f35_L35000 o rd t4 t5 t8 t9 t10 t11 t12 t13 t14 h c df := by kernel_rfl
noncomputable def f35_S (o : Orc H) (t0 t1 t2 t3 : Value) (h : H) (c : Nat) : Option (Rt H) :=
 (bif (t0 : Value).cells.toList.all isFlat then
 (bif (t1 : Value).cells.toList.all isFlat then
 (bif (t3 : Value).cells.toList.all isFlat then
 (addOff (ptrTo (256 * c + 1)) 0).bind fun t20 =>
 (ld1 (newB (newB (newB (newB h (256 * c + 0) (t0 : Value).cells.toList) (256 * c + 1) (t1 : Value).cells.toList) (256 * c + 2) (t3 : Value).cells.toList) (256 * c + 3) [(.slice none 0 0), (.slice none 0 0)]) t20).bind fun t21 =>
 (lenS t21).bind fun t22 =>
 (mkS 1 8 [(.int .i64 0)] t22 t22).bind fun r0 =>
 (mkS 4 32 [(.int .i64 0), (.int .i64 0), (.int .i64 0), (.int .i64 0)] t22 t22).bind fun r1 =>
 (bldV [(.slice none 0 0), (.slice none 0 0)] [(0, 1, (.slice (some ⟨(256 * ((c + 1) + 1) + 1), 0, none⟩) r0.2.1 r0.2.2)), (1, 1, (.slice (some ⟨(256 * ((c + 1) + 1) + 3), 0, none⟩) r1.2.1 r1.2.2))]).bind fun t27 =>
 (stN (newB (newB (newB (newB (newB (newB (newB h (256 * c + 0) (t0 : Value).cells.toList) (256 * c + 1) (t1 : Value).cells.toList) (256 * c + 2) (t3 : Value).cells.toList) (256 * c + 3) [(.slice none 0 0), (.slice none 0 0)]) (256 * ((c + 1) + 1) + 1) r0.1) (256 * ((c + 1) + 1) + 3) r1.1) (256 * ((c + 1) + 1) + 5) [(.slice none 0 0), (.slice none 0 0)]) 2 (ptrTo (256 * ((c + 1) + 1) + 5)) t27).bind fun h3 =>
 (aMapUpdate P (HeapC.set h3 (256 * (((c + 1) + 1) + 1) + 0) (.map [])) 92 (.map (some (256 * (((c + 1) + 1) + 1) + 0))) (.int .i64 0) (.bool true)).bind fun h5 =>
 (addOff (ptrTo (256 * ((c + 1) + 1) + 5)) 0).bind fun t30 =>
 (ld1 h5 t30).bind fun t31 =>
 (addOff (ptrTo (256 * ((c + 1) + 1) + 5)) 1).bind fun t32 =>
 (ld1 h5 t32).bind fun t33 =>
 (ldN h5 4 (ptrTo (256 * c + 2))).bind fun t35 =>
 (ixS 1 t31 (.int .i64 0)).bind fun t36 =>
 (stN h5 1 t36 t2).bind fun h7 =>
 (ixS 4 t33 (.int .i64 0)).bind fun t37 =>
 (stN h7 4 t37 t35).bind fun h9 =>
 (bif (sameB (ridV t32) h5 h7 && (sameB (ridV (ptrTo (256 * c + 2))) h5 h7 && true)) then
 (bldL [(.int .i64 0)] [(0, 1, (.int .i64 0))]).bind fun r10 =>
 (o (f35_k35000 none) [(ptrTo (256 * c + 0)), (ptrTo (256 * c + 1)), (ptrTo (256 * c + 3)), (.bool false), t22, (ptrTo (256 * ((c + 1) + 1) + 5)), (.map (some (256 * (((c + 1) + 1) + 1) + 0))), (.slice (some ⟨(256 * (((((c + 1) + 1) + 1) + 1) + 1) + 0), 0, none⟩) 1 1), (.int .i64 0)] (newB h9 (256 * (((((c + 1) + 1) + 1) + 1) + 1) + 0) r10) (((((((c + 1) + 1) + 1) + 1) + 1) + 1) + 1) []).bind fun r11 =>
 cond (exIs r11.e (.exit 0))
 ((ldN r11.h 2 (r11.v 5)).bind fun t145 =>
 (lenS (r11.v 7)).bind fun t147 =>
 (aBinOp P .eql 3 t147 (r11.v 4)).bind fun t149 =>
 ((gv t149 true).bind fun w => cond w (ret1 r11.h (r11.c + 1) (ldN r11.h 1 (r11.v 0))) (some (undef, r11.h, (r11.c + 1)))).bind fun r14 =>
 ((gv t149 true).bind fun w => cond w (ret1 r14.2.1 r14.2.2 (ldN r14.2.1 1 (r11.v 1))) (some (undef, r14.2.1, r14.2.2))).bind fun r15 =>
 ((gv t149 true).bind fun w => cond w (ret1 r15.2.1 r15.2.2 (ldN r15.2.1 2 (r11.v 5))) (some (undef, r15.2.1, r15.2.2))).bind fun r16 =>
 ((gv t149 true).bind fun w => cond w (callF o 14 [r14.1, r15.1, r16.1] r16.2.1 r16.2.2) (some (undef, r16.2.1, r16.2.2))).bind fun r17 =>
 ((gv t149 true).bind fun w => cond w (ret1 r17.2.1 r17.2.2 (aBinOp P .eql 26 r17.1 (.int .i64 0))) (some (undef, r17.2.1, r17.2.2))).bind fun r18 =>
 (pickV t149 r18.1 (.bool false)).bind fun t156 =>
 (stN r18.2.1 2 (r11.v 2) t145).bind fun h20 =>
 (bif (sameB (ridV (r11.v 5)) r16.2.1 r17.2.1 && true) then
 (takeAll h20 r11.df).bind fun h21 =>
 (ldN h21 2 (r11.v 2)).bind fun v22 =>
 some { e := .ret, vs := [.tuple #[v22, t156]], h := h21, c := r18.2.2, df := [] }
 else none))
 (cond (exIs r11.e .ret)
  ((takeAll r11.h r11.df).bind fun h12 =>
  (ldN h12 2 (r11.v 2)).bind fun v13 =>
  some { e := .ret, vs := [.tuple #[v13, (r11.v 3)]], h := h12, c := r11.c, df := [] })
  (none))
 else none)
 else none)
 else none)
 else none)
theorem f35_S_eq (o : Orc H) (t0 t1 t2 t3 : Value) (h : H) (c : Nat) : jx P o 157 none f35_c (tmOf (List.range 4) [t0, t1, t2, t3]) h c [] (Kfn P Try.f35.results.toList) = f35_S o t0 t1 t2 t3 h c := by kernel_rfl
theorem f35_go {t0 t1 t2 t3 : Value} {h : FH} {c : Nat} {df : List Nat} {r : Rt FH} (e : f35_S G t0 t1 t2 t3 h c = some r) : G (.fn 35) [t0, t1, t2, t3] h c df = some (gcR h c [] r) := runG_fn (a := f35_f) bk_35 rfl (fun args h c => by cases args <;> rfl) rfl ((f35_S_eq G t0 t1 t2 t3 h c).trans e)
theorem f35_N35001 {rd : Option Nat} {t4 t5 t8 t9 t10 t11 t12 t13 t14 t15 t53 t54 : Value} {h : FH} {c : Nat} {df : List Nat} {q r : Rt FH} (e : f35_L35001 G rd t4 t5 t8 t9 t10 t11 t12 t13 t14 t15 t53 t54 h c df = some q) (hq : q.e = .normal) (k : G (f35_k35001 rd) q.vs q.h q.c q.df = some r) : G (f35_k35001 rd) [t4, t5, t8, t9, t10, t11, t12, t13, t14, t15, t53, t54] h c df = some r := runG_lp_next ((f35_L35001_eq G rd t4 t5 t8 t9 t10 t11 t12 t13 t14 t15 t53 t54 h c df).trans e) hq k
theorem f35_Z35001 {rd : Option Nat} {t4 t5 t8 t9 t10 t11 t12 t13 t14 t15 t53 t54 : Value} {h : FH} {c : Nat} {df : List Nat} {q : Rt FH} (e : f35_L35001 G rd t4 t5 t8 t9 t10 t11 t12 t13 t14 t15 t53 t54 h c df = some q) (hq : q.e ≠ .normal) : G (f35_k35001 rd) [t4, t5, t8, t9, t10, t11, t12, t13, t14, t15, t53, t54] h c df = some q := runG_lp_last ((f35_L35001_eq G rd t4 t5 t8 t9 t10 t11 t12 t13 t14 t15 t53 t54 h c df).trans e) hq
theorem f35_N35000 {rd : Option Nat} {t4 t5 t8 t9 t10 t11 t12 t13 t14 : Value} {h : FH} {c : Nat} {df : List Nat} {q r : Rt FH} (e : f35_L35000 G rd t4 t5 t8 t9 t10 t11 t12 t13 t14 h c df = some q) (hq : q.e = .normal) (k : G (f35_k35000 rd) q.vs q.h q.c q.df = some r) : G (f35_k35000 rd) [t4, t5, t8, t9, t10, t11, t12, t13, t14] h c df = some r := runG_lp_next ((f35_L35000_eq G rd t4 t5 t8 t9 t10 t11 t12 t13 t14 h c df).trans e) hq k
theorem f35_Z35000 {rd : Option Nat} {t4 t5 t8 t9 t10 t11 t12 t13 t14 : Value} {h : FH} {c : Nat} {df : List Nat} {q : Rt FH} (e : f35_L35000 G rd t4 t5 t8 t9 t10 t11 t12 t13 t14 h c df = some q) (hq : q.e ≠ .normal) : G (f35_k35000 rd) [t4, t5, t8, t9, t10, t11, t12, t13, t14] h c df = some q := runG_lp_last ((f35_L35000_eq G rd t4 t5 t8 t9 t10 t11 t12 t13 t14 h c df).trans e) hq
noncomputable def f39_S (o : Orc H) (h : H) (c : Nat) : Option (Rt H) :=
 (bldV [(.int .i64 0), (.int .i64 0), (.int .i64 0), (.int .i64 0)] [(0, 1, (.int .i64 1)), (1, 1, (.int .i64 0)), (2, 1, (.int .i64 2)), (3, 1, (.int .i64 3))]).bind fun t1 =>
 (bldV [(.int .i64 0), (.int .i64 0), (.int .i64 0), (.int .i64 0), (.int .i64 0)] [(1, 4, t1)]).bind fun t2 =>
 (bldV [(.int .i64 0), (.int .i64 0), (.int .i64 0), (.int .i64 0)] [(0, 1, (.int .i64 1)), (1, 1, (.int .i64 0)), (2, 1, (.int .i64 2)), (3, 1, (.int .i64 3))]).bind fun t3 =>
 (bldV [(.int .i64 0), (.int .i64 0), (.int .i64 0), (.int .i64 0), (.int .i64 0)] [(1, 4, t3)]).bind fun t4 =>
 (bldV [(.int .i64 0), (.int .i64 0), (.int .i64 0), (.int .i64 0)] [(0, 1, (.int .i64 0)), (1, 1, (.int .i64 1)), (2, 1, (.int .i64 3)), (3, 1, (.int .i64 2))]).bind fun t5 =>
 (bldV [(.int .i64 0), (.int .i64 0), (.int .i64 0), (.int .i64 0), (.int .i64 0)] [(1, 4, t5)]).bind fun t6 =>
 (bldV [(.int .i64 0), (.int .i64 0), (.int .i64 0), (.int .i64 0)] [(0, 1, (.int .i64 0)), (1, 1, (.int .i64 1)), (2, 1, (.int .i64 3)), (3, 1, (.int .i64 2))]).bind fun t7 =>
 (bldV [(.int .i64 0), (.int .i64 0), (.int .i64 0), (.int .i64 0), (.int .i64 0)] [(1, 4, t7)]).bind fun t8 =>
 (bldV [(.int .i64 0), (.int .i64 0), (.int .i64 0), (.int .i64 0), (.int .i64 0), (.int .i64 0), (.int .i64 0), (.int .i64 0), (.int .i64 0), (.int .i64 0), (.int .i64 0), (.int .i64 0), (.int .i64 0), (.int .i64 0), (.int .i64 0), (.int .i64 0), (.int .i64 0), (.int .i64 0), (.int .i64 0), (.int .i64 0)] [(0, 5, t2), (5, 5, t4), (10, 5, t6), (15, 5, t8)]).bind fun t9 =>
 (bldL [(.int .i64 0), (.int .i64 0), (.int .i64 0), (.int .i64 0), (.int .i64 0), (.int .i64 0), (.int .i64 0), (.int .i64 0), (.int .i64 0), (.int .i64 0), (.int .i64 0), (.int .i64 0), (.int .i64 0), (.int .i64 0), (.int .i64 0), (.int .i64 0), (.int .i64 0), (.int .i64 0), (.int .i64 0), (.int .i64 0)] [(0, 20, t9)]).bind fun r0 =>
 (bldV [(.slice none 0 0)] [(0, 1, (.slice (some ⟨(256 * (c + 1) + 9), 0, none⟩) 1 1))]).bind fun t11 =>
 (stN (newB (newB h (256 * c + 0) [(.slice none 0 0)]) (256 * (c + 1) + 9) r0) 1 (ptrTo (256 * c + 0)) t11).bind fun h2 =>
 (ldN h2 1 (ptrTo (256 * c + 0))).bind fun v3 =>
 some { e := .ret, vs := [v3], h := h2, c := ((c + 1) + 1), df := [] }
theorem f39_S_eq (o : Orc H) (h : H) (c : Nat) : jx P o 12 none f39_c (tmOf (List.range 0) []) h c [] (Kfn P Try.f39.results.toList) = f39_S o h c := by kernel_rfl
theorem f39_go {h : FH} {c : Nat} {df : List Nat} {r : Rt FH} (e : f39_S G h c = some r) : G (.fn 39) [] h c df = some (gcR h c [] r) := runG_fn (a := f39_f) bk_39 rfl (fun args h c => by cases args <;> rfl) rfl ((f39_S_eq G h c).trans e)
end Go.Proofs.Ytemkjcpfgmbibaa

namespace Go.Proofs.Ytemkjcpfgmbibaa
open Go Go.Ab Go.Proofs
set_option maxRecDepth 100000
set_option linter.unusedVariables false
variable {H : Type} [HeapC H]
noncomputable def f40_L40000 (o : Orc H) (rd : Option Nat) (t1 t2 t3 t6 t7 t9 t10 t11 t49 t50 t51 : Value) (h : H) (c : Nat) (df : List Nat) : Option (Rt H) :=
 (aBinOp P .lss 3 t51 t50).bind fun t52 =>
 boolK t52
 ((ixS 1 t49 t51).bind fun t54 =>
 (ld1 h t54).bind fun t55 =>
 (aBinOp P .lss 3 t55 (.int .i64 0)).bind fun t57 =>
 ((gv t57 false).bind fun w => cond w (ret1 h (((c + 1) + 1) + 1) (some t55)) (some (undef, h, (((c + 1) + 1) + 1)))).bind fun r0 =>
 ((gv t57 false).bind fun w => cond w (ret1 r0.2.1 r0.2.2 (some t9)) (some (undef, r0.2.1, r0.2.2))).bind fun r1 =>
 ((gv t57 false).bind fun w => cond w (ret1 r1.2.1 r1.2.2 (aBinOp P .geq 3 r0.1 r1.1)) (some (undef, r1.2.1, r1.2.2))).bind fun r2 =>
 (pickV t57 (.bool true) r2.1).bind fun t62 =>
 ((gv t62 false).bind fun w => cond w (ret1 r2.2.1 r2.2.2 (some t11)) (some (undef, r2.2.1, r2.2.2))).bind fun r3 =>
 ((gv t62 false).bind fun w => cond w (ret1 r3.2.1 r3.2.2 (some t55)) (some (undef, r3.2.1, r3.2.2))).bind fun r4 =>
 ((gv t62 false).bind fun w => cond w (ret1 r4.2.1 r4.2.2 (ixS 1 r3.1 r4.1)) (some (undef, r4.2.1, r4.2.2))).bind fun r5 =>
 ((gv t62 false).bind fun w => cond w (ret1 r5.2.1 r5.2.2 (ld1 r5.2.1 r5.1)) (some (undef, r5.2.1, r5.2.2))).bind fun r6 =>
 (pickV t62 (.bool true) r6.1).bind fun t68 =>
 boolK t68
  ((bldV [(.slice none 0 0)] []).bind fun t69 =>
  (stN r6.2.1 1 t6 t69).bind fun h8 =>
  some { e := .ret, vs := [t1, t2, t3, t6, (.int .i64 1), t9, t10, t11, t49, t50, t51], h := h8, c := (r6.2.2 + 1), df := df })
  ((ixS 1 t11 t55).bind fun t75 =>
  (stN r6.2.1 1 t75 (.bool true)).bind fun h11 =>
  (ixS 1 t10 t55).bind fun t76 =>
  (stN h11 1 t76 t51).bind fun h13 =>
  (aBinOp P .add 3 t51 (.int .i64 1)).bind fun t77 =>
  some { e := .normal, vs := [t1, t2, t3, t6, t7, t9, t10, t11, t49, t50, t77], h := h13, c := ((r6.2.2 + 1) + 1), df := df }))
 (some { e := (.exit 0), vs := [t1, t2, t3, t6, t7, t9, t10, t11, t49, t50, t51], h := h, c := (c + 1), df := df })
theorem f40_L40000_eq (o : Orc H) (rd : Option Nat) (t1 t2 t3 t6 t7 t9 t10 t11 t49 t50 t51 : Value) (h : H) (c : Nat) (df : List Nat) : jx P o 139 rd f40_c40000 (tmOf [1, 2, 3, 6, 7, 9, 10, 11, 49, 50, 51] [t1, t2, t3, t6, t7, t9, t10, t11, t49, t50, t51]) h c df (Klp [1, 2, 3, 6, 7, 9, 10, 11, 49, 50, 51]) = f40_L40000 o rd t1 t2 t3 t6 t7 t9 t10 t11 t49 t50 t51 h c df := by kernel_rfl
noncomputable def f40_L40002 (o : Orc H) (rd : Option Nat) (t2 t3 t6 t10 t14 t15 t16 t17 t78 t79 t80 t85 : Value) (h : H) (c : Nat) (df : List Nat) : Option (Rt H) :=
 (aBinOp P .lss 3 t85 (.int .i64 4)).bind fun t86 =>
 boolK t86
 ((addOff t3 0).bind fun t89 =>
 (ld1 h t89).bind fun t90 =>
 (ixS 4 t2 t15).bind fun t95 =>
 (ixA 4 1 t95 t85).bind fun t96 =>
 (ld1 h t96).bind fun t97 =>
 (ixS 20 t90 t16).bind fun t98 =>
 (ixA 4 5 t98 t97).bind fun t99 =>
 (ldN h 5 t99).bind fun t100 =>
 (ixA 4 5 t17 t85).bind fun t101 =>
 (stN h 5 t101 t100).bind fun h1 =>
 (ixA 4 5 t17 t85).bind fun t103 =>
 (ldN h1 5 t103).bind fun t104 =>
 (stN (newB h1 (256 * (((c + 1) + 1) + 1) + 3) [(.int .i64 0), (.int .i64 0), (.int .i64 0), (.int .i64 0), (.int .i64 0)]) 5 (ptrTo (256 * (((c + 1) + 1) + 1) + 3)) t104).bind fun h3 =>
 (addOff (ptrTo (256 * (((c + 1) + 1) + 1) + 3)) 0).bind fun t105 =>
 (ld1 h3 t105).bind fun t106 =>
 (aBinOp P .geq 3 t106 (.int .i64 0)).bind fun t107 =>
 (boolK t107
   ((addOff (ptrTo (256 * (((c + 1) + 1) + 1) + 3)) 0).bind fun t109 =>
   (ld1 h3 t109).bind fun t110 =>
   (ixS 1 t10 t110).bind fun t111 =>
   (ld1 h3 t111).bind fun t112 =>
   (ixS 4 t2 t112).bind fun t117 =>
   (ldN h3 4 t117).bind fun t118 =>
   (callF o 66 [t118] h3 (((((((c + 1) + 1) + 1) + 1) + 1) + 1) + 1)).bind fun r4 =>
   (addOff (ptrTo (256 * (((c + 1) + 1) + 1) + 3)) 1).bind fun t120 =>
   (ldN r4.2.1 4 t120).bind fun t121 =>
   (ixS 4 t2 t15).bind fun t124 =>
   (ldN r4.2.1 4 t124).bind fun t125 =>
   (callF o 65 [t121, t125] r4.2.1 r4.2.2).bind fun r5 =>
   (callF o 65 [r4.1, r5.1] r5.2.1 r5.2.2).bind fun r6 =>
   (bldV [(.int .i64 0), (.int .i64 0), (.int .i64 0), (.int .i64 0), (.int .i64 0)] [(0, 1, t112), (1, 4, r6.1)]).bind fun t128 =>
   (ixA 4 5 t17 t85).bind fun t129 =>
   (stN r6.2.1 5 t129 t128).bind fun h8 =>
   (bif (sameB (ridV t120) h3 r4.2.1 && (sameB (ridV t124) h3 r4.2.1 && true)) then
   some { e := .normal, vs := [t2, t3, t6, t10, t14, t15, t16, t17, t78, t79, t80, t85], h := h8, c := r6.2.2, df := df }
   else none))
   (some { e := .normal, vs := [t2, t3, t6, t10, t14, t15, t16, t17, t78, t79, t80, t85], h := h3, c := (((((c + 1) + 1) + 1) + 1) + 1), df := df }) : Option (Rt H)).bind fun r9 =>
 cond (exIs r9.e .normal)
  ((aBinOp P .add 3 (r9.v 11) (.int .i64 1)).bind fun t130 =>
  some { e := .normal, vs := [(r9.v 0), (r9.v 1), (r9.v 2), (r9.v 3), (r9.v 4), (r9.v 5), (r9.v 6), (r9.v 7), (r9.v 8), (r9.v 9), (r9.v 10), t130], h := r9.h, c := (r9.c + 1), df := r9.df })
  (none))
 (some { e := (.exit 4), vs := [t2, t3, t6, t10, t14, t15, t16, t17, t78, t79, t80, t85], h := h, c := (c + 1), df := df })
theorem f40_L40002_eq (o : Orc H) (rd : Option Nat) (t2 t3 t6 t10 t14 t15 t16 t17 t78 t79 t80 t85 : Value) (h : H) (c : Nat) (df : List Nat) : jx P o 139 rd f40_c40002 (tmOf [2, 3, 6, 10, 14, 15, 16, 17, 78, 79, 80, 85] [t2, t3, t6, t10, t14, t15, t16, t17, t78, t79, t80, t85]) h c df (Klp [2, 3, 6, 10, 14, 15, 16, 17, 78, 79, 80, 85]) = f40_L40002 o rd t2 t3 t6 t10 t14 t15 t16 t17 t78 t79 t80 t85 h c df := by kernel_rfl
noncomputable def f40_L40001 (o : Orc H) (rd : Option Nat) (t2 t3 t6 t10 t14 t78 t79 t80 : Value) (h : H) (c : Nat) (df : List Nat) : Option (Rt H) :=
 (aBinOp P .lss 3 t80 t79).bind fun t81 =>
 boolK t81
 ((ixS 1 t78 t80).bind fun t83 =>
 (ld1 h t83).bind fun t84 =>
 (o (f40_k40002 rd) [t2, t3, t6, t10, t14, t80, t84, (ptrTo (256 * ((c + 1) + 1) + 0)), t78, t79, t80, (.int .i64 0)] (newB h (256 * ((c + 1) + 1) + 0) [(.int .i64 0), (.int .i64 0), (.int .i64 0), (.int .i64 0), (.int .i64 0), (.int .i64 0), (.int .i64 0), (.int .i64 0), (.int .i64 0), (.int .i64 0), (.int .i64 0), (.int .i64 0), (.int .i64 0), (.int .i64 0), (.int .i64 0), (.int .i64 0), (.int .i64 0), (.int .i64 0), (.int .i64 0), (.int .i64 0)]) ((((c + 1) + 1) + 1) + 1) df).bind fun r0 =>
 cond (exIs r0.e (.exit 4))
  ((addOff (r0.v 4) 0).bind fun t131 =>
  (ld1 r0.h t131).bind fun t132 =>
  (ldN r0.h 20 (r0.v 7)).bind fun t133 =>
  (bldL [(.int .i64 0), (.int .i64 0), (.int .i64 0), (.int .i64 0), (.int .i64 0), (.int .i64 0), (.int .i64 0), (.int .i64 0), (.int .i64 0), (.int .i64 0), (.int .i64 0), (.int .i64 0), (.int .i64 0), (.int .i64 0), (.int .i64 0), (.int .i64 0), (.int .i64 0), (.int .i64 0), (.int .i64 0), (.int .i64 0)] [(0, 20, t133)]).bind fun r1 =>
  (appV (newB r0.h (256 * r0.c + 3) r1) (256 * r0.c + 4) 20 160 t132 (.slice (some ⟨(256 * r0.c + 3), 0, none⟩) 1 1)).bind fun r2 =>
  (addOff (r0.v 4) 0).bind fun t136 =>
  (stN r2.2 1 t136 r2.1).bind fun h4 =>
  (aBinOp P .add 3 (r0.v 10) (.int .i64 1)).bind fun t137 =>
  some { e := .normal, vs := [(r0.v 0), (r0.v 1), (r0.v 2), (r0.v 3), (r0.v 4), (r0.v 8), (r0.v 9), t137], h := h4, c := ((r0.c + 1) + 1), df := r0.df })
  (none))
 (some { e := (.exit 2), vs := [t2, t3, t6, t10, t14, t78, t79, t80], h := h, c := (c + 1), df := df })
theorem f40_L40001_eq (o : Orc H) (rd : Option Nat) (t2 t3 t6 t10 t14 t78 t79 t80 : Value) (h : H) (c : Nat) (df : List Nat) : jx P o 139 rd f40_c40001 (tmOf [2, 3, 6, 10, 14, 78, 79, 80] [t2, t3, t6, t10, t14, t78, t79, t80]) h c df (Klp [2, 3, 6, 10, 14, 78, 79, 80]) = f40_L40001 o rd t2 t3 t6 t10 t14 t78 t79 t80 h c df := by kernel_rfl
noncomputable def f40_S (o : Orc H) (t0 t1 t2 : Value) (h : H) (c : Nat) : Option (Rt H) :=
 (bif (t0 : Value).cells.toList.all isFlat then
 (ldN (newB (newB h (256 * c + 0) (t0 : Value).cells.toList) (256 * c + 1) [(.slice none 0 0)]) 1 (ptrTo (256 * c + 0))).bind fun t21 =>
 (callF o 57 [t21] (newB (newB h (256 * c + 0) (t0 : Value).cells.toList) (256 * c + 1) [(.slice none 0 0)]) ((c + 1) + 1)).bind fun r0 =>
 (aBinOp P .neq 26 r0.1 (.int .i64 0)).bind fun t24 =>
 boolK t24
 ((bldV [(.slice none 0 0)] []).bind fun t25 =>
 (stN r0.2.1 1 (ptrTo (256 * c + 1)) t25).bind fun h2 =>
 (ldN h2 1 (ptrTo (256 * c + 1))).bind fun v3 =>
 some { e := .ret, vs := [.tuple #[v3, r0.1]], h := h2, c := ((r0.2.2 + 1) + 1), df := [] })
 ((addOff (ptrTo (256 * c + 0)) 0).bind fun t27 =>
 (ld1 r0.2.1 t27).bind fun t28 =>
 (lenS t28).bind fun t29 =>
 (mkS 1 8 [(.int .i64 0)] t29 t29).bind fun r4 =>
 (mkS 1 1 [(.bool false)] t29 t29).bind fun r5 =>
 (lenS t1).bind fun t35 =>
 (aBinOp P .neq 3 t35 t29).bind fun t37 =>
 ((gv t37 false).bind fun w => cond w (ret1 (newB (newB r0.2.1 (256 * ((r0.2.2 + 1) + 1) + 1) r4.1) (256 * (((r0.2.2 + 1) + 1) + 1) + 1) r5.1) (((((r0.2.2 + 1) + 1) + 1) + 1) + 1) (some t2)) (some (undef, (newB (newB r0.2.1 (256 * ((r0.2.2 + 1) + 1) + 1) r4.1) (256 * (((r0.2.2 + 1) + 1) + 1) + 1) r5.1), (((((r0.2.2 + 1) + 1) + 1) + 1) + 1)))).bind fun r6 =>
 ((gv t37 false).bind fun w => cond w (((lenS r6.1).bind fun v => some (v, r6.2.1)).bind fun r => some (r.1, r.2, r6.2.2)) (some (undef, r6.2.1, r6.2.2))).bind fun r7 =>
 ((gv t37 false).bind fun w => cond w (ret1 r7.2.1 r7.2.2 (some t29)) (some (undef, r7.2.1, r7.2.2))).bind fun r8 =>
 ((gv t37 false).bind fun w => cond w (ret1 r8.2.1 r8.2.2 (aBinOp P .neq 3 r7.1 r8.1)) (some (undef, r8.2.1, r8.2.2))).bind fun r9 =>
 (pickV t37 (.bool true) r9.1).bind fun t43 =>
 ((gv t43 false).bind fun w => cond w (ret1 r9.2.1 r9.2.2 (some t2)) (some (undef, r9.2.1, r9.2.2))).bind fun r10 =>
 ((gv t43 false).bind fun w => cond w (callF o 63 [r10.1, (.func (.func 64) #[] #[])] r10.2.1 r10.2.2) (some (undef, r10.2.1, r10.2.2))).bind fun r11 =>
 (pickV t43 (.bool true) r11.1).bind fun t47 =>
 boolK t47
  ((bldV [(.slice none 0 0)] []).bind fun t48 =>
  (stN r11.2.1 1 (ptrTo (256 * c + 1)) t48).bind fun h13 =>
  (ldN h13 1 (ptrTo (256 * c + 1))).bind fun v14 =>
  some { e := .ret, vs := [.tuple #[v14, (.int .i64 1)]], h := h13, c := (r11.2.2 + 1), df := [] })
  ((lenS t1).bind fun t50 =>
  (o (f40_k40000 none) [t1, t2, (ptrTo (256 * c + 0)), (ptrTo (256 * c + 1)), (.int .i64 0), t29, (.slice (some ⟨(256 * ((r0.2.2 + 1) + 1) + 1), 0, none⟩) r4.2.1 r4.2.2), (.slice (some ⟨(256 * (((r0.2.2 + 1) + 1) + 1) + 1), 0, none⟩) r5.2.1 r5.2.2), t1, t50, (.int .i64 0)] r11.2.1 (r11.2.2 + 1) []).bind fun r15 =>
  cond (exIs r15.e (.exit 0))
   ((lenS (r15.v 0)).bind fun t79 =>
   (o (f40_k40001 none) [(r15.v 1), (r15.v 2), (r15.v 3), (r15.v 6), (ptrTo (256 * r15.c + 0)), (r15.v 0), t79, (.int .i64 0)] (newB r15.h (256 * r15.c + 0) [(.slice none 0 0)]) ((r15.c + 1) + 1) r15.df).bind fun r18 =>
   cond (exIs r18.e (.exit 2))
    ((ldN r18.h 1 (r18.v 4)).bind fun t138 =>
    (stN r18.h 1 (r18.v 2) t138).bind fun h20 =>
    (takeAll h20 r18.df).bind fun h21 =>
    (ldN h21 1 (r18.v 2)).bind fun v22 =>
    some { e := .ret, vs := [.tuple #[v22, (.int .i64 0)]], h := h21, c := (r18.c + 1), df := [] })
    (none))
   (cond (exIs r15.e .ret)
    ((takeAll r15.h r15.df).bind fun h16 =>
    (ldN h16 1 (r15.v 3)).bind fun v17 =>
    some { e := .ret, vs := [.tuple #[v17, (r15.v 4)]], h := h16, c := r15.c, df := [] })
    (none))))
 else none)
theorem f40_S_eq (o : Orc H) (t0 t1 t2 : Value) (h : H) (c : Nat) : jx P o 139 none f40_c (tmOf (List.range 3) [t0, t1, t2]) h c [] (Kfn P Try.f40.results.toList) = f40_S o t0 t1 t2 h c := by kernel_rfl
theorem f40_go {t0 t1 t2 : Value} {h : FH} {c : Nat} {df : List Nat} {r : Rt FH} (e : f40_S G t0 t1 t2 h c = some r) : G (.fn 40) [t0, t1, t2] h c df = some r := runG_fn (a := f40_f) bk_40 rfl (fun args h c => by cases args <;> rfl) rfl ((f40_S_eq G t0 t1 t2 h c).trans e)
theorem f40_N40000 {rd : Option Nat} {t1 t2 t3 t6 t7 t9 t10 t11 t49 t50 t51 : Value} {h : FH} {c : Nat} {df : List Nat} {q r : Rt FH} (e : f40_L40000 G rd t1 t2 t3 t6 t7 t9 t10 t11 t49 t50 t51 h c df = some q) (hq : q.e = .normal) (k : G (f40_k40000 rd) q.vs (gcR h c df q).h (gcR h c df q).c q.df = some r) : G (f40_k40000 rd) [t1, t2, t3, t6, t7, t9, t10, t11, t49, t50, t51] h c df = some r := runG_lp_next ((f40_L40000_eq G rd t1 t2 t3 t6 t7 t9 t10 t11 t49 t50 t51 h c df).trans e) hq k
theorem f40_Z40000 {rd : Option Nat} {t1 t2 t3 t6 t7 t9 t10 t11 t49 t50 t51 : Value} {h : FH} {c : Nat} {df : List Nat} {q : Rt FH} (e : f40_L40000 G rd t1 t2 t3 t6 t7 t9 t10 t11 t49 t50 t51 h c df = some q) (hq : q.e ≠ .normal) : G (f40_k40000 rd) [t1, t2, t3, t6, t7, t9, t10, t11, t49, t50, t51] h c df = some (gcR h c df q) := runG_lp_last ((f40_L40000_eq G rd t1 t2 t3 t6 t7 t9 t10 t11 t49 t50 t51 h c df).trans e) hq
theorem f40_N40002 {rd : Option Nat} {t2 t3 t6 t10 t14 t15 t16 t17 t78 t79 t80 t85 : Value} {h : FH} {c : Nat} {df : List Nat} {q r : Rt FH} (e : f40_L40002 G rd t2 t3 t6 t10 t14 t15 t16 t17 t78 t79 t80 t85 h c df = some q) (hq : q.e = .normal) (k : G (f40_k40002 rd) q.vs (gcR h c df q).h (gcR h c df q).c q.df = some r) : G (f40_k40002 rd) [t2, t3, t6, t10, t14, t15, t16, t17, t78, t79, t80, t85] h c df = some r := runG_lp_next ((f40_L40002_eq G rd t2 t3 t6 t10 t14 t15 t16 t17 t78 t79 t80 t85 h c df).trans e) hq k
theorem f40_Z40002 {rd : Option Nat} {t2 t3 t6 t10 t14 t15 t16 t17 t78 t79 t80 t85 : Value} {h : FH} {c : Nat} {df : List Nat} {q : Rt FH} (e : f40_L40002 G rd t2 t3 t6 t10 t14 t15 t16 t17 t78 t79 t80 t85 h c df = some q) (hq : q.e ≠ .normal) : G (f40_k40002 rd) [t2, t3, t6, t10, t14, t15, t16, t17, t78, t79, t80, t85] h c df = some (gcR h c df q) := runG_lp_last ((f40_L40002_eq G rd t2 t3 t6 t10 t14 t15 t16 t17 t78 t79 t80 t85 h c df).trans e) hq
theorem f40_N40001 {rd : Option Nat} {t2 t3 t6 t10 t14 t78 t79 t80 : Value} {h : FH} {c : Nat} {df : List Nat} {q r : Rt FH} (e : f40_L40001 G rd t2 t3 t6 t10 t14 t78 t79 t80 h c df = some q) (hq : q.e = .normal) (k : G (f40_k40001 rd) q.vs q.h q.c q.df = some r) : G (f40_k40001 rd) [t2, t3, t6, t10, t14, t78, t79, t80] h c df = some r := runG_lp_next ((f40_L40001_eq G rd t2 t3 t6 t10 t14 t78 t79 t80 h c df).trans e) hq k
theorem f40_Z40001 {rd : Option Nat} {t2 t3 t6 t10 t14 t78 t79 t80 : Value} {h : FH} {c : Nat} {df : List Nat} {q : Rt FH} (e : f40_L40001 G rd t2 t3 t6 t10 t14 t78 t79 t80 h c df = some q) (hq : q.e ≠ .normal) : G (f40_k40001 rd) [t2, t3, t6, t10, t14, t78, t79, t80] h c df = some q := runG_lp_last ((f40_L40001_eq G rd t2 t3 t6 t10 t14 t78 t79 t80 h c df).trans e) hq
noncomputable def f41_S (o : Orc H) (t0 t1 : Value) (h : H) (c : Nat) : Option (Rt H) :=
 (bif (t0 : Value).cells.toList.all isFlat then
 (bif (t1 : Value).cells.toList.all isFlat then
 (addOff (ptrTo (256 * c + 0)) 0).bind fun t5 =>
 (ld1 (newB (newB h (256 * c + 0) (t0 : Value).cells.toList) (256 * c + 1) (t1 : Value).cells.toList) t5).bind fun t6 =>
 (addOff (ptrTo (256 * c + 1)) 0).bind fun t7 =>
 (ld1 (newB (newB h (256 * c + 0) (t0 : Value).cells.toList) (256 * c + 1) (t1 : Value).cells.toList) t7).bind fun t8 =>
 (callF o 67 [t6, t8] (newB (newB h (256 * c + 0) (t0 : Value).cells.toList) (256 * c + 1) (t1 : Value).cells.toList) ((c + 1) + 1)).bind fun r0 =>
 some { e := .ret, vs := [r0.1], h := r0.2.1, c := r0.2.2, df := [] }
 else none)
 else none)
theorem f41_S_eq (o : Orc H) (t0 t1 : Value) (h : H) (c : Nat) : jx P o 10 none f41_c (tmOf (List.range 2) [t0, t1]) h c [] (Kfn P Try.f41.results.toList) = f41_S o t0 t1 h c := by kernel_rfl
theorem f41_go {t0 t1 : Value} {h : FH} {c : Nat} {df : List Nat} {r : Rt FH} (e : f41_S G t0 t1 h c = some r) : G (.fn 41) [t0, t1] h c df = some (gcR h c [] r) := runG_fn (a := f41_f) bk_41 rfl (fun args h c => by cases args <;> rfl) rfl ((f41_S_eq G t0 t1 h c).trans e)
noncomputable def f42_L42000 (o : Orc H) (rd : Option Nat) (t1 t2 t3 t4 t23 t24 t25 : Value) (h : H) (c : Nat) (df : List Nat) : Option (Rt H) :=
 (aBinOp P .lss 3 t25 t24).bind fun t26 =>
 boolK t26
 ((ixS 1 t23 t25).bind fun t27 =>
 (ld1 h t27).bind fun t28 =>
 (aBinOp P .lss 3 t28 (.int .i64 0)).bind fun t30 =>
 ((gv t30 false).bind fun w => cond w (ret1 h (((c + 1) + 1) + 1) (some t28)) (some (undef, h, (((c + 1) + 1) + 1)))).bind fun r0 =>
 ((gv t30 false).bind fun w => cond w (ret1 r0.2.1 r0.2.2 (some t3)) (some (undef, r0.2.1, r0.2.2))).bind fun r1 =>
 ((gv t30 false).bind fun w => cond w (ret1 r1.2.1 r1.2.2 (aBinOp P .geq 3 r0.1 r1.1)) (some (undef, r1.2.1, r1.2.2))).bind fun r2 =>
 (pickV t30 (.bool true) r2.1).bind fun t35 =>
 ((gv t35 false).bind fun w => cond w (ret1 r2.2.1 r2.2.2 (some t4)) (some (undef, r2.2.1, r2.2.2))).bind fun r3 =>
 ((gv t35 false).bind fun w => cond w (ret1 r3.2.1 r3.2.2 (some t28)) (some (undef, r3.2.1, r3.2.2))).bind fun r4 =>
 ((gv t35 false).bind fun w => cond w (ret1 r4.2.1 r4.2.2 (aLookup P r4.2.1 92 r3.1 r4.1 false)) (some (undef, r4.2.1, r4.2.2))).bind fun r5 =>
 (pickV t35 (.bool true) r5.1).bind fun t40 =>
 boolK t40
  (some { e := .ret, vs := [t1, (.bool false), t3, t4, t23, t24, t25], h := r5.2.1, c := (r5.2.2 + 1), df := df })
  ((aMapUpdate P r5.2.1 92 t4 t28 (.bool true)).bind fun h8 =>
  (aBinOp P .add 3 t25 (.int .i64 1)).bind fun t43 =>
  some { e := .normal, vs := [t1, t2, t3, t4, t23, t24, t43], h := h8, c := ((r5.2.2 + 1) + 1), df := df }))
 (some { e := (.exit 0), vs := [t1, t2, t3, t4, t23, t24, t25], h := h, c := (c + 1), df := df })
theorem f42_L42000_eq (o : Orc H) (rd : Option Nat) (t1 t2 t3 t4 t23 t24 t25 : Value) (h : H) (c : Nat) (df : List Nat) : jx P o 55 rd f42_c42000 (tmOf [1, 2, 3, 4, 23, 24, 25] [t1, t2, t3, t4, t23, t24, t25]) h c df (Klp [1, 2, 3, 4, 23, 24, 25]) = f42_L42000 o rd t1 t2 t3 t4 t23 t24 t25 h c df := by kernel_rfl
noncomputable def f42_L42001 (o : Orc H) (rd : Option Nat) (t2 t45 t46 t47 : Value) (h : H) (c : Nat) (df : List Nat) : Option (Rt H) :=
 (aBinOp P .lss 3 t47 t46).bind fun t48 =>
 boolK t48
 ((ixS 4 t45 t47).bind fun t49 =>
 (ldN h 4 t49).bind fun t50 =>
 (stN (newB h (256 * (c + 1) + 2) [(.int .i64 0), (.int .i64 0), (.int .i64 0), (.int .i64 0)]) 4 (ptrTo (256 * (c + 1) + 2)) t50).bind fun h1 =>
 (ldN h1 4 (ptrTo (256 * (c + 1) + 2))).bind fun t51 =>
 (callF o 60 [t51] h1 (((c + 1) + 1) + 1)).bind fun r2 =>
 (aUnOp .not r2.1).bind fun t53 =>
 boolK t53
  (some { e := .ret, vs := [(.bool false), t45, t46, t47], h := r2.2.1, c := (r2.2.2 + 1), df := df })
  ((aBinOp P .add 3 t47 (.int .i64 1)).bind fun t54 =>
  some { e := .normal, vs := [t2, t45, t46, t54], h := r2.2.1, c := (r2.2.2 + 1), df := df }))
 (some { e := (.exit 2), vs := [t2, t45, t46, t47], h := h, c := (c + 1), df := df })
theorem f42_L42001_eq (o : Orc H) (rd : Option Nat) (t2 t45 t46 t47 : Value) (h : H) (c : Nat) (df : List Nat) : jx P o 55 rd f42_c42001 (tmOf [2, 45, 46, 47] [t2, t45, t46, t47]) h c df (Klp [2, 45, 46, 47]) = f42_L42001 o rd t2 t45 t46 t47 h c df := by kernel_rfl
noncomputable def f42_S (o : Orc H) (t0 : Value) (h : H) (c : Nat) : Option (Rt H) :=
 (bif (t0 : Value).cells.toList.all isFlat then
 (addOff (ptrTo (256 * c + 0)) 0).bind fun t9 =>
 (ld1 (newB h (256 * c + 0) (t0 : Value).cells.toList) t9).bind fun t10 =>
 (lenS t10).bind fun t11 =>
 (aBinOp P .gtr 3 t11 (.int .i64 1000)).bind fun t13 =>
 ((gv t13 false).bind fun w => cond w (ret1 (newB h (256 * c + 0) (t0 : Value).cells.toList) (((c + 1) + 1) + 1) (addOff (ptrTo (256 * c + 0)) 1)) (some (undef, (newB h (256 * c + 0) (t0 : Value).cells.toList), (((c + 1) + 1) + 1)))).bind fun r0 =>
 ((gv t13 false).bind fun w => cond w (ret1 r0.2.1 r0.2.2 (ld1 r0.2.1 r0.1)) (some (undef, r0.2.1, r0.2.2))).bind fun r1 =>
 ((gv t13 false).bind fun w => cond w (((lenS r1.1).bind fun v => some (v, r1.2.1)).bind fun r => some (r.1, r.2, r1.2.2)) (some (undef, r1.2.1, r1.2.2))).bind fun r2 =>
 ((gv t13 false).bind fun w => cond w (ret1 r2.2.1 r2.2.2 (some t11)) (some (undef, r2.2.1, r2.2.2))).bind fun r3 =>
 ((gv t13 false).bind fun w => cond w (ret1 r3.2.1 r3.2.2 (aBinOp P .neq 3 r2.1 r3.1)) (some (undef, r3.2.1, r3.2.2))).bind fun r4 =>
 (pickV t13 (.bool true) r4.1).bind fun t20 =>
 boolK t20
 (some { e := .ret, vs := [(.bool false)], h := r4.2.1, c := (r4.2.2 + 1), df := [] })
 ((addOff (ptrTo (256 * c + 0)) 0).bind fun t22 =>
 (ld1 (HeapC.set r4.2.1 (256 * r4.2.2 + 0) (.map [])) t22).bind fun t23 =>
 (lenS t23).bind fun t24 =>
 (o (f42_k42000 none) [(ptrTo (256 * c + 0)), (.bool false), t11, (.map (some (256 * r4.2.2 + 0))), t23, t24, (.int .i64 0)] (HeapC.set r4.2.1 (256 * r4.2.2 + 0) (.map [])) ((r4.2.2 + 1) + 1) []).bind fun r5 =>
 cond (exIs r5.e (.exit 0))
  ((addOff (r5.v 0) 1).bind fun t44 =>
  (ld1 r5.h t44).bind fun t45 =>
  (lenS t45).bind fun t46 =>
  (o (f42_k42001 none) [(r5.v 1), t45, t46, (.int .i64 0)] r5.h (r5.c + 1) r5.df).bind fun r7 =>
  cond (exIs r7.e (.exit 2))
   ((takeAll r7.h r7.df).bind fun h9 =>
   some { e := .ret, vs := [(.bool true)], h := h9, c := (r7.c + 1), df := [] })
   (cond (exIs r7.e .ret)
    ((takeAll r7.h r7.df).bind fun h8 =>
    some { e := .ret, vs := [(r7.v 0)], h := h8, c := r7.c, df := [] })
    (none)))
  (cond (exIs r5.e .ret)
   ((takeAll r5.h r5.df).bind fun h6 =>
   some { e := .ret, vs := [(r5.v 1)], h := h6, c := r5.c, df := [] })
   (none)))
 else none)
theorem f42_S_eq (o : Orc H) (t0 : Value) (h : H) (c : Nat) : jx P o 55 none f42_c (tmOf (List.range 1) [t0]) h c [] (Kfn P Try.f42.results.toList) = f42_S o t0 h c := by kernel_rfl
theorem f42_go {t0 : Value} {h : FH} {c : Nat} {df : List Nat} {r : Rt FH} (e : f42_S G t0 h c = some r) : G (.fn 42) [t0] h c df = some (gcR h c [] r) := runG_fn (a := f42_f) bk_42 rfl (fun args h c => by cases args <;> rfl) rfl ((f42_S_eq G t0 h c).trans e)
theorem f42_N42000 {rd : Option Nat} {t1 t2 t3 t4 t23 t24 t25 : Value} {h : FH} {c : Nat} {df : List Nat} {q r : Rt FH} (e : f42_L42000 G rd t1 t2 t3 t4 t23 t24 t25 h c df = some q) (hq : q.e = .normal) (k : G (f42_k42000 rd) q.vs q.h q.c q.df = some r) : G (f42_k42000 rd) [t1, t2, t3, t4, t23, t24, t25] h c df = some r := runG_lp_next ((f42_L42000_eq G rd t1 t2 t3 t4 t23 t24 t25 h c df).trans e) hq k
theorem f42_Z42000 {rd : Option Nat} {t1 t2 t3 t4 t23 t24 t25 : Value} {h : FH} {c : Nat} {df : List Nat} {q : Rt FH} (e : f42_L42000 G rd t1 t2 t3 t4 t23 t24 t25 h c df = some q) (hq : q.e ≠ .normal) : G (f42_k42000 rd) [t1, t2, t3, t4, t23, t24, t25] h c df = some q := runG_lp_last ((f42_L42000_eq G rd t1 t2 t3 t4 t23 t24 t25 h c df).trans e) hq
theorem f42_N42001 {rd : Option Nat} {t2 t45 t46 t47 : Value} {h : FH} {c : Nat} {df : List Nat} {q r : Rt FH} (e : f42_L42001 G rd t2 t45 t46 t47 h c df = some q) (hq : q.e = .normal) (k : G (f42_k42001 rd) q.vs q.h q.c q.df = some r) : G (f42_k42001 rd) [t2, t45, t46, t47] h c df = some r := runG_lp_next ((f42_L42001_eq G rd t2 t45 t46 t47 h c df).trans e) hq k
theorem f42_Z42001 {rd : Option Nat} {t2 t45 t46 t47 : Value} {h : FH} {c : Nat} {df : List Nat} {q : Rt FH} (e : f42_L42001 G rd t2 t45 t46 t47 h c df = some q) (hq : q.e ≠ .normal) : G (f42_k42001 rd) [t2, t45, t46, t47] h c df = some q := runG_lp_last ((f42_L42001_eq G rd t2 t45 t46 t47 h c df).trans e) hq
noncomputable def f43_L43000 (o : Orc H) (rd : Option Nat) (t2 t3 t4 t5 t9 t10 t11 : Value) (h : H) (c : Nat) (df : List Nat) : Option (Rt H) :=
 (aBinOp P .lss 3 t11 t10).bind fun t12 =>
 boolK t12
 ((ixS 1 t9 t11).bind fun t14 =>
 (ld1 h t14).bind fun t15 =>
 (addOff t5 0).bind fun t16 =>
 (ld1 h t16).bind fun t17 =>
 (addOff t2 0).bind fun t18 =>
 (ld1 h t18).bind fun t19 =>
 (ixS 1 t19 t15).bind fun t21 =>
 (ld1 h t21).bind fun t22 =>
 (bldL [(.int .i64 0)] [(0, 1, t22)]).bind fun r0 =>
 (appV (newB h (256 * ((c + 1) + 1) + 7) r0) (256 * ((c + 1) + 1) + 8) 1 8 t17 (.slice (some ⟨(256 * ((c + 1) + 1) + 7), 0, none⟩) 1 1)).bind fun r1 =>
 (addOff t5 0).bind fun t25 =>
 (stN r1.2 1 t25 r1.1).bind fun h3 =>
 (addOff t5 1).bind fun t26 =>
 (ld1 h3 t26).bind fun t27 =>
 (addOff t2 1).bind fun t28 =>
 (ld1 h3 t28).bind fun t29 =>
 (ixS 4 t29 t15).bind fun t31 =>
 (ldN h3 4 t31).bind fun t32 =>
 (addOff t3 1).bind fun t33 =>
 (ld1 h3 t33).bind fun t34 =>
 (ixS 4 t34 t11).bind fun t36 =>
 (ldN h3 4 t36).bind fun t37 =>
 (callF o 61 [t32, t37] h3 ((((c + 1) + 1) + 1) + 1)).bind fun r4 =>
 (bldL [(.int .i64 0), (.int .i64 0), (.int .i64 0), (.int .i64 0)] [(0, 4, r4.1)]).bind fun r5 =>
 (appV (newB r4.2.1 (256 * (((c + 1) + 1) + 1) + 13) r5) (256 * (((c + 1) + 1) + 1) + 14) 4 32 t27 (.slice (some ⟨(256 * (((c + 1) + 1) + 1) + 13), 0, none⟩) 1 1)).bind fun r6 =>
 (addOff t5 1).bind fun t41 =>
 (stN r6.2 1 t41 r6.1).bind fun h8 =>
 (bif (sameB (ridV t26) h3 r4.2.1 && true) then
 (aBinOp P .add 3 t11 (.int .i64 1)).bind fun t42 =>
 some { e := .normal, vs := [t2, t3, t4, t5, t9, t10, t42], h := h8, c := (r4.2.2 + 1), df := df }
 else none))
 (some { e := (.exit 0), vs := [t2, t3, t4, t5, t9, t10, t11], h := h, c := (c + 1), df := df })
theorem f43_L43000_eq (o : Orc H) (rd : Option Nat) (t2 t3 t4 t5 t9 t10 t11 : Value) (h : H) (c : Nat) (df : List Nat) : jx P o 44 rd f43_c43000 (tmOf [2, 3, 4, 5, 9, 10, 11] [t2, t3, t4, t5, t9, t10, t11]) h c df (Klp [2, 3, 4, 5, 9, 10, 11]) = f43_L43000 o rd t2 t3 t4 t5 t9 t10 t11 h c df := by kernel_rfl
noncomputable def f43_S (o : Orc H) (t0 t1 : Value) (h : H) (c : Nat) : Option (Rt H) :=
 (bif (t0 : Value).cells.toList.all isFlat then
 (bif (t1 : Value).cells.toList.all isFlat then
 (addOff (ptrTo (256 * c + 1)) 0).bind fun t8 =>
 (ld1 (newB (newB (newB (newB h (256 * c + 0) (t0 : Value).cells.toList) (256 * c + 1) (t1 : Value).cells.toList) (256 * c + 2) [(.slice none 0 0), (.slice none 0 0)]) (256 * (c + 1) + 0) [(.slice none 0 0), (.slice none 0 0)]) t8).bind fun t9 =>
 (lenS t9).bind fun t10 =>
 (o (f43_k43000 none) [(ptrTo (256 * c + 0)), (ptrTo (256 * c + 1)), (ptrTo (256 * c + 2)), (ptrTo (256 * (c + 1) + 0)), t9, t10, (.int .i64 0)] (newB (newB (newB (newB h (256 * c + 0) (t0 : Value).cells.toList) (256 * c + 1) (t1 : Value).cells.toList) (256 * c + 2) [(.slice none 0 0), (.slice none 0 0)]) (256 * (c + 1) + 0) [(.slice none 0 0), (.slice none 0 0)]) (((c + 1) + 1) + 1) []).bind fun r0 =>
 cond (exIs r0.e (.exit 0))
 ((ldN r0.h 2 (r0.v 3)).bind fun t43 =>
 (stN r0.h 2 (r0.v 2) t43).bind fun h2 =>
 (takeAll h2 r0.df).bind fun h3 =>
 (ldN h3 2 (r0.v 2)).bind fun v4 =>
 some { e := .ret, vs := [v4], h := h3, c := (r0.c + 1), df := [] })
 (none)
 else none)
 else none)
theorem f43_S_eq (o : Orc H) (t0 t1 : Value) (h : H) (c : Nat) : jx P o 44 none f43_c (tmOf (List.range 2) [t0, t1]) h c [] (Kfn P Try.f43.results.toList) = f43_S o t0 t1 h c := by kernel_rfl
theorem f43_go {t0 t1 : Value} {h : FH} {c : Nat} {df : List Nat} {r : Rt FH} (e : f43_S G t0 t1 h c = some r) : G (.fn 43) [t0, t1] h c df = some (gcR h c [] r) := runG_fn (a := f43_f) bk_43 rfl (fun args h c => by cases args <;> rfl) rfl ((f43_S_eq G t0 t1 h c).trans e)
theorem f43_N43000 {rd : Option Nat} {t2 t3 t4 t5 t9 t10 t11 : Value} {h : FH} {c : Nat} {df : List Nat} {q r : Rt FH} (e : f43_L43000 G rd t2 t3 t4 t5 t9 t10 t11 h c df = some q) (hq : q.e = .normal) (k : G (f43_k43000 rd) q.vs q.h q.c q.df = some r) : G (f43_k43000 rd) [t2, t3, t4, t5, t9, t10, t11] h c df = some r := runG_lp_next ((f43_L43000_eq G rd t2 t3 t4 t5 t9 t10 t11 h c df).trans e) hq k
theorem f43_Z43000 {rd : Option Nat} {t2 t3 t4 t5 t9 t10 t11 : Value} {h : FH} {c : Nat} {df : List Nat} {q : Rt FH} (e : f43_L43000 G rd t2 t3 t4 t5 t9 t10 t11 h c df = some q) (hq : q.e ≠ .normal) : G (f43_k43000 rd) [t2, t3, t4, t5, t9, t10, t11] h c df = some q := runG_lp_last ((f43_L43000_eq G rd t2 t3 t4 t5 t9 t10 t11 h c df).trans e) hq
noncomputable def f45_L45000 (o : Orc H) (rd : Option Nat) (t2 t3 t4 t5 t6 : Value) (h : H) (c : Nat) (df : List Nat) : Option (Rt H) :=
 (aBinOp P .lss 3 t6 (.int .i64 4)).bind fun t17 =>
 boolK t17
 ((ixA 4 1 t3 t6).bind fun t22 =>
 (ld1 h t22).bind fun t23 =>
 (ixA 4 1 t2 t23).bind fun t24 =>
 (ld1 h t24).bind fun t25 =>
 (ixA 4 1 t5 t6).bind fun t26 =>
 (stN h 1 t26 t25).bind fun h1 =>
 (aBinOp P .add 3 t6 (.int .i64 1)).bind fun t19 =>
 some { e := .normal, vs := [t2, t3, t4, t5, t19], h := h1, c := (((c + 1) + 1) + 1), df := df })
 (some { e := (.exit 0), vs := [t2, t3, t4, t5, t6], h := h, c := (c + 1), df := df })
theorem f45_L45000_eq (o : Orc H) (rd : Option Nat) (t2 t3 t4 t5 t6 : Value) (h : H) (c : Nat) (df : List Nat) : jx P o 28 rd f45_c45000 (tmOf [2, 3, 4, 5, 6] [t2, t3, t4, t5, t6]) h c df (Klp [2, 3, 4, 5, 6]) = f45_L45000 o rd t2 t3 t4 t5 t6 h c df := by kernel_rfl
noncomputable def f45_S (o : Orc H) (t0 t1 : Value) (h : H) (c : Nat) : Option (Rt H) :=
 (bif (t0 : Value).cells.toList.all isFlat then
 (bif (t1 : Value).cells.toList.all isFlat then
 (ldN (newB (newB (newB (newB h (256 * c + 0) (t0 : Value).cells.toList) (256 * c + 1) (t1 : Value).cells.toList) (256 * c + 2) [(.int .i64 0), (.int .i64 0), (.int .i64 0), (.int .i64 0)]) (256 * (c + 1) + 0) [(.int .i64 0), (.int .i64 0), (.int .i64 0), (.int .i64 0)]) 4 (ptrTo (256 * c + 0))).bind fun t7 =>
 (callF o 50 [t7] (newB (newB (newB (newB h (256 * c + 0) (t0 : Value).cells.toList) (256 * c + 1) (t1 : Value).cells.toList) (256 * c + 2) [(.int .i64 0), (.int .i64 0), (.int .i64 0), (.int .i64 0)]) (256 * (c + 1) + 0) [(.int .i64 0), (.int .i64 0), (.int .i64 0), (.int .i64 0)]) (((c + 1) + 1) + 1)).bind fun r0 =>
 (aUnOp .not r0.1).bind fun t9 =>
 ((gv t9 false).bind fun w => cond w (ret1 r0.2.1 r0.2.2 (ldN r0.2.1 4 (ptrTo (256 * c + 1)))) (some (undef, r0.2.1, r0.2.2))).bind fun r1 =>
 ((gv t9 false).bind fun w => cond w (callF o 50 [r1.1] r1.2.1 r1.2.2) (some (undef, r1.2.1, r1.2.2))).bind fun r2 =>
 ((gv t9 false).bind fun w => cond w (ret1 r2.2.1 r2.2.2 (aUnOp .not r2.1)) (some (undef, r2.2.1, r2.2.2))).bind fun r3 =>
 (pickV t9 (.bool true) r3.1).bind fun t14 =>
 boolK t14
 ((ldN r3.2.1 4 (ptrTo (256 * (c + 1) + 0))).bind fun t15 =>
 (stN r3.2.1 4 (ptrTo (256 * c + 2)) t15).bind fun h5 =>
 (ldN h5 4 (ptrTo (256 * c + 2))).bind fun v6 =>
 some { e := .ret, vs := [v6], h := h5, c := (r3.2.2 + 1), df := [] })
 ((o (f45_k45000 none) [(ptrTo (256 * c + 0)), (ptrTo (256 * c + 1)), (ptrTo (256 * c + 2)), (ptrTo (256 * (c + 1) + 0)), (.int .i64 0)] r3.2.1 (r3.2.2 + 1) []).bind fun r7 =>
 cond (exIs r7.e (.exit 0))
  ((ldN r7.h 4 (r7.v 3)).bind fun t27 =>
  (stN r7.h 4 (r7.v 2) t27).bind fun h9 =>
  (takeAll h9 r7.df).bind fun h10 =>
  (ldN h10 4 (r7.v 2)).bind fun v11 =>
  some { e := .ret, vs := [v11], h := h10, c := (r7.c + 1), df := [] })
  (none))
 else none)
 else none)
theorem f45_S_eq (o : Orc H) (t0 t1 : Value) (h : H) (c : Nat) : jx P o 28 none f45_c (tmOf (List.range 2) [t0, t1]) h c [] (Kfn P Try.f45.results.toList) = f45_S o t0 t1 h c := by kernel_rfl
theorem f45_go {t0 t1 : Value} {h : FH} {c : Nat} {df : List Nat} {r : Rt FH} (e : f45_S G t0 t1 h c = some r) : G (.fn 45) [t0, t1] h c df = some (gcR h c [] r) := runG_fn (a := f45_f) bk_45 rfl (fun args h c => by cases args <;> rfl) rfl ((f45_S_eq G t0 t1 h c).trans e)
theorem f45_N45000 {rd : Option Nat} {t2 t3 t4 t5 t6 : Value} {h : FH} {c : Nat} {df : List Nat} {q r : Rt FH} (e : f45_L45000 G rd t2 t3 t4 t5 t6 h c df = some q) (hq : q.e = .normal) (k : G (f45_k45000 rd) q.vs (gcR h c df q).h (gcR h c df q).c q.df = some r) : G (f45_k45000 rd) [t2, t3, t4, t5, t6] h c df = some r := runG_lp_next ((f45_L45000_eq G rd t2 t3 t4 t5 t6 h c df).trans e) hq k
theorem f45_Z45000 {rd : Option Nat} {t2 t3 t4 t5 t6 : Value} {h : FH} {c : Nat} {df : List Nat} {q : Rt FH} (e : f45_L45000 G rd t2 t3 t4 t5 t6 h c df = some q) (hq : q.e ≠ .normal) : G (f45_k45000 rd) [t2, t3, t4, t5, t6] h c df = some (gcR h c df q) := runG_lp_last ((f45_L45000_eq G rd t2 t3 t4 t5 t6 h c df).trans e) hq
noncomputable def f46_L46000 (o : Orc H) (rd : Option Nat) (t1 t2 t3 t16 t17 t18 : Value) (h : H) (c : Nat) (df : List Nat) : Option (Rt H) :=
 (aBinOp P .lss 3 t18 t17).bind fun t19 =>
 boolK t19
 ((ixS 1 t16 t18).bind fun t21 =>
 (ld1 h t21).bind fun t22 =>
 (addOff t3 0).bind fun t23 =>
 (ld1 h t23).bind fun t24 =>
 (addOff t3 1).bind fun t26 =>
 (ld1 h t26).bind fun t27 =>
 (addOff t1 1).bind fun t30 =>
 (ld1 h t30).bind fun t31 =>
 (ixS 4 t31 t18).bind fun t33 =>
 (ldN h 4 t33).bind fun t34 =>
 (callF o 62 [t34] h (((c + 1) + 1) + 1)).bind fun r0 =>
 (ixS 1 t24 t22).bind fun t36 =>
 (stN r0.2.1 1 t36 t18).bind fun h2 =>
 (ixS 4 t27 t22).bind fun t37 =>
 (stN h2 4 t37 r0.1).bind fun h4 =>
 (bif (sameB (ridV t23) h r0.2.1 && (sameB (ridV t26) h r0.2.1 && (sameB (ridV t26) r0.2.1 h2 && true))) then
 (aBinOp P .add 3 t18 (.int .i64 1)).bind fun t38 =>
 some { e := .normal, vs := [t1, t2, t3, t16, t17, t38], h := h4, c := (r0.2.2 + 1), df := df }
 else none))
 (some { e := (.exit 0), vs := [t1, t2, t3, t16, t17, t18], h := h, c := (c + 1), df := df })
theorem f46_L46000_eq (o : Orc H) (rd : Option Nat) (t1 t2 t3 t16 t17 t18 : Value) (h : H) (c : Nat) (df : List Nat) : jx P o 40 rd f46_c46000 (tmOf [1, 2, 3, 16, 17, 18] [t1, t2, t3, t16, t17, t18]) h c df (Klp [1, 2, 3, 16, 17, 18]) = f46_L46000 o rd t1 t2 t3 t16 t17 t18 h c df := by kernel_rfl
noncomputable def f46_S (o : Orc H) (t0 : Value) (h : H) (c : Nat) : Option (Rt H) :=
 (bif (t0 : Value).cells.toList.all isFlat then
 (addOff (ptrTo (256 * c + 0)) 0).bind fun t6 =>
 (ld1 (newB (newB h (256 * c + 0) (t0 : Value).cells.toList) (256 * c + 1) [(.slice none 0 0), (.slice none 0 0)]) t6).bind fun t7 =>
 (lenS t7).bind fun t8 =>
 (mkS 1 8 [(.int .i64 0)] t8 t8).bind fun r0 =>
 (addOff (ptrTo (256 * c + 0)) 0).bind fun t10 =>
 (ld1 (newB (newB (newB h (256 * c + 0) (t0 : Value).cells.toList) (256 * c + 1) [(.slice none 0 0), (.slice none 0 0)]) (256 * (c + 1) + 3) r0.1) t10).bind fun t11 =>
 (lenS t11).bind fun t12 =>
 (mkS 4 32 [(.int .i64 0), (.int .i64 0), (.int .i64 0), (.int .i64 0)] t12 t12).bind fun r1 =>
 (bldV [(.slice none 0 0), (.slice none 0 0)] [(0, 1, (.slice (some ⟨(256 * (c + 1) + 3), 0, none⟩) r0.2.1 r0.2.2)), (1, 1, (.slice (some ⟨(256 * (c + 1) + 7), 0, none⟩) r1.2.1 r1.2.2))]).bind fun t14 =>
 (stN (newB (newB (newB (newB (newB h (256 * c + 0) (t0 : Value).cells.toList) (256 * c + 1) [(.slice none 0 0), (.slice none 0 0)]) (256 * (c + 1) + 3) r0.1) (256 * (c + 1) + 7) r1.1) (256 * (c + 1) + 9) [(.slice none 0 0), (.slice none 0 0)]) 2 (ptrTo (256 * (c + 1) + 9)) t14).bind fun h3 =>
 (addOff (ptrTo (256 * c + 0)) 0).bind fun t15 =>
 (ld1 h3 t15).bind fun t16 =>
 (lenS t16).bind fun t17 =>
 (o (f46_k46000 none) [(ptrTo (256 * c + 0)), (ptrTo (256 * c + 1)), (ptrTo (256 * (c + 1) + 9)), t16, t17, (.int .i64 0)] h3 (((c + 1) + 1) + 1) []).bind fun r4 =>
 cond (exIs r4.e (.exit 0))
 ((ldN r4.h 2 (r4.v 2)).bind fun t39 =>
 (stN r4.h 2 (r4.v 1) t39).bind fun h6 =>
 (takeAll h6 r4.df).bind fun h7 =>
 (ldN h7 2 (r4.v 1)).bind fun v8 =>
 some { e := .ret, vs := [v8], h := h7, c := (r4.c + 1), df := [] })
 (none)
 else none)
theorem f46_S_eq (o : Orc H) (t0 : Value) (h : H) (c : Nat) : jx P o 40 none f46_c (tmOf (List.range 1) [t0]) h c [] (Kfn P Try.f46.results.toList) = f46_S o t0 h c := by kernel_rfl
theorem f46_go {t0 : Value} {h : FH} {c : Nat} {df : List Nat} {r : Rt FH} (e : f46_S G t0 h c = some r) : G (.fn 46) [t0] h c df = some (gcR h c [] r) := runG_fn (a := f46_f) bk_46 rfl (fun args h c => by cases args <;> rfl) rfl ((f46_S_eq G t0 h c).trans e)
theorem f46_N46000 {rd : Option Nat} {t1 t2 t3 t16 t17 t18 : Value} {h : FH} {c : Nat} {df : List Nat} {q r : Rt FH} (e : f46_L46000 G rd t1 t2 t3 t16 t17 t18 h c df = some q) (hq : q.e = .normal) (k : G (f46_k46000 rd) q.vs q.h q.c q.df = some r) : G (f46_k46000 rd) [t1, t2, t3, t16, t17, t18] h c df = some r := runG_lp_next ((f46_L46000_eq G rd t1 t2 t3 t16 t17 t18 h c df).trans e) hq k
theorem f46_Z46000 {rd : Option Nat} {t1 t2 t3 t16 t17 t18 : Value} {h : FH} {c : Nat} {df : List Nat} {q : Rt FH} (e : f46_L46000 G rd t1 t2 t3 t16 t17 t18 h c df = some q) (hq : q.e ≠ .normal) : G (f46_k46000 rd) [t1, t2, t3, t16, t17, t18] h c df = some q := runG_lp_last ((f46_L46000_eq G rd t1 t2 t3 t16 t17 t18 h c df).trans e) hq
end Go.Proofs.Ytemkjcpfgmbibaa

namespace Go.Proofs.Ytemkjcpfgmbibaa
open Go Go.Ab Go.Proofs
set_option maxRecDepth 100000
set_option linter.unusedVariables false
variable {H : Type} [HeapC H]
noncomputable def f47_L47000 (o : Orc H) (rd : Option Nat) (t1 t2 t3 t4 : Value) (h : H) (c : Nat) (df : List Nat) : Option (Rt H) :=
 (aBinOp P .lss 3 t4 (.int .i64 4)).bind fun t10 =>
 boolK t10
 ((ixA 4 1 t1 t4).bind fun t14 =>
 (ld1 h t14).bind fun t15 =>
 (ixA 4 1 t3 t15).bind fun t17 =>
 (stN h 1 t17 t4).bind fun h1 =>
 (aBinOp P .add 3 t4 (.int .i64 1)).bind fun t12 =>
 some { e := .normal, vs := [t1, t2, t3, t12], h := h1, c := (((c + 1) + 1) + 1), df := df })
 (some { e := (.exit 0), vs := [t1, t2, t3, t4], h := h, c := (c + 1), df := df })
theorem f47_L47000_eq (o : Orc H) (rd : Option Nat) (t1 t2 t3 t4 : Value) (h : H) (c : Nat) (df : List Nat) : jx P o 19 rd f47_c47000 (tmOf [1, 2, 3, 4] [t1, t2, t3, t4]) h c df (Klp [1, 2, 3, 4]) = f47_L47000 o rd t1 t2 t3 t4 h c df := by kernel_rfl
noncomputable def f47_S (o : Orc H) (t0 : Value) (h : H) (c : Nat) : Option (Rt H) :=
 (bif (t0 : Value).cells.toList.all isFlat then
 (ldN (newB (newB (newB h (256 * c + 0) (t0 : Value).cells.toList) (256 * c + 1) [(.int .i64 0), (.int .i64 0), (.int .i64 0), (.int .i64 0)]) (256 * (c + 1) + 0) [(.int .i64 0), (.int .i64 0), (.int .i64 0), (.int .i64 0)]) 4 (ptrTo (256 * c + 0))).bind fun t5 =>
 (callF o 50 [t5] (newB (newB (newB h (256 * c + 0) (t0 : Value).cells.toList) (256 * c + 1) [(.int .i64 0), (.int .i64 0), (.int .i64 0), (.int .i64 0)]) (256 * (c + 1) + 0) [(.int .i64 0), (.int .i64 0), (.int .i64 0), (.int .i64 0)]) (((c + 1) + 1) + 1)).bind fun r0 =>
 (aUnOp .not r0.1).bind fun t7 =>
 boolK t7
 ((ldN r0.2.1 4 (ptrTo (256 * (c + 1) + 0))).bind fun t8 =>
 (stN r0.2.1 4 (ptrTo (256 * c + 1)) t8).bind fun h2 =>
 (ldN h2 4 (ptrTo (256 * c + 1))).bind fun v3 =>
 some { e := .ret, vs := [v3], h := h2, c := (r0.2.2 + 1), df := [] })
 ((o (f47_k47000 none) [(ptrTo (256 * c + 0)), (ptrTo (256 * c + 1)), (ptrTo (256 * (c + 1) + 0)), (.int .i64 0)] r0.2.1 (r0.2.2 + 1) []).bind fun r4 =>
 cond (exIs r4.e (.exit 0))
  ((ldN r4.h 4 (r4.v 2)).bind fun t18 =>
  (stN r4.h 4 (r4.v 1) t18).bind fun h6 =>
  (takeAll h6 r4.df).bind fun h7 =>
  (ldN h7 4 (r4.v 1)).bind fun v8 =>
  some { e := .ret, vs := [v8], h := h7, c := (r4.c + 1), df := [] })
  (none))
 else none)
theorem f47_S_eq (o : Orc H) (t0 : Value) (h : H) (c : Nat) : jx P o 19 none f47_c (tmOf (List.range 1) [t0]) h c [] (Kfn P Try.f47.results.toList) = f47_S o t0 h c := by kernel_rfl
theorem f47_go {t0 : Value} {h : FH} {c : Nat} {df : List Nat} {r : Rt FH} (e : f47_S G t0 h c = some r) : G (.fn 47) [t0] h c df = some (gcR h c [] r) := runG_fn (a := f47_f) bk_47 rfl (fun args h c => by cases args <;> rfl) rfl ((f47_S_eq G t0 h c).trans e)
theorem f47_N47000 {rd : Option Nat} {t1 t2 t3 t4 : Value} {h : FH} {c : Nat} {df : List Nat} {q r : Rt FH} (e : f47_L47000 G rd t1 t2 t3 t4 h c df = some q) (hq : q.e = .normal) (k : G (f47_k47000 rd) q.vs (gcR h c df q).h (gcR h c df q).c q.df = some r) : G (f47_k47000 rd) [t1, t2, t3, t4] h c df = some r := runG_lp_next ((f47_L47000_eq G rd t1 t2 t3 t4 h c df).trans e) hq k
theorem f47_Z47000 {rd : Option Nat} {t1 t2 t3 t4 : Value} {h : FH} {c : Nat} {df : List Nat} {q : Rt FH} (e : f47_L47000 G rd t1 t2 t3 t4 h c df = some q) (hq : q.e ≠ .normal) : G (f47_k47000 rd) [t1, t2, t3, t4] h c df = some (gcR h c df q) := runG_lp_last ((f47_L47000_eq G rd t1 t2 t3 t4 h c df).trans e) hq
noncomputable def f48_L48000 (o : Orc H) (rd : Option Nat) (t0 t1 t2 t6 t7 t8 : Value) (h : H) (c : Nat) (df : List Nat) : Option (Rt H) :=
 (aBinOp P .lss 3 t8 t2).bind fun t23 =>
 boolK t23
 ((ixS 1 t0 t8).bind fun t28 =>
 (ld1 h t28).bind fun t29 =>
 (aBinOp P .lss 3 t29 (.int .i64 0)).bind fun t30 =>
 ((gv t30 false).bind fun w => cond w (ret1 h ((c + 1) + 1) (some t0)) (some (undef, h, ((c + 1) + 1)))).bind fun r0 =>
 ((gv t30 false).bind fun w => cond w (ret1 r0.2.1 r0.2.2 (some t8)) (some (undef, r0.2.1, r0.2.2))).bind fun r1 =>
 ((gv t30 false).bind fun w => cond w (ret1 r1.2.1 r1.2.2 (ixS 1 r0.1 r1.1)) (some (undef, r1.2.1, r1.2.2))).bind fun r2 =>
 ((gv t30 false).bind fun w => cond w (ret1 r2.2.1 r2.2.2 (ld1 r2.2.1 r2.1)) (some (undef, r2.2.1, r2.2.2))).bind fun r3 =>
 ((gv t30 false).bind fun w => cond w (ret1 r3.2.1 r3.2.2 (some t2)) (some (undef, r3.2.1, r3.2.2))).bind fun r4 =>
 ((gv t30 false).bind fun w => cond w (ret1 r4.2.1 r4.2.2 (aBinOp P .geq 3 r3.1 r4.1)) (some (undef, r4.2.1, r4.2.2))).bind fun r5 =>
 (pickV t30 (.bool true) r5.1).bind fun t38 =>
 ((gv t38 false).bind fun w => cond w (ret1 r5.2.1 r5.2.2 (some t7)) (some (undef, r5.2.1, r5.2.2))).bind fun r6 =>
 ((gv t38 false).bind fun w => cond w (ret1 r6.2.1 r6.2.2 (some t0)) (some (undef, r6.2.1, r6.2.2))).bind fun r7 =>
 ((gv t38 false).bind fun w => cond w (ret1 r7.2.1 r7.2.2 (some t8)) (some (undef, r7.2.1, r7.2.2))).bind fun r8 =>
 ((gv t38 false).bind fun w => cond w (ret1 r8.2.1 r8.2.2 (ixS 1 r7.1 r8.1)) (some (undef, r8.2.1, r8.2.2))).bind fun r9 =>
 ((gv t38 false).bind fun w => cond w (ret1 r9.2.1 r9.2.2 (ld1 r9.2.1 r9.1)) (some (undef, r9.2.1, r9.2.2))).bind fun r10 =>
 ((gv t38 false).bind fun w => cond w (ret1 r10.2.1 r10.2.2 (ixS 1 r6.1 r10.1)) (some (undef, r10.2.1, r10.2.2))).bind fun r11 =>
 ((gv t38 false).bind fun w => cond w (ret1 r11.2.1 r11.2.2 (ld1 r11.2.1 r11.1)) (some (undef, r11.2.1, r11.2.2))).bind fun r12 =>
 (pickV t38 (.bool true) r12.1).bind fun t47 =>
 ((gv t47 false).bind fun w => cond w (ret1 r12.2.1 r12.2.2 (some t1)) (some (undef, r12.2.1, r12.2.2))).bind fun r13 =>
 ((gv t47 false).bind fun w => cond w (ret1 r13.2.1 r13.2.2 (some t8)) (some (undef, r13.2.1, r13.2.2))).bind fun r14 =>
 ((gv t47 false).bind fun w => cond w (ret1 r14.2.1 r14.2.2 (ixS 4 r13.1 r14.1)) (some (undef, r14.2.1, r14.2.2))).bind fun r15 =>
 ((gv t47 false).bind fun w => cond w (ret1 r15.2.1 r15.2.2 (ldN r15.2.1 4 r15.1)) (some (undef, r15.2.1, r15.2.2))).bind fun r16 =>
 ((gv t47 false).bind fun w => cond w (callF o 50 [r16.1] r16.2.1 r16.2.2) (some (undef, r16.2.1, r16.2.2))).bind fun r17 =>
 ((gv t47 false).bind fun w => cond w (ret1 r17.2.1 r17.2.2 (aUnOp .not r17.1)) (some (undef, r17.2.1, r17.2.2))).bind fun r18 =>
 (pickV t47 (.bool true) r18.1).bind fun t55 =>
 boolK t55
  (some { e := .ret, vs := [t0, t1, t2, (.bool false), t7, t8], h := r18.2.1, c := (r18.2.2 + 1), df := df })
  ((ixS 1 t0 t8).bind fun t59 =>
  (ld1 r18.2.1 t59).bind fun t60 =>
  (ixS 1 t7 t60).bind fun t61 =>
  (stN r18.2.1 1 t61 (.bool true)).bind fun h21 =>
  (aBinOp P .add 3 t8 (.int .i64 1)).bind fun t25 =>
  some { e := .normal, vs := [t0, t1, t2, t6, t7, t25], h := h21, c := ((r18.2.2 + 1) + 1), df := df }))
 (some { e := (.exit 0), vs := [t0, t1, t2, t6, t7, t8], h := h, c := (c + 1), df := df })
theorem f48_L48000_eq (o : Orc H) (rd : Option Nat) (t0 t1 t2 t6 t7 t8 : Value) (h : H) (c : Nat) (df : List Nat) : jx P o 62 rd f48_c48000 (tmOf [0, 1, 2, 6, 7, 8] [t0, t1, t2, t6, t7, t8]) h c df (Klp [0, 1, 2, 6, 7, 8]) = f48_L48000 o rd t0 t1 t2 t6 t7 t8 h c df := by kernel_rfl
noncomputable def f48_S (o : Orc H) (t0 t1 t2 : Value) (h : H) (c : Nat) : Option (Rt H) :=
 (lenS t0).bind fun t10 =>
 (aBinOp P .neq 3 t10 t2).bind fun t12 =>
 ((gv t12 false).bind fun w => cond w (ret1 h ((c + 1) + 1) (some t1)) (some (undef, h, ((c + 1) + 1)))).bind fun r0 =>
 ((gv t12 false).bind fun w => cond w (((lenS r0.1).bind fun v => some (v, r0.2.1)).bind fun r => some (r.1, r.2, r0.2.2)) (some (undef, r0.2.1, r0.2.2))).bind fun r1 =>
 ((gv t12 false).bind fun w => cond w (ret1 r1.2.1 r1.2.2 (some t2)) (some (undef, r1.2.1, r1.2.2))).bind fun r2 =>
 ((gv t12 false).bind fun w => cond w (ret1 r2.2.1 r2.2.2 (aBinOp P .neq 3 r1.1 r2.1)) (some (undef, r2.2.1, r2.2.2))).bind fun r3 =>
 (pickV t12 (.bool true) r3.1).bind fun t18 =>
 boolK t18
 (some { e := .ret, vs := [(.bool false)], h := r3.2.1, c := (r3.2.2 + 1), df := [] })
 ((mkS 1 1 [(.bool false)] t2 t2).bind fun r4 =>
 (o (f48_k48000 none) [t0, t1, t2, (.bool false), (.slice (some ⟨(256 * r3.2.2 + 1), 0, none⟩) r4.2.1 r4.2.2), (.int .i64 0)] (newB r3.2.1 (256 * r3.2.2 + 1) r4.1) ((r3.2.2 + 1) + 1) []).bind fun r5 =>
 cond (exIs r5.e (.exit 0))
  ((takeAll r5.h r5.df).bind fun h7 =>
  some { e := .ret, vs := [(.bool true)], h := h7, c := (r5.c + 1), df := [] })
  (cond (exIs r5.e .ret)
   ((takeAll r5.h r5.df).bind fun h6 =>
   some { e := .ret, vs := [(r5.v 3)], h := h6, c := r5.c, df := [] })
   (none)))
theorem f48_S_eq (o : Orc H) (t0 t1 t2 : Value) (h : H) (c : Nat) : jx P o 62 none f48_c (tmOf (List.range 3) [t0, t1, t2]) h c [] (Kfn P Try.f48.results.toList) = f48_S o t0 t1 t2 h c := by kernel_rfl
theorem f48_go {t0 t1 t2 : Value} {h : FH} {c : Nat} {df : List Nat} {r : Rt FH} (e : f48_S G t0 t1 t2 h c = some r) : G (.fn 48) [t0, t1, t2] h c df = some (gcR h c [] r) := runG_fn (a := f48_f) bk_48 rfl (fun args h c => by cases args <;> rfl) rfl ((f48_S_eq G t0 t1 t2 h c).trans e)
theorem f48_N48000 {rd : Option Nat} {t0 t1 t2 t6 t7 t8 : Value} {h : FH} {c : Nat} {df : List Nat} {q r : Rt FH} (e : f48_L48000 G rd t0 t1 t2 t6 t7 t8 h c df = some q) (hq : q.e = .normal) (k : G (f48_k48000 rd) q.vs (gcR h c df q).h (gcR h c df q).c q.df = some r) : G (f48_k48000 rd) [t0, t1, t2, t6, t7, t8] h c df = some r := runG_lp_next ((f48_L48000_eq G rd t0 t1 t2 t6 t7 t8 h c df).trans e) hq k
theorem f48_Z48000 {rd : Option Nat} {t0 t1 t2 t6 t7 t8 : Value} {h : FH} {c : Nat} {df : List Nat} {q : Rt FH} (e : f48_L48000 G rd t0 t1 t2 t6 t7 t8 h c df = some q) (hq : q.e ≠ .normal) : G (f48_k48000 rd) [t0, t1, t2, t6, t7, t8] h c df = some (gcR h c df q) := runG_lp_last ((f48_L48000_eq G rd t0 t1 t2 t6 t7 t8 h c df).trans e) hq
noncomputable def f49_L49002 (o : Orc H) (rd : Option Nat) (t2 t3 t4 t5 t7 t8 t10 t13 t14 t15 t25 t26 t27 t31 : Value) (h : H) (c : Nat) (df : List Nat) : Option (Rt H) :=
 (aBinOp P .lss 3 t31 (.int .i64 4)).bind fun t32 =>
 boolK t32
 ((ixA 4 5 t10 t31).bind fun t35 =>
 (addOff t35 0).bind fun t36 =>
 (ld1 h t36).bind fun t37 =>
 (aBinOp P .geq 3 t37 (.int .i64 0)).bind fun t38 =>
 (boolK t38
   ((ixA 4 5 t10 t31).bind fun t40 =>
   (addOff t40 0).bind fun t41 =>
   (ld1 h t41).bind fun t42 =>
   (aBinOp P .add 3 t42 t8).bind fun t44 =>
   (ixA 4 5 t10 t31).bind fun t45 =>
   (addOff t45 0).bind fun t46 =>
   (stN h 1 t46 t44).bind fun h1 =>
   some { e := .normal, vs := [t2, t3, t4, t5, t7, t8, t10, t13, t14, t15, t25, t26, t27, t31], h := h1, c := ((((c + 1) + 1) + 1) + 1), df := df })
   (some { e := .normal, vs := [t2, t3, t4, t5, t7, t8, t10, t13, t14, t15, t25, t26, t27, t31], h := h, c := (((c + 1) + 1) + 1), df := df }) : Option (Rt H)).bind fun r2 =>
 cond (exIs r2.e .normal)
  ((aBinOp P .add 3 (r2.v 13) (.int .i64 1)).bind fun t47 =>
  some { e := .normal, vs := [(r2.v 0), (r2.v 1), (r2.v 2), (r2.v 3), (r2.v 4), (r2.v 5), (r2.v 6), (r2.v 7), (r2.v 8), (r2.v 9), (r2.v 10), (r2.v 11), (r2.v 12), t47], h := r2.h, c := (r2.c + 1), df := r2.df })
  (none))
 (some { e := (.exit 4), vs := [t2, t3, t4, t5, t7, t8, t10, t13, t14, t15, t25, t26, t27, t31], h := h, c := (c + 1), df := df })
theorem f49_L49002_eq (o : Orc H) (rd : Option Nat) (t2 t3 t4 t5 t7 t8 t10 t13 t14 t15 t25 t26 t27 t31 : Value) (h : H) (c : Nat) (df : List Nat) : jx P o 76 rd f49_c49002 (tmOf [2, 3, 4, 5, 7, 8, 10, 13, 14, 15, 25, 26, 27, 31] [t2, t3, t4, t5, t7, t8, t10, t13, t14, t15, t25, t26, t27, t31]) h c df (Klp [2, 3, 4, 5, 7, 8, 10, 13, 14, 15, 25, 26, 27, 31]) = f49_L49002 o rd t2 t3 t4 t5 t7 t8 t10 t13 t14 t15 t25 t26 t27 t31 h c df := by kernel_rfl
noncomputable def f49_L49001 (o : Orc H) (rd : Option Nat) (t2 t3 t4 t5 t7 t8 t13 t14 t15 t25 t26 t27 : Value) (h : H) (c : Nat) (df : List Nat) : Option (Rt H) :=
 (aBinOp P .lss 3 t27 t26).bind fun t28 =>
 boolK t28
 ((ixS 20 t25 t27).bind fun t29 =>
 (ldN h 20 t29).bind fun t30 =>
 (stN (newB h (256 * (c + 1) + 2) [(.int .i64 0), (.int .i64 0), (.int .i64 0), (.int .i64 0), (.int .i64 0), (.int .i64 0), (.int .i64 0), (.int .i64 0), (.int .i64 0), (.int .i64 0), (.int .i64 0), (.int .i64 0), (.int .i64 0), (.int .i64 0), (.int .i64 0), (.int .i64 0), (.int .i64 0), (.int .i64 0), (.int .i64 0), (.int .i64 0)]) 20 (ptrTo (256 * (c + 1) + 2)) t30).bind fun h1 =>
 (o (f49_k49002 rd) [t2, t3, t4, t5, t7, t8, (ptrTo (256 * (c + 1) + 2)), t13, t14, t15, t25, t26, t27, (.int .i64 0)] h1 (((c + 1) + 1) + 1) df).bind fun r2 =>
 cond (exIs r2.e (.exit 4))
  ((addOff (r2.v 2) 0).bind fun t48 =>
  (ld1 r2.h t48).bind fun t49 =>
  (ldN r2.h 20 (r2.v 6)).bind fun t50 =>
  (bldL [(.int .i64 0), (.int .i64 0), (.int .i64 0), (.int .i64 0), (.int .i64 0), (.int .i64 0), (.int .i64 0), (.int .i64 0), (.int .i64 0), (.int .i64 0), (.int .i64 0), (.int .i64 0), (.int .i64 0), (.int .i64 0), (.int .i64 0), (.int .i64 0), (.int .i64 0), (.int .i64 0), (.int .i64 0), (.int .i64 0)] [(0, 20, t50)]).bind fun r3 =>
  (appV (newB r2.h (256 * r2.c + 3) r3) (256 * r2.c + 4) 20 160 t49 (.slice (some ⟨(256 * r2.c + 3), 0, none⟩) 1 1)).bind fun r4 =>
  (addOff (r2.v 2) 0).bind fun t53 =>
  (stN r4.2 1 t53 r4.1).bind fun h6 =>
  (aBinOp P .add 3 (r2.v 12) (.int .i64 1)).bind fun t54 =>
  some { e := .normal, vs := [(r2.v 0), (r2.v 1), (r2.v 2), (r2.v 3), (r2.v 4), (r2.v 5), (r2.v 7), (r2.v 8), (r2.v 9), (r2.v 10), (r2.v 11), t54], h := h6, c := ((r2.c + 1) + 1), df := r2.df })
  (none))
 (some { e := (.exit 2), vs := [t2, t3, t4, t5, t7, t8, t13, t14, t15, t25, t26, t27], h := h, c := (c + 1), df := df })
theorem f49_L49001_eq (o : Orc H) (rd : Option Nat) (t2 t3 t4 t5 t7 t8 t13 t14 t15 t25 t26 t27 : Value) (h : H) (c : Nat) (df : List Nat) : jx P o 76 rd f49_c49001 (tmOf [2, 3, 4, 5, 7, 8, 13, 14, 15, 25, 26, 27] [t2, t3, t4, t5, t7, t8, t13, t14, t15, t25, t26, t27]) h c df (Klp [2, 3, 4, 5, 7, 8, 13, 14, 15, 25, 26, 27]) = f49_L49001 o rd t2 t3 t4 t5 t7 t8 t13 t14 t15 t25 t26 t27 h c df := by kernel_rfl
noncomputable def f49_L49000 (o : Orc H) (rd : Option Nat) (t2 t3 t4 t5 t13 t14 t15 : Value) (h : H) (c : Nat) (df : List Nat) : Option (Rt H) :=
 (aBinOp P .lss 3 t15 t14).bind fun t16 =>
 boolK t16
 ((ixS 1 t13 t15).bind fun t17 =>
 (ld1 h t17).bind fun t18 =>
 (addOff t4 0).bind fun t19 =>
 (ld1 h t19).bind fun t20 =>
 (lenS t20).bind fun t21 =>
 (aNilCheck t18).bind fun t23 =>
 (addOff t23 4).bind fun t24 =>
 (ld1 h t24).bind fun t25 =>
 (lenS t25).bind fun t26 =>
 (o (f49_k49001 rd) [t2, t3, t4, t5, t18, t21, t13, t14, t15, t25, t26, (.int .i64 0)] h ((((c + 1) + 1) + 1) + 1) df).bind fun r0 =>
 cond (exIs r0.e (.exit 2))
  ((addOff (r0.v 3) 0).bind fun t55 =>
  (ld1 r0.h t55).bind fun t56 =>
  (aNilCheck (r0.v 4)).bind fun t58 =>
  (addOff t58 1).bind fun t59 =>
  (addOff t59 0).bind fun t60 =>
  (ld1 r0.h t60).bind fun t61 =>
  (appV r0.h (256 * r0.c + 7) 1 8 t56 t61).bind fun r1 =>
  (addOff (r0.v 3) 0).bind fun t63 =>
  (stN r1.2 1 t63 r1.1).bind fun h3 =>
  (addOff (r0.v 3) 1).bind fun t64 =>
  (ld1 h3 t64).bind fun t65 =>
  (aNilCheck (r0.v 4)).bind fun t67 =>
  (addOff t67 1).bind fun t68 =>
  (addOff t68 1).bind fun t69 =>
  (ld1 h3 t69).bind fun t70 =>
  (appV h3 (256 * (r0.c + 1) + 7) 4 32 t65 t70).bind fun r4 =>
  (addOff (r0.v 3) 1).bind fun t72 =>
  (stN r4.2 1 t72 r4.1).bind fun h6 =>
  (aBinOp P .add 3 (r0.v 8) (.int .i64 1)).bind fun t73 =>
  some { e := .normal, vs := [(r0.v 0), (r0.v 1), (r0.v 2), (r0.v 3), (r0.v 6), (r0.v 7), t73], h := h6, c := (((r0.c + 1) + 1) + 1), df := r0.df })
  (none))
 (some { e := (.exit 0), vs := [t2, t3, t4, t5, t13, t14, t15], h := h, c := (c + 1), df := df })
theorem f49_L49000_eq (o : Orc H) (rd : Option Nat) (t2 t3 t4 t5 t13 t14 t15 : Value) (h : H) (c : Nat) (df : List Nat) : jx P o 76 rd f49_c49000 (tmOf [2, 3, 4, 5, 13, 14, 15] [t2, t3, t4, t5, t13, t14, t15]) h c df (Klp [2, 3, 4, 5, 13, 14, 15]) = f49_L49000 o rd t2 t3 t4 t5 t13 t14 t15 h c df := by kernel_rfl
noncomputable def f49_S (o : Orc H) (t0 : Value) (h : H) (c : Nat) : Option (Rt H) :=
 (bif (t0 : Value).cells.toList.all isFlat then
 (ldN (newB (newB (newB (newB (newB h (256 * c + 0) (t0 : Value).cells.toList) (256 * c + 1) [(.slice none 0 0)]) (256 * c + 2) [(.slice none 0 0), (.slice none 0 0)]) (256 * (c + 1) + 0) [(.slice none 0 0)]) (256 * ((c + 1) + 1) + 0) [(.slice none 0 0), (.slice none 0 0)]) 1 (ptrTo (256 * c + 0))).bind fun t12 =>
 (callF o 68 [t12] (newB (newB (newB (newB (newB h (256 * c + 0) (t0 : Value).cells.toList) (256 * c + 1) [(.slice none 0 0)]) (256 * c + 2) [(.slice none 0 0), (.slice none 0 0)]) (256 * (c + 1) + 0) [(.slice none 0 0)]) (256 * ((c + 1) + 1) + 0) [(.slice none 0 0), (.slice none 0 0)]) ((((c + 1) + 1) + 1) + 1)).bind fun r0 =>
 (lenS r0.1).bind fun t14 =>
 (o (f49_k49000 none) [(ptrTo (256 * c + 1)), (ptrTo (256 * c + 2)), (ptrTo (256 * (c + 1) + 0)), (ptrTo (256 * ((c + 1) + 1) + 0)), r0.1, t14, (.int .i64 0)] r0.2.1 r0.2.2 []).bind fun r1 =>
 cond (exIs r1.e (.exit 0))
 ((ldN r1.h 1 (r1.v 2)).bind fun t74 =>
 (ldN r1.h 2 (r1.v 3)).bind fun t75 =>
 (stN r1.h 1 (r1.v 0) t74).bind fun h3 =>
 (stN h3 2 (r1.v 1) t75).bind fun h5 =>
 (bif (sameB (ridV (r1.v 3)) r1.h h3 && true) then
 (takeAll h5 r1.df).bind fun h6 =>
 (ldN h6 1 (r1.v 0)).bind fun v7 =>
 (ldN h6 2 (r1.v 1)).bind fun v8 =>
 some { e := .ret, vs := [.tuple #[v7, v8]], h := h6, c := (r1.c + 1), df := [] }
 else none))
 (none)
 else none)
theorem f49_S_eq (o : Orc H) (t0 : Value) (h : H) (c : Nat) : jx P o 76 none f49_c (tmOf (List.range 1) [t0]) h c [] (Kfn P Try.f49.results.toList) = f49_S o t0 h c := by kernel_rfl
theorem f49_go {t0 : Value} {h : FH} {c : Nat} {df : List Nat} {r : Rt FH} (e : f49_S G t0 h c = some r) : G (.fn 49) [t0] h c df = some (gcR h c [] r) := runG_fn (a := f49_f) bk_49 rfl (fun args h c => by cases args <;> rfl) rfl ((f49_S_eq G t0 h c).trans e)
theorem f49_N49002 {rd : Option Nat} {t2 t3 t4 t5 t7 t8 t10 t13 t14 t15 t25 t26 t27 t31 : Value} {h : FH} {c : Nat} {df : List Nat} {q r : Rt FH} (e : f49_L49002 G rd t2 t3 t4 t5 t7 t8 t10 t13 t14 t15 t25 t26 t27 t31 h c df = some q) (hq : q.e = .normal) (k : G (f49_k49002 rd) q.vs q.h q.c q.df = some r) : G (f49_k49002 rd) [t2, t3, t4, t5, t7, t8, t10, t13, t14, t15, t25, t26, t27, t31] h c df = some r := runG_lp_next ((f49_L49002_eq G rd t2 t3 t4 t5 t7 t8 t10 t13 t14 t15 t25 t26 t27 t31 h c df).trans e) hq k
theorem f49_Z49002 {rd : Option Nat} {t2 t3 t4 t5 t7 t8 t10 t13 t14 t15 t25 t26 t27 t31 : Value} {h : FH} {c : Nat} {df : List Nat} {q : Rt FH} (e : f49_L49002 G rd t2 t3 t4 t5 t7 t8 t10 t13 t14 t15 t25 t26 t27 t31 h c df = some q) (hq : q.e ≠ .normal) : G (f49_k49002 rd) [t2, t3, t4, t5, t7, t8, t10, t13, t14, t15, t25, t26, t27, t31] h c df = some q := runG_lp_last ((f49_L49002_eq G rd t2 t3 t4 t5 t7 t8 t10 t13 t14 t15 t25 t26 t27 t31 h c df).trans e) hq
theorem f49_N49001 {rd : Option Nat} {t2 t3 t4 t5 t7 t8 t13 t14 t15 t25 t26 t27 : Value} {h : FH} {c : Nat} {df : List Nat} {q r : Rt FH} (e : f49_L49001 G rd t2 t3 t4 t5 t7 t8 t13 t14 t15 t25 t26 t27 h c df = some q) (hq : q.e = .normal) (k : G (f49_k49001 rd) q.vs q.h q.c q.df = some r) : G (f49_k49001 rd) [t2, t3, t4, t5, t7, t8, t13, t14, t15, t25, t26, t27] h c df = some r := runG_lp_next ((f49_L49001_eq G rd t2 t3 t4 t5 t7 t8 t13 t14 t15 t25 t26 t27 h c df).trans e) hq k
theorem f49_Z49001 {rd : Option Nat} {t2 t3 t4 t5 t7 t8 t13 t14 t15 t25 t26 t27 : Value} {h : FH} {c : Nat} {df : List Nat} {q : Rt FH} (e : f49_L49001 G rd t2 t3 t4 t5 t7 t8 t13 t14 t15 t25 t26 t27 h c df = some q) (hq : q.e ≠ .normal) : G (f49_k49001 rd) [t2, t3, t4, t5, t7, t8, t13, t14, t15, t25, t26, t27] h c df = some q := runG_lp_last ((f49_L49001_eq G rd t2 t3 t4 t5 t7 t8 t13 t14 t15 t25 t26 t27 h c df).trans e) hq
theorem f49_N49000 {rd : Option Nat} {t2 t3 t4 t5 t13 t14 t15 : Value} {h : FH} {c : Nat} {df : List Nat} {q r : Rt FH} (e : f49_L49000 G rd t2 t3 t4 t5 t13 t14 t15 h c df = some q) (hq : q.e = .normal) (k : G (f49_k49000 rd) q.vs q.h q.c q.df = some r) : G (f49_k49000 rd) [t2, t3, t4, t5, t13, t14, t15] h c df = some r := runG_lp_next ((f49_L49000_eq G rd t2 t3 t4 t5 t13 t14 t15 h c df).trans e) hq k
theorem f49_Z49000 {rd : Option Nat} {t2 t3 t4 t5 t13 t14 t15 : Value} {h : FH} {c : Nat} {df : List Nat} {q : Rt FH} (e : f49_L49000 G rd t2 t3 t4 t5 t13 t14 t15 h c df = some q) (hq : q.e ≠ .normal) : G (f49_k49000 rd) [t2, t3, t4, t5, t13, t14, t15] h c df = some q := runG_lp_last ((f49_L49000_eq G rd t2 t3 t4 t5 t13 t14 t15 h c df).trans e) hq
noncomputable def f50_L50000 (o : Orc H) (rd : Option Nat) (t1 t2 t3 t4 : Value) (h : H) (c : Nat) (df : List Nat) : Option (Rt H) :=
 (aBinOp P .lss 3 t4 (.int .i64 4)).bind fun t6 =>
 boolK t6
 ((ixA 4 1 t1 t4).bind fun t10 =>
 (ld1 h t10).bind fun t11 =>
 (aBinOp P .lss 3 t11 (.int .i64 0)).bind fun t12 =>
 ((gv t12 false).bind fun w => cond w (ret1 h ((c + 1) + 1) (some t4)) (some (undef, h, ((c + 1) + 1)))).bind fun r0 =>
 ((gv t12 false).bind fun w => cond w (ret1 r0.2.1 r0.2.2 (ixA 4 1 t1 r0.1)) (some (undef, r0.2.1, r0.2.2))).bind fun r1 =>
 ((gv t12 false).bind fun w => cond w (ret1 r1.2.1 r1.2.2 (ld1 r1.2.1 r1.1)) (some (undef, r1.2.1, r1.2.2))).bind fun r2 =>
 ((gv t12 false).bind fun w => cond w (ret1 r2.2.1 r2.2.2 (aBinOp P .gtr 3 r2.1 (.int .i64 3))) (some (undef, r2.2.1, r2.2.2))).bind fun r3 =>
 (pickV t12 (.bool true) r3.1).bind fun t18 =>
 ((gv t18 false).bind fun w => cond w (ret1 r3.2.1 r3.2.2 (some t4)) (some (undef, r3.2.1, r3.2.2))).bind fun r4 =>
 ((gv t18 false).bind fun w => cond w (ret1 r4.2.1 r4.2.2 (ixA 4 1 t1 r4.1)) (some (undef, r4.2.1, r4.2.2))).bind fun r5 =>
 ((gv t18 false).bind fun w => cond w (ret1 r5.2.1 r5.2.2 (ld1 r5.2.1 r5.1)) (some (undef, r5.2.1, r5.2.2))).bind fun r6 =>
 ((gv t18 false).bind fun w => cond w (ret1 r6.2.1 r6.2.2 (ixA 4 1 t3 r6.1)) (some (undef, r6.2.1, r6.2.2))).bind fun r7 =>
 ((gv t18 false).bind fun w => cond w (ret1 r7.2.1 r7.2.2 (ld1 r7.2.1 r7.1)) (some (undef, r7.2.1, r7.2.2))).bind fun r8 =>
 (pickV t18 (.bool true) r8.1).bind fun t25 =>
 boolK t25
  (some { e := .ret, vs := [t1, (.bool false), t3, t4], h := r8.2.1, c := (r8.2.2 + 1), df := df })
  ((ixA 4 1 t1 t4).bind fun t27 =>
  (ld1 r8.2.1 t27).bind fun t28 =>
  (ixA 4 1 t3 t28).bind fun t29 =>
  (stN r8.2.1 1 t29 (.bool true)).bind fun h11 =>
  (aBinOp P .add 3 t4 (.int .i64 1)).bind fun t8 =>
  some { e := .normal, vs := [t1, t2, t3, t8], h := h11, c := ((r8.2.2 + 1) + 1), df := df }))
 (some { e := (.exit 0), vs := [t1, t2, t3, t4], h := h, c := (c + 1), df := df })
theorem f50_L50000_eq (o : Orc H) (rd : Option Nat) (t1 t2 t3 t4 : Value) (h : H) (c : Nat) (df : List Nat) : jx P o 30 rd f50_c50000 (tmOf [1, 2, 3, 4] [t1, t2, t3, t4]) h c df (Klp [1, 2, 3, 4]) = f50_L50000 o rd t1 t2 t3 t4 h c df := by kernel_rfl
noncomputable def f50_S (o : Orc H) (t0 : Value) (h : H) (c : Nat) : Option (Rt H) :=
 (bif (t0 : Value).cells.toList.all isFlat then
 (o (f50_k50000 none) [(ptrTo (256 * c + 0)), (.bool false), (ptrTo (256 * (c + 1) + 0)), (.int .i64 0)] (newB (newB h (256 * c + 0) (t0 : Value).cells.toList) (256 * (c + 1) + 0) [(.bool false), (.bool false), (.bool false), (.bool false)]) (((c + 1) + 1) + 1) []).bind fun r0 =>
 cond (exIs r0.e (.exit 0))
 ((takeAll r0.h r0.df).bind fun h2 =>
 some { e := .ret, vs := [(.bool true)], h := h2, c := (r0.c + 1), df := [] })
 (cond (exIs r0.e .ret)
  ((takeAll r0.h r0.df).bind fun h1 =>
  some { e := .ret, vs := [(r0.v 1)], h := h1, c := r0.c, df := [] })
  (none))
 else none)
theorem f50_S_eq (o : Orc H) (t0 : Value) (h : H) (c : Nat) : jx P o 30 none f50_c (tmOf (List.range 1) [t0]) h c [] (Kfn P Try.f50.results.toList) = f50_S o t0 h c := by kernel_rfl
theorem f50_go {t0 : Value} {h : FH} {c : Nat} {df : List Nat} {r : Rt FH} (e : f50_S G t0 h c = some r) : G (.fn 50) [t0] h c df = some (gcR h c [] r) := runG_fn (a := f50_f) bk_50 rfl (fun args h c => by cases args <;> rfl) rfl ((f50_S_eq G t0 h c).trans e)
theorem f50_N50000 {rd : Option Nat} {t1 t2 t3 t4 : Value} {h : FH} {c : Nat} {df : List Nat} {q r : Rt FH} (e : f50_L50000 G rd t1 t2 t3 t4 h c df = some q) (hq : q.e = .normal) (k : G (f50_k50000 rd) q.vs (gcR h c df q).h (gcR h c df q).c q.df = some r) : G (f50_k50000 rd) [t1, t2, t3, t4] h c df = some r := runG_lp_next ((f50_L50000_eq G rd t1 t2 t3 t4 h c df).trans e) hq k
theorem f50_Z50000 {rd : Option Nat} {t1 t2 t3 t4 : Value} {h : FH} {c : Nat} {df : List Nat} {q : Rt FH} (e : f50_L50000 G rd t1 t2 t3 t4 h c df = some q) (hq : q.e ≠ .normal) : G (f50_k50000 rd) [t1, t2, t3, t4] h c df = some (gcR h c df q) := runG_lp_last ((f50_L50000_eq G rd t1 t2 t3 t4 h c df).trans e) hq
noncomputable def f57_R57000 (o : Orc H) (l : Nat) (t13 t14 t1 t2 t3 : Value) (h : H) (c : Nat) : Option (Rt H) :=
 (stN (newB h (256 * c + 0) [(.int .i64 0), (.int .i64 0)]) 2 (ptrTo (256 * c + 0)) t13).bind fun h1 =>
 (stN (newB h1 (256 * (c + 1) + 0) [(.int .i64 0), (.int .i64 0), (.int .i64 0), (.int .i64 0), (.int .i64 0)]) 5 (ptrTo (256 * (c + 1) + 0)) t14).bind fun h3 =>
 (beginSt h3 l).bind fun h4 =>
 ((ldN h4 5 (ptrTo (256 * (c + 1) + 0))).bind fun t15 =>
 (ldN h4 5 t3).bind fun t16 =>
 (aBinOp P .eql 72 t15 t16).bind fun t17 =>
 boolK t17
  (some { e := .normal, vs := [], h := h4, c := (((c + 1) + 1) + 1), df := [] })
  ((addOff (ptrTo (256 * (c + 1) + 0)) 0).bind fun t18 =>
  (ld1 h4 t18).bind fun t19 =>
  (aBinOp P .lss 3 t19 (.int .i64 0)).bind fun t20 =>
  ((gv t20 false).bind fun w => cond w (ret1 h4 ((((c + 1) + 1) + 1) + 1) (addOff (ptrTo (256 * (c + 1) + 0)) 0)) (some (undef, h4, ((((c + 1) + 1) + 1) + 1)))).bind fun r5 =>
  ((gv t20 false).bind fun w => cond w (ret1 r5.2.1 r5.2.2 (ld1 r5.2.1 r5.1)) (some (undef, r5.2.1, r5.2.2))).bind fun r6 =>
  ((gv t20 false).bind fun w => cond w (ret1 r6.2.1 r6.2.2 (addOff t1 0)) (some (undef, r6.2.1, r6.2.2))).bind fun r7 =>
  ((gv t20 false).bind fun w => cond w (ret1 r7.2.1 r7.2.2 (ld1 r7.2.1 r7.1)) (some (undef, r7.2.1, r7.2.2))).bind fun r8 =>
  ((gv t20 false).bind fun w => cond w (((lenS r8.1).bind fun v => some (v, r8.2.1)).bind fun r => some (r.1, r.2, r8.2.2)) (some (undef, r8.2.1, r8.2.2))).bind fun r9 =>
  ((gv t20 false).bind fun w => cond w (ret1 r9.2.1 r9.2.2 (aBinOp P .geq 3 r6.1 r9.1)) (some (undef, r9.2.1, r9.2.2))).bind fun r10 =>
  (pickV t20 (.bool true) r10.1).bind fun t28 =>
  ((gv t28 false).bind fun w => cond w (ret1 r10.2.1 r10.2.2 (addOff (ptrTo (256 * (c + 1) + 0)) 1)) (some (undef, r10.2.1, r10.2.2))).bind fun r11 =>
  ((gv t28 false).bind fun w => cond w (ret1 r11.2.1 r11.2.2 (ldN r11.2.1 4 r11.1)) (some (undef, r11.2.1, r11.2.2))).bind fun r12 =>
  ((gv t28 false).bind fun w => cond w (callF o 60 [r12.1] r12.2.1 r12.2.2) (some (undef, r12.2.1, r12.2.2))).bind fun r13 =>
  ((gv t28 false).bind fun w => cond w (ret1 r13.2.1 r13.2.2 (aUnOp .not r13.1)) (some (undef, r13.2.1, r13.2.2))).bind fun r14 =>
  (pickV t28 (.bool true) r14.1).bind fun t34 =>
  ((gv t34 false).bind fun w => cond w (ret1 r14.2.1 r14.2.2 (addOff (ptrTo (256 * (c + 1) + 0)) 0)) (some (undef, r14.2.1, r14.2.2))).bind fun r15 =>
  ((gv t34 false).bind fun w => cond w (ret1 r15.2.1 r15.2.2 (ld1 r15.2.1 r15.1)) (some (undef, r15.2.1, r15.2.2))).bind fun r16 =>
  ((gv t34 false).bind fun w => cond w (ret1 r16.2.1 r16.2.2 (addOff (ptrTo (256 * c + 0)) 0)) (some (undef, r16.2.1, r16.2.2))).bind fun r17 =>
  ((gv t34 false).bind fun w => cond w (ret1 r17.2.1 r17.2.2 (ld1 r17.2.1 r17.1)) (some (undef, r17.2.1, r17.2.2))).bind fun r18 =>
  ((gv t34 false).bind fun w => cond w (ret1 r18.2.1 r18.2.2 (aBinOp P .eql 3 r16.1 r18.1)) (some (undef, r18.2.1, r18.2.2))).bind fun r19 =>
  ((gv t34 false).bind fun w => cond w (ret1 r19.2.1 r19.2.2 (some r19.1)) (some (undef, r19.2.1, r19.2.2))).bind fun r20 =>
  ((gv r20.1 true).bind fun w => cond w (ret1 r20.2.1 r20.2.2 (addOff (ptrTo (256 * c + 0)) 1)) (some (undef, r20.2.1, r20.2.2))).bind fun r21 =>
  ((gv r20.1 true).bind fun w => cond w (ret1 r21.2.1 r21.2.2 (ld1 r21.2.1 r21.1)) (some (undef, r21.2.1, r21.2.2))).bind fun r22 =>
  ((gv r20.1 true).bind fun w => cond w (ret1 r22.2.1 r22.2.2 (addOff (ptrTo (256 * (c + 1) + 0)) 1)) (some (undef, r22.2.1, r22.2.2))).bind fun r23 =>
  ((gv r20.1 true).bind fun w => cond w (ret1 r23.2.1 r23.2.2 (ixA 4 1 r23.1 r22.1)) (some (undef, r23.2.1, r23.2.2))).bind fun r24 =>
  ((gv r20.1 true).bind fun w => cond w (ret1 r24.2.1 r24.2.2 (ld1 r24.2.1 r24.1)) (some (undef, r24.2.1, r24.2.2))).bind fun r25 =>
  ((gv r20.1 true).bind fun w => cond w (ret1 r25.2.1 r25.2.2 (addOff (ptrTo (256 * c + 0)) 1)) (some (undef, r25.2.1, r25.2.2))).bind fun r26 =>
  ((gv r20.1 true).bind fun w => cond w (ret1 r26.2.1 r26.2.2 (ld1 r26.2.1 r26.1)) (some (undef, r26.2.1, r26.2.2))).bind fun r27 =>
  ((gv r20.1 true).bind fun w => cond w (ret1 r27.2.1 r27.2.2 (aBinOp P .eql 3 r25.1 r27.1)) (some (undef, r27.2.1, r27.2.2))).bind fun r28 =>
  ((gv t34 false).bind fun w => cond w (pickR r28.2.1 r28.2.2 r20.1 r28.1 (.bool false)) (some (undef, r28.2.1, r28.2.2))).bind fun r29 =>
  (pickV t34 (.bool true) r29.1).bind fun t51 =>
  boolK t51
   ((stN r29.2.1 1 t2 (.int .i64 7)).bind fun h31 =>
   some { e := .ret, vs := [], h := h31, c := (r29.2.2 + 1), df := [] })
   ((addOff t1 0).bind fun t52 =>
   (ld1 r29.2.1 t52).bind fun t53 =>
   (addOff (ptrTo (256 * (c + 1) + 0)) 0).bind fun t54 =>
   (ld1 r29.2.1 t54).bind fun t55 =>
   (addOff (ptrTo (256 * c + 0)) 1).bind fun t56 =>
   (ld1 r29.2.1 t56).bind fun t57 =>
   (addOff (ptrTo (256 * (c + 1) + 0)) 1).bind fun t58 =>
   (ixA 4 1 t58 t57).bind fun t59 =>
   (ld1 r29.2.1 t59).bind fun t60 =>
   (ixS 20 t53 t55).bind fun t61 =>
   (ixA 4 5 t61 t60).bind fun t62 =>
   (ldN r29.2.1 5 t62).bind fun t63 =>
   (addOff (ptrTo (256 * c + 0)) 0).bind fun t64 =>
   (ld1 r29.2.1 t64).bind fun t65 =>
   (addOff (ptrTo (256 * (c + 1) + 0)) 1).bind fun t66 =>
   (ldN r29.2.1 4 t66).bind fun t67 =>
   (callF o 66 [t67] r29.2.1 (r29.2.2 + 1)).bind fun r32 =>
   (bldV [(.int .i64 0), (.int .i64 0), (.int .i64 0), (.int .i64 0), (.int .i64 0)] [(0, 1, t65), (1, 4, r32.1)]).bind fun t69 =>
   (aBinOp P .neq 72 t63 t69).bind fun t70 =>
   (bif (sameB (ridV t52) r29.2.1 r32.2.1 && (sameB (ridV t54) r29.2.1 r32.2.1 && (sameB (ridV t56) r29.2.1 r32.2.1 && (sameB (ridV t59) r29.2.1 r32.2.1 && (sameB (ridV t62) r29.2.1 r32.2.1 && (sameB (ridV t64) r29.2.1 r32.2.1 && true)))))) then
   boolK t70
    ((stN r32.2.1 1 t2 (.int .i64 7)).bind fun h34 =>
    some { e := .ret, vs := [], h := h34, c := (r32.2.2 + 1), df := [] })
    (some { e := .normal, vs := [], h := r32.2.1, c := r32.2.2, df := [] })
   else none))) : Option (Rt H)).bind fun r35 =>
 cond (exIs r35.e .normal)
 ((setState r35.h l .ready none).bind fun h37 =>
 cond (List.isEmpty (r35.df : List Nat)) (some { e := .ret, vs := [.bool true], h := h37, c := r35.c, df := [] }) none)
 (cond (exIs r35.e .ret)
  ((setState r35.h l .done (some .ret)).bind fun h36 =>
  cond (List.isEmpty (r35.df : List Nat)) (some { e := .ret, vs := [.bool false], h := h36, c := r35.c, df := [] }) none)
  (none))
theorem f57_R57000_eq (o : Orc H) (l : Nat) (t13 t14 t1 t2 t3 : Value) (h : H) (c : Nat) : jx P o 71 (some l) f57_a57000 (tmOf ([13, 14] ++ [1, 2, 3]) [t13, t14, t1, t2, t3]) h c [] (rndK P o 71 l f57_c57000) = f57_R57000 o l t13 t14 t1 t2 t3 h c := by kernel_rfl
noncomputable def f57_S (o : Orc H) (t0 : Value) (h : H) (c : Nat) : Option (Rt H) :=
 (bif (t0 : Value).cells.toList.all isFlat then
 (addOff (ptrTo (256 * c + 0)) 0).bind fun t6 =>
 (ld1 (newB (newB h (256 * c + 0) (t0 : Value).cells.toList) (256 * c + 1) [(.int .i64 0)]) t6).bind fun t7 =>
 (lenS t7).bind fun t8 =>
 (aBinOp P .gtr 3 t8 (.int .i64 1000)).bind fun t9 =>
 boolK t9
 ((stN (newB (newB h (256 * c + 0) (t0 : Value).cells.toList) (256 * c + 1) [(.int .i64 0)]) 1 (ptrTo (256 * c + 1)) (.int .i64 7)).bind fun h1 =>
 (ld1 h1 (ptrTo (256 * c + 1))).bind fun v2 =>
 some { e := .ret, vs := [v2], h := h1, c := (((c + 1) + 1) + 1), df := [] })
 ((bldV [(.int .i64 0), (.int .i64 0), (.int .i64 0), (.int .i64 0), (.int .i64 0)] [(0, 1, (.int .i64 (-1)))]).bind fun t10 =>
 (stN (newB (newB (newB h (256 * c + 0) (t0 : Value).cells.toList) (256 * c + 1) [(.int .i64 0)]) (256 * ((c + 1) + 1) + 1) [(.int .i64 0), (.int .i64 0), (.int .i64 0), (.int .i64 0), (.int .i64 0)]) 5 (ptrTo (256 * ((c + 1) + 1) + 1)) t10).bind fun h4 =>
 (ldN h4 1 (ptrTo (256 * c + 0))).bind fun t11 =>
 (callF o 71 [t11] h4 ((((c + 1) + 1) + 1) + 1)).bind fun r5 =>
 (rangeV o 71 none [1, 2, 3] [] #[13, 14] f57_a57000 f57_c57000 r5.1 [(ptrTo (256 * c + 0)), (ptrTo (256 * c + 1)), (ptrTo (256 * ((c + 1) + 1) + 1))] r5.2.1 r5.2.2 []).bind fun q6 =>
 cond (exIs q6.1 .normal)
  ((stN q6.2.1 1 (ptrTo (256 * c + 1)) (.int .i64 0)).bind fun h10 =>
  (takeAll h10 q6.2.2.2).bind fun h11 =>
  (ld1 h11 (ptrTo (256 * c + 1))).bind fun v12 =>
  some { e := .ret, vs := [v12], h := h11, c := (q6.2.2.1 + 1), df := [] })
  (cond (exIs q6.1 .ret)
   ((takeAll q6.2.1 q6.2.2.2).bind fun h7 =>
   (ld1 h7 (ptrTo (256 * c + 1))).bind fun v8 =>
   some { e := .ret, vs := [v8], h := h7, c := q6.2.2.1, df := [] })
   (none)))
 else none)
theorem f57_S_eq (o : Orc H) (t0 : Value) (h : H) (c : Nat) : jx P o 71 none f57_c (tmOf (List.range 1) [t0]) h c [] (Kfn P Try.f57.results.toList) = f57_S o t0 h c := by kernel_rfl
theorem f57_go {t0 : Value} {h : FH} {c : Nat} {df : List Nat} {r : Rt FH} (e : f57_S G t0 h c = some r) : G (.fn 57) [t0] h c df = some (gcR h c [] r) := runG_fn (a := f57_f) bk_57 rfl (fun args h c => by cases args <;> rfl) rfl ((f57_S_eq G t0 h c).trans e)
theorem f57_G57000 {t13 t14 t1 t2 t3 : Value} {l : Nat} {h : FH} {c : Nat} {df : List Nat} {r : Rt FH} (e : f57_R57000 G l t13 t14 t1 t2 t3 h c = some r) : G (.rnd 71 [1, 2, 3] [] [13, 14] l f57_a57000 f57_c57000) [t13, t14, t1, t2, t3] h c df = some r := runG_rnd ((f57_R57000_eq G l t13 t14 t1 t2 t3 h c).trans e)
end Go.Proofs.Ytemkjcpfgmbibaa

namespace Go.Proofs.Ytemkjcpfgmbibaa
open Go Go.Ab Go.Proofs
set_option maxRecDepth 100000
set_option linter.unusedVariables false
variable {H : Type} [HeapC H]
noncomputable def f58_L58000 (o : Orc H) (rd : Option Nat) (t1 t4 t17 t18 : Value) (h : H) (c : Nat) (df : List Nat) : Option (Rt H) :=
 (aBinOp P .lss 3 t18 t17).bind fun t19 =>
 boolK t19
 ((ixS 1 t4 t18).bind fun t23 =>
 (stN h 1 t23 (.int .i64 (-1))).bind fun h1 =>
 (aBinOp P .add 3 t18 (.int .i64 1)).bind fun t24 =>
 some { e := .normal, vs := [t1, t4, t17, t24], h := h1, c := ((((c + 1) + 1) + 1) + 1), df := df })
 (some { e := (.exit 0), vs := [t1, t4, t17, t18], h := h, c := (c + 1), df := df })
theorem f58_L58000_eq (o : Orc H) (rd : Option Nat) (t1 t4 t17 t18 : Value) (h : H) (c : Nat) (df : List Nat) : jx P o 85 rd f58_c58000 (tmOf [1, 4, 17, 18] [t1, t4, t17, t18]) h c df (Klp [1, 4, 17, 18]) = f58_L58000 o rd t1 t4 t17 t18 h c df := by kernel_rfl
noncomputable def f58_L58003 (o : Orc H) (rd : Option Nat) (t1 t4 t6 t8 t9 t26 t27 t54 t55 : Value) (h : H) (c : Nat) (df : List Nat) : Option (Rt H) :=
 (aBinOp P .lss 3 t55 (.int .i64 4)).bind fun t56 =>
 boolK t56
 ((ixV 4 true 5 t54 t55).bind fun t57 =>
 (stN (newB h (256 * (c + 1) + 1) [(.int .i64 0), (.int .i64 0), (.int .i64 0), (.int .i64 0), (.int .i64 0)]) 5 (ptrTo (256 * (c + 1) + 1)) t57).bind fun h1 =>
 (addOff (ptrTo (256 * (c + 1) + 1)) 0).bind fun t58 =>
 (ld1 h1 t58).bind fun t59 =>
 (aBinOp P .geq 3 t59 (.int .i64 0)).bind fun t60 =>
 ((gv t60 true).bind fun w => cond w (ret1 h1 (((c + 1) + 1) + 1) (some t4)) (some (undef, h1, (((c + 1) + 1) + 1)))).bind fun r2 =>
 ((gv t60 true).bind fun w => cond w (ret1 r2.2.1 r2.2.2 (addOff (ptrTo (256 * (c + 1) + 1)) 0)) (some (undef, r2.2.1, r2.2.2))).bind fun r3 =>
 ((gv t60 true).bind fun w => cond w (ret1 r3.2.1 r3.2.2 (ld1 r3.2.1 r3.1)) (some (undef, r3.2.1, r3.2.2))).bind fun r4 =>
 ((gv t60 true).bind fun w => cond w (ret1 r4.2.1 r4.2.2 (ixS 1 r2.1 r4.1)) (some (undef, r4.2.1, r4.2.2))).bind fun r5 =>
 ((gv t60 true).bind fun w => cond w (ret1 r5.2.1 r5.2.2 (ld1 r5.2.1 r5.1)) (some (undef, r5.2.1, r5.2.2))).bind fun r6 =>
 ((gv t60 true).bind fun w => cond w (ret1 r6.2.1 r6.2.2 (aBinOp P .lss 3 r6.1 (.int .i64 0))) (some (undef, r6.2.1, r6.2.2))).bind fun r7 =>
 (pickV t60 r7.1 (.bool false)).bind fun t68 =>
 (boolK t68
   ((addOff (ptrTo (256 * (c + 1) + 1)) 0).bind fun t70 =>
   (ld1 r7.2.1 t70).bind fun t71 =>
   (ixS 1 t4 t71).bind fun t73 =>
   (stN r7.2.1 1 t73 t6).bind fun h9 =>
   (addOff (ptrTo (256 * (c + 1) + 1)) 0).bind fun t75 =>
   (ld1 h9 t75).bind fun t76 =>
   (bldL [(.int .i64 0)] [(0, 1, t76)]).bind fun r10 =>
   (appV (newB h9 (256 * (r7.2.2 + 1) + 3) r10) (256 * (r7.2.2 + 1) + 4) 1 8 t8 (.slice (some ⟨(256 * (r7.2.2 + 1) + 3), 0, none⟩) 1 1)).bind fun r11 =>
   some { e := .normal, vs := [t1, t4, t6, r11.1, t9, t26, t27, t54, t55], h := r11.2, c := ((r7.2.2 + 1) + 1), df := df })
   (some { e := .normal, vs := [t1, t4, t6, t8, t9, t26, t27, t54, t55], h := r7.2.1, c := r7.2.2, df := df }) : Option (Rt H)).bind fun r13 =>
 cond (exIs r13.e .normal)
  ((aBinOp P .add 3 (r13.v 8) (.int .i64 1)).bind fun t79 =>
  some { e := .normal, vs := [(r13.v 0), (r13.v 1), (r13.v 2), (r13.v 3), (r13.v 4), (r13.v 5), (r13.v 6), (r13.v 7), t79], h := r13.h, c := (r13.c + 1), df := r13.df })
  (none))
 (some { e := (.exit 6), vs := [t1, t4, t6, t8, t9, t26, t27, t54, t55], h := h, c := (c + 1), df := df })
theorem f58_L58003_eq (o : Orc H) (rd : Option Nat) (t1 t4 t6 t8 t9 t26 t27 t54 t55 : Value) (h : H) (c : Nat) (df : List Nat) : jx P o 85 rd f58_c58003 (tmOf [1, 4, 6, 8, 9, 26, 27, 54, 55] [t1, t4, t6, t8, t9, t26, t27, t54, t55]) h c df (Klp [1, 4, 6, 8, 9, 26, 27, 54, 55]) = f58_L58003 o rd t1 t4 t6 t8 t9 t26 t27 t54 t55 h c df := by kernel_rfl
noncomputable def f58_L58002 (o : Orc H) (rd : Option Nat) (t1 t4 t6 t8 t9 t26 t27 : Value) (h : H) (c : Nat) (df : List Nat) : Option (Rt H) :=
 (lenS t8).bind fun t43 =>
 (aBinOp P .lss 3 t9 t43).bind fun t44 =>
 boolK t44
 ((addOff t1 0).bind fun t47 =>
 (ld1 h t47).bind fun t48 =>
 (ixS 1 t8 t9).bind fun t51 =>
 (ld1 h t51).bind fun t52 =>
 (ixS 20 t48 t52).bind fun t53 =>
 (ldN h 20 t53).bind fun t54 =>
 (o (f58_k58003 rd) [t1, t4, t6, t8, t9, t26, t27, t54, (.int .i64 0)] h ((c + 1) + 1) df).bind fun r0 =>
 cond (exIs r0.e (.exit 6))
  ((aBinOp P .add 3 (r0.v 4) (.int .i64 1)).bind fun t46 =>
  some { e := .normal, vs := [(r0.v 0), (r0.v 1), (r0.v 2), (r0.v 3), t46, (r0.v 5), (r0.v 6)], h := r0.h, c := (r0.c + 1), df := r0.df })
  (none))
 (some { e := (.exit 4), vs := [t1, t4, t6, t8, t9, t26, t27], h := h, c := (c + 1), df := df })
theorem f58_L58002_eq (o : Orc H) (rd : Option Nat) (t1 t4 t6 t8 t9 t26 t27 : Value) (h : H) (c : Nat) (df : List Nat) : jx P o 85 rd f58_c58002 (tmOf [1, 4, 6, 8, 9, 26, 27] [t1, t4, t6, t8, t9, t26, t27]) h c df (Klp [1, 4, 6, 8, 9, 26, 27]) = f58_L58002 o rd t1 t4 t6 t8 t9 t26 t27 h c df := by kernel_rfl
noncomputable def f58_L58001 (o : Orc H) (rd : Option Nat) (t1 t4 t6 t26 t27 : Value) (h : H) (c : Nat) (df : List Nat) : Option (Rt H) :=
 (aBinOp P .lss 3 t27 t26).bind fun t28 =>
 boolK t28
 (((ixS 1 t4 t27).bind fun t32 =>
  (ld1 h t32).bind fun t33 =>
  (aBinOp P .geq 3 t33 (.int .i64 0)).bind fun t34 =>
  boolK t34
   (some { e := .normal, vs := [t1, t4, t6, t26, t27], h := h, c := (((c + 1) + 1) + 1), df := df })
   ((ixS 1 t4 t27).bind fun t38 =>
   (stN h 1 t38 t6).bind fun h1 =>
   (bldL [(.int .i64 0)] [(0, 1, t27)]).bind fun r2 =>
   (o (f58_k58002 rd) [t1, t4, t6, (.slice (some ⟨(256 * ((((c + 1) + 1) + 1) + 1) + 1), 0, none⟩) 1 1), (.int .i64 0), t26, t27] (newB h1 (256 * ((((c + 1) + 1) + 1) + 1) + 1) r2) ((((((c + 1) + 1) + 1) + 1) + 1) + 1) df).bind fun r3 =>
   cond (exIs r3.e (.exit 4))
    ((aBinOp P .add 3 (r3.v 2) (.int .i64 1)).bind fun t81 =>
    some { e := .normal, vs := [(r3.v 0), (r3.v 1), t81, (r3.v 5), (r3.v 6)], h := r3.h, c := (r3.c + 1), df := r3.df })
    (none)) : Option (Rt H)).bind fun r5 =>
 cond (exIs r5.e .normal)
  ((aBinOp P .add 3 (r5.v 4) (.int .i64 1)).bind fun t82 =>
  some { e := .normal, vs := [(r5.v 0), (r5.v 1), (r5.v 2), (r5.v 3), t82], h := r5.h, c := (r5.c + 1), df := r5.df })
  (none))
 (some { e := (.exit 2), vs := [t1, t4, t6, t26, t27], h := h, c := (c + 1), df := df })
theorem f58_L58001_eq (o : Orc H) (rd : Option Nat) (t1 t4 t6 t26 t27 : Value) (h : H) (c : Nat) (df : List Nat) : jx P o 85 rd f58_c58001 (tmOf [1, 4, 6, 26, 27] [t1, t4, t6, t26, t27]) h c df (Klp [1, 4, 6, 26, 27]) = f58_L58001 o rd t1 t4 t6 t26 t27 h c df := by kernel_rfl
noncomputable def f58_S (o : Orc H) (t0 : Value) (h : H) (c : Nat) : Option (Rt H) :=
 (bif (t0 : Value).cells.toList.all isFlat then
 (addOff (ptrTo (256 * c + 0)) 0).bind fun t12 =>
 (ld1 (newB h (256 * c + 0) (t0 : Value).cells.toList) t12).bind fun t13 =>
 (lenS t13).bind fun t14 =>
 (mkS 1 8 [(.int .i64 0)] t14 t14).bind fun r0 =>
 (lenS (.slice (some ⟨(256 * (c + 1) + 3), 0, none⟩) r0.2.1 r0.2.2)).bind fun t17 =>
 (o (f58_k58000 none) [(ptrTo (256 * c + 0)), (.slice (some ⟨(256 * (c + 1) + 3), 0, none⟩) r0.2.1 r0.2.2), t17, (.int .i64 0)] (newB (newB h (256 * c + 0) (t0 : Value).cells.toList) (256 * (c + 1) + 3) r0.1) (((c + 1) + 1) + 1) []).bind fun r1 =>
 cond (exIs r1.e (.exit 0))
 ((lenS (r1.v 1)).bind fun t26 =>
 (o (f58_k58001 none) [(r1.v 0), (r1.v 1), (.int .i64 0), t26, (.int .i64 0)] r1.h ((r1.c + 1) + 1) r1.df).bind fun r2 =>
 cond (exIs r2.e (.exit 2))
  ((takeAll r2.h r2.df).bind fun h3 =>
  some { e := .ret, vs := [.tuple #[(r2.v 1), (r2.v 2)]], h := h3, c := (r2.c + 1), df := [] })
  (none))
 (none)
 else none)
theorem f58_S_eq (o : Orc H) (t0 : Value) (h : H) (c : Nat) : jx P o 85 none f58_c (tmOf (List.range 1) [t0]) h c [] (Kfn P Try.f58.results.toList) = f58_S o t0 h c := by kernel_rfl
theorem f58_go {t0 : Value} {h : FH} {c : Nat} {df : List Nat} {r : Rt FH} (e : f58_S G t0 h c = some r) : G (.fn 58) [t0] h c df = some (gcR h c [] r) := runG_fn (a := f58_f) bk_58 rfl (fun args h c => by cases args <;> rfl) rfl ((f58_S_eq G t0 h c).trans e)
theorem f58_N58000 {rd : Option Nat} {t1 t4 t17 t18 : Value} {h : FH} {c : Nat} {df : List Nat} {q r : Rt FH} (e : f58_L58000 G rd t1 t4 t17 t18 h c df = some q) (hq : q.e = .normal) (k : G (f58_k58000 rd) q.vs q.h q.c q.df = some r) : G (f58_k58000 rd) [t1, t4, t17, t18] h c df = some r := runG_lp_next ((f58_L58000_eq G rd t1 t4 t17 t18 h c df).trans e) hq k
theorem f58_Z58000 {rd : Option Nat} {t1 t4 t17 t18 : Value} {h : FH} {c : Nat} {df : List Nat} {q : Rt FH} (e : f58_L58000 G rd t1 t4 t17 t18 h c df = some q) (hq : q.e ≠ .normal) : G (f58_k58000 rd) [t1, t4, t17, t18] h c df = some q := runG_lp_last ((f58_L58000_eq G rd t1 t4 t17 t18 h c df).trans e) hq
theorem f58_N58003 {rd : Option Nat} {t1 t4 t6 t8 t9 t26 t27 t54 t55 : Value} {h : FH} {c : Nat} {df : List Nat} {q r : Rt FH} (e : f58_L58003 G rd t1 t4 t6 t8 t9 t26 t27 t54 t55 h c df = some q) (hq : q.e = .normal) (k : G (f58_k58003 rd) q.vs q.h q.c q.df = some r) : G (f58_k58003 rd) [t1, t4, t6, t8, t9, t26, t27, t54, t55] h c df = some r := runG_lp_next ((f58_L58003_eq G rd t1 t4 t6 t8 t9 t26 t27 t54 t55 h c df).trans e) hq k
theorem f58_Z58003 {rd : Option Nat} {t1 t4 t6 t8 t9 t26 t27 t54 t55 : Value} {h : FH} {c : Nat} {df : List Nat} {q : Rt FH} (e : f58_L58003 G rd t1 t4 t6 t8 t9 t26 t27 t54 t55 h c df = some q) (hq : q.e ≠ .normal) : G (f58_k58003 rd) [t1, t4, t6, t8, t9, t26, t27, t54, t55] h c df = some q := runG_lp_last ((f58_L58003_eq G rd t1 t4 t6 t8 t9 t26 t27 t54 t55 h c df).trans e) hq
theorem f58_N58002 {rd : Option Nat} {t1 t4 t6 t8 t9 t26 t27 : Value} {h : FH} {c : Nat} {df : List Nat} {q r : Rt FH} (e : f58_L58002 G rd t1 t4 t6 t8 t9 t26 t27 h c df = some q) (hq : q.e = .normal) (k : G (f58_k58002 rd) q.vs q.h q.c q.df = some r) : G (f58_k58002 rd) [t1, t4, t6, t8, t9, t26, t27] h c df = some r := runG_lp_next ((f58_L58002_eq G rd t1 t4 t6 t8 t9 t26 t27 h c df).trans e) hq k
theorem f58_Z58002 {rd : Option Nat} {t1 t4 t6 t8 t9 t26 t27 : Value} {h : FH} {c : Nat} {df : List Nat} {q : Rt FH} (e : f58_L58002 G rd t1 t4 t6 t8 t9 t26 t27 h c df = some q) (hq : q.e ≠ .normal) : G (f58_k58002 rd) [t1, t4, t6, t8, t9, t26, t27] h c df = some q := runG_lp_last ((f58_L58002_eq G rd t1 t4 t6 t8 t9 t26 t27 h c df).trans e) hq
theorem f58_N58001 {rd : Option Nat} {t1 t4 t6 t26 t27 : Value} {h : FH} {c : Nat} {df : List Nat} {q r : Rt FH} (e : f58_L58001 G rd t1 t4 t6 t26 t27 h c df = some q) (hq : q.e = .normal) (k : G (f58_k58001 rd) q.vs q.h q.c q.df = some r) : G (f58_k58001 rd) [t1, t4, t6, t26, t27] h c df = some r := runG_lp_next ((f58_L58001_eq G rd t1 t4 t6 t26 t27 h c df).trans e) hq k
theorem f58_Z58001 {rd : Option Nat} {t1 t4 t6 t26 t27 : Value} {h : FH} {c : Nat} {df : List Nat} {q : Rt FH} (e : f58_L58001 G rd t1 t4 t6 t26 t27 h c df = some q) (hq : q.e ≠ .normal) : G (f58_k58001 rd) [t1, t4, t6, t26, t27] h c df = some q := runG_lp_last ((f58_L58001_eq G rd t1 t4 t6 t26 t27 h c df).trans e) hq
noncomputable def f59_L59000 (o : Orc H) (rd : Option Nat) (t0 t4 : Value) (h : H) (c : Nat) (df : List Nat) : Option (Rt H) :=
 (aBinOp P .lss 3 t4 (.int .i64 256)).bind fun t5 =>
 boolK t5
 ((aBinOp P .shr 3 t4 (.int .u64 6)).bind fun t8 =>
 (aBinOp P .shr 3 t4 (.int .u64 4)).bind fun t10 =>
 (aBinOp P .and 3 t10 (.int .i64 3)).bind fun t11 =>
 (aBinOp P .shr 3 t4 (.int .u64 2)).bind fun t13 =>
 (aBinOp P .and 3 t13 (.int .i64 3)).bind fun t14 =>
 (aBinOp P .and 3 t4 (.int .i64 3)).bind fun t16 =>
 (bldV [(.int .i64 0), (.int .i64 0), (.int .i64 0), (.int .i64 0)] [(0, 1, t8), (1, 1, t11), (2, 1, t14), (3, 1, t16)]).bind fun t17 =>
 (stN (newB h (256 * ((c + 1) + 1) + 11) [(.int .i64 0), (.int .i64 0), (.int .i64 0), (.int .i64 0)]) 4 (ptrTo (256 * ((c + 1) + 1) + 11)) t17).bind fun h1 =>
 (ldN h1 4 (ptrTo (256 * ((c + 1) + 1) + 11))).bind fun t18 =>
 (callF o 60 [t18] h1 ((((c + 1) + 1) + 1) + 1)).bind fun r2 =>
 ((gv r2.1 true).bind fun w => cond w (ret1 r2.2.1 r2.2.2 (some t0)) (some (undef, r2.2.1, r2.2.2))).bind fun r3 =>
 ((gv r2.1 true).bind fun w => cond w (ret1 r3.2.1 r3.2.2 (ldN r3.2.1 4 (ptrTo (256 * ((c + 1) + 1) + 11)))) (some (undef, r3.2.1, r3.2.2))).bind fun r4 =>
 ((gv r2.1 true).bind fun w => cond w (callV o r4.2.1 r4.2.2 r3.1 [r4.1]) (some (undef, r4.2.1, r4.2.2))).bind fun r5 =>
 ((gv r2.1 true).bind fun w => cond w (ret1 r5.2.1 r5.2.2 (aUnOp .not r5.1)) (some (undef, r5.2.1, r5.2.2))).bind fun r6 =>
 (pickV r2.1 r6.1 (.bool false)).bind fun t25 =>
 boolK t25
  (some { e := .ret, vs := [t0, t4], h := r6.2.1, c := r6.2.2, df := df })
  ((aBinOp P .add 3 t4 (.int .i64 1)).bind fun t26 =>
  some { e := .normal, vs := [t0, t26], h := r6.2.1, c := (r6.2.2 + 1), df := df }))
 (some { e := (.exit 0), vs := [t0, t4], h := h, c := (c + 1), df := df })
theorem f59_L59000_eq (o : Orc H) (rd : Option Nat) (t0 t4 : Value) (h : H) (c : Nat) (df : List Nat) : jx P o 27 rd f59_c59000 (tmOf [0, 4] [t0, t4]) h c df (Klp [0, 4]) = f59_L59000 o rd t0 t4 h c df := by kernel_rfl
noncomputable def f59_S (o : Orc H) (t0 : Value) (h : H) (c : Nat) : Option (Rt H) :=
 (o (f59_k59000 none) [t0, (.int .i64 0)] h (c + 1) []).bind fun r0 =>
 cond (exIs r0.e (.exit 0))
 ((takeAll r0.h r0.df).bind fun h2 =>
 some { e := .ret, vs := [.tuple #[]], h := h2, c := r0.c, df := [] })
 (cond (exIs r0.e .ret)
  ((takeAll r0.h r0.df).bind fun h1 =>
  some { e := .ret, vs := [.tuple #[]], h := h1, c := r0.c, df := [] })
  (none))
theorem f59_S_eq (o : Orc H) (t0 : Value) (h : H) (c : Nat) : jx P o 27 none f59_c (tmOf (List.range 1) [t0]) h c [] (Kfn P Try.f59.results.toList) = f59_S o t0 h c := by kernel_rfl
theorem f59_go {t0 : Value} {h : FH} {c : Nat} {df : List Nat} {r : Rt FH} (e : f59_S G t0 h c = some r) : G (.fn 59) [t0] h c df = some (gcR h c [] r) := runG_fn (a := f59_f) bk_59 rfl (fun args h c => by cases args <;> rfl) rfl ((f59_S_eq G t0 h c).trans e)
theorem f59_N59000 {rd : Option Nat} {t0 t4 : Value} {h : FH} {c : Nat} {df : List Nat} {q r : Rt FH} (e : f59_L59000 G rd t0 t4 h c df = some q) (hq : q.e = .normal) (k : G (f59_k59000 rd) q.vs q.h q.c q.df = some r) : G (f59_k59000 rd) [t0, t4] h c df = some r := runG_lp_next ((f59_L59000_eq G rd t0 t4 h c df).trans e) hq k
theorem f59_Z59000 {rd : Option Nat} {t0 t4 : Value} {h : FH} {c : Nat} {df : List Nat} {q : Rt FH} (e : f59_L59000 G rd t0 t4 h c df = some q) (hq : q.e ≠ .normal) : G (f59_k59000 rd) [t0, t4] h c df = some q := runG_lp_last ((f59_L59000_eq G rd t0 t4 h c df).trans e) hq
noncomputable def f60_L60000 (o : Orc H) (rd : Option Nat) (t2 t3 t6 t7 : Value) (h : H) (c : Nat) (df : List Nat) : Option (Rt H) :=
 (aBinOp P .lss 3 t7 (.int .i64 4)).bind fun t8 =>
 boolK t8
 ((ixV 4 false 1 t6 t7).bind fun t9 =>
 (aBinOp P .lss 3 t9 (.int .i64 0)).bind fun t11 =>
 ((gv t11 false).bind fun w => cond w (ret1 h (((c + 1) + 1) + 1) (some t9)) (some (undef, h, (((c + 1) + 1) + 1)))).bind fun r0 =>
 ((gv t11 false).bind fun w => cond w (ret1 r0.2.1 r0.2.2 (aBinOp P .gtr 3 r0.1 (.int .i64 3))) (some (undef, r0.2.1, r0.2.2))).bind fun r1 =>
 (pickV t11 (.bool true) r1.1).bind fun t15 =>
 boolK t15
  (some { e := .ret, vs := [(.bool false), t3, t6, t7], h := r1.2.1, c := (r1.2.2 + 1), df := df })
  ((aBinOp P .shl 3 (.int .i64 1) t9).bind fun t18 =>
  (aBinOp P .or 3 t3 t18).bind fun t19 =>
  (aBinOp P .add 3 t7 (.int .i64 1)).bind fun t20 =>
  some { e := .normal, vs := [t2, t19, t6, t20], h := r1.2.1, c := ((r1.2.2 + 1) + 1), df := df }))
 (some { e := (.exit 0), vs := [t2, t3, t6, t7], h := h, c := (c + 1), df := df })
theorem f60_L60000_eq (o : Orc H) (rd : Option Nat) (t2 t3 t6 t7 : Value) (h : H) (c : Nat) (df : List Nat) : jx P o 23 rd f60_c60000 (tmOf [2, 3, 6, 7] [t2, t3, t6, t7]) h c df (Klp [2, 3, 6, 7]) = f60_L60000 o rd t2 t3 t6 t7 h c df := by kernel_rfl
noncomputable def f60_S (o : Orc H) (t0 : Value) (h : H) (c : Nat) : Option (Rt H) :=
 (bif (t0 : Value).cells.toList.all isFlat then
 (ldN (newB h (256 * c + 0) (t0 : Value).cells.toList) 4 (ptrTo (256 * c + 0))).bind fun t6 =>
 (o (f60_k60000 none) [(.bool false), (.int .i64 0), t6, (.int .i64 0)] (newB h (256 * c + 0) (t0 : Value).cells.toList) (((c + 1) + 1) + 1) []).bind fun r0 =>
 cond (exIs r0.e (.exit 0))
 ((aBinOp P .eql 3 (r0.v 1) (.int .i64 15)).bind fun t22 =>
 (takeAll r0.h r0.df).bind fun h2 =>
 some { e := .ret, vs := [t22], h := h2, c := (r0.c + 1), df := [] })
 (cond (exIs r0.e .ret)
  ((takeAll r0.h r0.df).bind fun h1 =>
  some { e := .ret, vs := [(r0.v 0)], h := h1, c := r0.c, df := [] })
  (none))
 else none)
theorem f60_S_eq (o : Orc H) (t0 : Value) (h : H) (c : Nat) : jx P o 23 none f60_c (tmOf (List.range 1) [t0]) h c [] (Kfn P Try.f60.results.toList) = f60_S o t0 h c := by kernel_rfl
theorem f60_go {t0 : Value} {h : FH} {c : Nat} {df : List Nat} {r : Rt FH} (e : f60_S G t0 h c = some r) : G (.fn 60) [t0] h c df = some (gcR h c [] r) := runG_fn (a := f60_f) bk_60 rfl (fun args h c => by cases args <;> rfl) rfl ((f60_S_eq G t0 h c).trans e)
theorem f60_N60000 {rd : Option Nat} {t2 t3 t6 t7 : Value} {h : FH} {c : Nat} {df : List Nat} {q r : Rt FH} (e : f60_L60000 G rd t2 t3 t6 t7 h c df = some q) (hq : q.e = .normal) (k : G (f60_k60000 rd) q.vs (gcR h c df q).h (gcR h c df q).c q.df = some r) : G (f60_k60000 rd) [t2, t3, t6, t7] h c df = some r := runG_lp_next ((f60_L60000_eq G rd t2 t3 t6 t7 h c df).trans e) hq k
theorem f60_Z60000 {rd : Option Nat} {t2 t3 t6 t7 : Value} {h : FH} {c : Nat} {df : List Nat} {q : Rt FH} (e : f60_L60000 G rd t2 t3 t6 t7 h c df = some q) (hq : q.e ≠ .normal) : G (f60_k60000 rd) [t2, t3, t6, t7] h c df = some (gcR h c df q) := runG_lp_last ((f60_L60000_eq G rd t2 t3 t6 t7 h c df).trans e) hq
noncomputable def f61_S (o : Orc H) (t0 t1 : Value) (h : H) (c : Nat) : Option (Rt H) :=
 (bif (t0 : Value).cells.toList.all isFlat then
 (bif (t1 : Value).cells.toList.all isFlat then
 (ldN (newB (newB (newB h (256 * c + 0) (t0 : Value).cells.toList) (256 * c + 1) (t1 : Value).cells.toList) (256 * c + 2) [(.int .i64 0), (.int .i64 0), (.int .i64 0), (.int .i64 0)]) 4 (ptrTo (256 * c + 0))).bind fun t5 =>
 (callF o 60 [t5] (newB (newB (newB h (256 * c + 0) (t0 : Value).cells.toList) (256 * c + 1) (t1 : Value).cells.toList) (256 * c + 2) [(.int .i64 0), (.int .i64 0), (.int .i64 0), (.int .i64 0)]) ((c + 1) + 1)).bind fun r0 =>
 (aUnOp .not r0.1).bind fun t7 =>
 ((gv t7 false).bind fun w => cond w (ret1 r0.2.1 r0.2.2 (ldN r0.2.1 4 (ptrTo (256 * c + 1)))) (some (undef, r0.2.1, r0.2.2))).bind fun r1 =>
 ((gv t7 false).bind fun w => cond w (callF o 60 [r1.1] r1.2.1 r1.2.2) (some (undef, r1.2.1, r1.2.2))).bind fun r2 =>
 ((gv t7 false).bind fun w => cond w (ret1 r2.2.1 r2.2.2 (aUnOp .not r2.1)) (some (undef, r2.2.1, r2.2.2))).bind fun r3 =>
 (pickV t7 (.bool true) r3.1).bind fun t12 =>
 boolK t12
 ((bldV [(.int .i64 0), (.int .i64 0), (.int .i64 0), (.int .i64 0)] []).bind fun t13 =>
 (stN r3.2.1 4 (ptrTo (256 * c + 2)) t13).bind fun h5 =>
 (ldN h5 4 (ptrTo (256 * c + 2))).bind fun v6 =>
 some { e := .ret, vs := [v6], h := h5, c := (r3.2.2 + 1), df := [] })
 ((ldN r3.2.1 4 (ptrTo (256 * c + 0))).bind fun t14 =>
 (ldN r3.2.1 4 (ptrTo (256 * c + 1))).bind fun t15 =>
 (callF o 65 [t14, t15] r3.2.1 (r3.2.2 + 1)).bind fun r7 =>
 (stN r7.2.1 4 (ptrTo (256 * c + 2)) r7.1).bind fun h9 =>
 (ldN h9 4 (ptrTo (256 * c + 2))).bind fun v10 =>
 some { e := .ret, vs := [v10], h := h9, c := r7.2.2, df := [] })
 else none)
 else none)
theorem f61_S_eq (o : Orc H) (t0 t1 : Value) (h : H) (c : Nat) : jx P o 17 none f61_c (tmOf (List.range 2) [t0, t1]) h c [] (Kfn P Try.f61.results.toList) = f61_S o t0 t1 h c := by kernel_rfl
theorem f61_go {t0 t1 : Value} {h : FH} {c : Nat} {df : List Nat} {r : Rt FH} (e : f61_S G t0 t1 h c = some r) : G (.fn 61) [t0, t1] h c df = some (gcR h c [] r) := runG_fn (a := f61_f) bk_61 rfl (fun args h c => by cases args <;> rfl) rfl ((f61_S_eq G t0 t1 h c).trans e)
noncomputable def f62_S (o : Orc H) (t0 : Value) (h : H) (c : Nat) : Option (Rt H) :=
 (bif (t0 : Value).cells.toList.all isFlat then
 (ldN (newB (newB h (256 * c + 0) (t0 : Value).cells.toList) (256 * c + 1) [(.int .i64 0), (.int .i64 0), (.int .i64 0), (.int .i64 0)]) 4 (ptrTo (256 * c + 0))).bind fun t3 =>
 (callF o 60 [t3] (newB (newB h (256 * c + 0) (t0 : Value).cells.toList) (256 * c + 1) [(.int .i64 0), (.int .i64 0), (.int .i64 0), (.int .i64 0)]) ((c + 1) + 1)).bind fun r0 =>
 (aUnOp .not r0.1).bind fun t5 =>
 boolK t5
 ((bldV [(.int .i64 0), (.int .i64 0), (.int .i64 0), (.int .i64 0)] []).bind fun t6 =>
 (stN r0.2.1 4 (ptrTo (256 * c + 1)) t6).bind fun h2 =>
 (ldN h2 4 (ptrTo (256 * c + 1))).bind fun v3 =>
 some { e := .ret, vs := [v3], h := h2, c := (r0.2.2 + 1), df := [] })
 ((ldN r0.2.1 4 (ptrTo (256 * c + 0))).bind fun t7 =>
 (callF o 66 [t7] r0.2.1 (r0.2.2 + 1)).bind fun r4 =>
 (stN r4.2.1 4 (ptrTo (256 * c + 1)) r4.1).bind fun h6 =>
 (ldN h6 4 (ptrTo (256 * c + 1))).bind fun v7 =>
 some { e := .ret, vs := [v7], h := h6, c := r4.2.2, df := [] })
 else none)
theorem f62_S_eq (o : Orc H) (t0 : Value) (h : H) (c : Nat) : jx P o 9 none f62_c (tmOf (List.range 1) [t0]) h c [] (Kfn P Try.f62.results.toList) = f62_S o t0 h c := by kernel_rfl
theorem f62_go {t0 : Value} {h : FH} {c : Nat} {df : List Nat} {r : Rt FH} (e : f62_S G t0 h c = some r) : G (.fn 62) [t0] h c df = some (gcR h c [] r) := runG_fn (a := f62_f) bk_62 rfl (fun args h c => by cases args <;> rfl) rfl ((f62_S_eq G t0 h c).trans e)
noncomputable def f63_S (o : Orc H) (t0 t1 : Value) (h : H) (c : Nat) : Option (Rt H) :=
 (callF o 72 [t0, t1] h ((c + 1) + 1)).bind fun r0 =>
 (aBinOp P .geq 3 r0.1 (.int .i64 0)).bind fun t8 =>
 some { e := .ret, vs := [t8], h := r0.2.1, c := r0.2.2, df := [] }
theorem f63_S_eq (o : Orc H) (t0 t1 : Value) (h : H) (c : Nat) : jx P o 9 none f63_c (tmOf (List.range 2) [t0, t1]) h c [] (Kfn P Try.f63.results.toList) = f63_S o t0 t1 h c := by kernel_rfl
theorem f63_go {t0 t1 : Value} {h : FH} {c : Nat} {df : List Nat} {r : Rt FH} (e : f63_S G t0 t1 h c = some r) : G (.fn 63) [t0, t1] h c df = some (gcR h c [] r) := runG_fn (a := f63_f) bk_63 rfl (fun args h c => by cases args <;> rfl) rfl ((f63_S_eq G t0 t1 h c).trans e)
noncomputable def f64_S (o : Orc H) (t0 : Value) (h : H) (c : Nat) : Option (Rt H) :=
 (bif (t0 : Value).cells.toList.all isFlat then
 (ldN (newB h (256 * c + 0) (t0 : Value).cells.toList) 4 (ptrTo (256 * c + 0))).bind fun t3 =>
 (callF o 60 [t3] (newB h (256 * c + 0) (t0 : Value).cells.toList) ((c + 1) + 1)).bind fun r0 =>
 (aUnOp .not r0.1).bind fun t5 =>
 some { e := .ret, vs := [t5], h := r0.2.1, c := r0.2.2, df := [] }
 else none)
theorem f64_S_eq (o : Orc H) (t0 : Value) (h : H) (c : Nat) : jx P o 6 none f64_c (tmOf (List.range 1) [t0]) h c [] (Kfn P Try.f64.results.toList) = f64_S o t0 h c := by kernel_rfl
theorem f64_go {t0 : Value} {h : FH} {c : Nat} {df : List Nat} {r : Rt FH} (e : f64_S G t0 h c = some r) : G (.fn 64) [t0] h c df = some (gcR h c [] r) := runG_fn (a := f64_f) bk_64 rfl (fun args h c => by cases args <;> rfl) rfl ((f64_S_eq G t0 h c).trans e)
noncomputable def f65_S (o : Orc H) (t0 t1 : Value) (h : H) (c : Nat) : Option (Rt H) :=
 (bif (t0 : Value).cells.toList.all isFlat then
 (bif (t1 : Value).cells.toList.all isFlat then
 (ixA 4 1 (ptrTo (256 * c + 1)) (.int .i64 0)).bind fun t5 =>
 (ld1 (newB (newB (newB h (256 * c + 0) (t0 : Value).cells.toList) (256 * c + 1) (t1 : Value).cells.toList) (256 * c + 2) [(.int .i64 0), (.int .i64 0), (.int .i64 0), (.int .i64 0)]) t5).bind fun t6 =>
 (ixA 4 1 (ptrTo (256 * c + 0)) t6).bind fun t7 =>
 (ld1 (newB (newB (newB h (256 * c + 0) (t0 : Value).cells.toList) (256 * c + 1) (t1 : Value).cells.toList) (256 * c + 2) [(.int .i64 0), (.int .i64 0), (.int .i64 0), (.int .i64 0)]) t7).bind fun t8 =>
 (ixA 4 1 (ptrTo (256 * c + 1)) (.int .i64 1)).bind fun t9 =>
 (ld1 (newB (newB (newB h (256 * c + 0) (t0 : Value).cells.toList) (256 * c + 1) (t1 : Value).cells.toList) (256 * c + 2) [(.int .i64 0), (.int .i64 0), (.int .i64 0), (.int .i64 0)]) t9).bind fun t10 =>
 (ixA 4 1 (ptrTo (256 * c + 0)) t10).bind fun t11 =>
 (ld1 (newB (newB (newB h (256 * c + 0) (t0 : Value).cells.toList) (256 * c + 1) (t1 : Value).cells.toList) (256 * c + 2) [(.int .i64 0), (.int .i64 0), (.int .i64 0), (.int .i64 0)]) t11).bind fun t12 =>
 (ixA 4 1 (ptrTo (256 * c + 1)) (.int .i64 2)).bind fun t13 =>
 (ld1 (newB (newB (newB h (256 * c + 0) (t0 : Value).cells.toList) (256 * c + 1) (t1 : Value).cells.toList) (256 * c + 2) [(.int .i64 0), (.int .i64 0), (.int .i64 0), (.int .i64 0)]) t13).bind fun t14 =>
 (ixA 4 1 (ptrTo (256 * c + 0)) t14).bind fun t15 =>
 (ld1 (newB (newB (newB h (256 * c + 0) (t0 : Value).cells.toList) (256 * c + 1) (t1 : Value).cells.toList) (256 * c + 2) [(.int .i64 0), (.int .i64 0), (.int .i64 0), (.int .i64 0)]) t15).bind fun t16 =>
 (ixA 4 1 (ptrTo (256 * c + 1)) (.int .i64 3)).bind fun t17 =>
 (ld1 (newB (newB (newB h (256 * c + 0) (t0 : Value).cells.toList) (256 * c + 1) (t1 : Value).cells.toList) (256 * c + 2) [(.int .i64 0), (.int .i64 0), (.int .i64 0), (.int .i64 0)]) t17).bind fun t18 =>
 (ixA 4 1 (ptrTo (256 * c + 0)) t18).bind fun t19 =>
 (ld1 (newB (newB (newB h (256 * c + 0) (t0 : Value).cells.toList) (256 * c + 1) (t1 : Value).cells.toList) (256 * c + 2) [(.int .i64 0), (.int .i64 0), (.int .i64 0), (.int .i64 0)]) t19).bind fun t20 =>
 (bldV [(.int .i64 0), (.int .i64 0), (.int .i64 0), (.int .i64 0)] [(0, 1, t8), (1, 1, t12), (2, 1, t16), (3, 1, t20)]).bind fun t21 =>
 (stN (newB (newB (newB h (256 * c + 0) (t0 : Value).cells.toList) (256 * c + 1) (t1 : Value).cells.toList) (256 * c + 2) [(.int .i64 0), (.int .i64 0), (.int .i64 0), (.int .i64 0)]) 4 (ptrTo (256 * c + 2)) t21).bind fun h1 =>
 (ldN h1 4 (ptrTo (256 * c + 2))).bind fun v2 =>
 some { e := .ret, vs := [v2], h := h1, c := ((c + 1) + 1), df := [] }
 else none)
 else none)
theorem f65_S_eq (o : Orc H) (t0 t1 : Value) (h : H) (c : Nat) : jx P o 22 none f65_c (tmOf (List.range 2) [t0, t1]) h c [] (Kfn P Try.f65.results.toList) = f65_S o t0 t1 h c := by kernel_rfl
theorem f65_go {t0 t1 : Value} {h : FH} {c : Nat} {df : List Nat} {r : Rt FH} (e : f65_S G t0 t1 h c = some r) : G (.fn 65) [t0, t1] h c df = some (gcR h c [] r) := runG_fn (a := f65_f) bk_65 rfl (fun args h c => by cases args <;> rfl) rfl ((f65_S_eq G t0 t1 h c).trans e)
noncomputable def f66_L66000 (o : Orc H) (rd : Option Nat) (t2 t3 t6 t7 : Value) (h : H) (c : Nat) (df : List Nat) : Option (Rt H) :=
 (aBinOp P .lss 3 t7 (.int .i64 4)).bind fun t8 =>
 boolK t8
 ((ixV 4 false 1 t6 t7).bind fun t10 =>
 (ixA 4 1 t3 t10).bind fun t13 =>
 (stN h 1 t13 t7).bind fun h1 =>
 (aBinOp P .add 3 t7 (.int .i64 1)).bind fun t14 =>
 some { e := .normal, vs := [t2, t3, t6, t14], h := h1, c := ((((c + 1) + 1) + 1) + 1), df := df })
 (some { e := (.exit 0), vs := [t2, t3, t6, t7], h := h, c := (c + 1), df := df })
theorem f66_L66000_eq (o : Orc H) (rd : Option Nat) (t2 t3 t6 t7 : Value) (h : H) (c : Nat) (df : List Nat) : jx P o 16 rd f66_c66000 (tmOf [2, 3, 6, 7] [t2, t3, t6, t7]) h c df (Klp [2, 3, 6, 7]) = f66_L66000 o rd t2 t3 t6 t7 h c df := by kernel_rfl
noncomputable def f66_S (o : Orc H) (t0 : Value) (h : H) (c : Nat) : Option (Rt H) :=
 (bif (t0 : Value).cells.toList.all isFlat then
 (ldN (newB (newB (newB h (256 * c + 0) (t0 : Value).cells.toList) (256 * c + 1) [(.int .i64 0), (.int .i64 0), (.int .i64 0), (.int .i64 0)]) (256 * (c + 1) + 0) [(.int .i64 0), (.int .i64 0), (.int .i64 0), (.int .i64 0)]) 4 (ptrTo (256 * c + 0))).bind fun t6 =>
 (o (f66_k66000 none) [(ptrTo (256 * c + 1)), (ptrTo (256 * (c + 1) + 0)), t6, (.int .i64 0)] (newB (newB (newB h (256 * c + 0) (t0 : Value).cells.toList) (256 * c + 1) [(.int .i64 0), (.int .i64 0), (.int .i64 0), (.int .i64 0)]) (256 * (c + 1) + 0) [(.int .i64 0), (.int .i64 0), (.int .i64 0), (.int .i64 0)]) (((c + 1) + 1) + 1) []).bind fun r0 =>
 cond (exIs r0.e (.exit 0))
 ((ldN r0.h 4 (r0.v 1)).bind fun t15 =>
 (stN r0.h 4 (r0.v 0) t15).bind fun h2 =>
 (takeAll h2 r0.df).bind fun h3 =>
 (ldN h3 4 (r0.v 0)).bind fun v4 =>
 some { e := .ret, vs := [v4], h := h3, c := (r0.c + 1), df := [] })
 (none)
 else none)
theorem f66_S_eq (o : Orc H) (t0 : Value) (h : H) (c : Nat) : jx P o 16 none f66_c (tmOf (List.range 1) [t0]) h c [] (Kfn P Try.f66.results.toList) = f66_S o t0 h c := by kernel_rfl
theorem f66_go {t0 : Value} {h : FH} {c : Nat} {df : List Nat} {r : Rt FH} (e : f66_S G t0 h c = some r) : G (.fn 66) [t0] h c df = some (gcR h c [] r) := runG_fn (a := f66_f) bk_66 rfl (fun args h c => by cases args <;> rfl) rfl ((f66_S_eq G t0 h c).trans e)
theorem f66_N66000 {rd : Option Nat} {t2 t3 t6 t7 : Value} {h : FH} {c : Nat} {df : List Nat} {q r : Rt FH} (e : f66_L66000 G rd t2 t3 t6 t7 h c df = some q) (hq : q.e = .normal) (k : G (f66_k66000 rd) q.vs (gcR h c df q).h (gcR h c df q).c q.df = some r) : G (f66_k66000 rd) [t2, t3, t6, t7] h c df = some r := runG_lp_next ((f66_L66000_eq G rd t2 t3 t6 t7 h c df).trans e) hq k
theorem f66_Z66000 {rd : Option Nat} {t2 t3 t6 t7 : Value} {h : FH} {c : Nat} {df : List Nat} {q : Rt FH} (e : f66_L66000 G rd t2 t3 t6 t7 h c df = some q) (hq : q.e ≠ .normal) : G (f66_k66000 rd) [t2, t3, t6, t7] h c df = some (gcR h c df q) := runG_lp_last ((f66_L66000_eq G rd t2 t3 t6 t7 h c df).trans e) hq
noncomputable def f67_L67000 (o : Orc H) (rd : Option Nat) (t0 t1 t4 t12 t13 : Value) (h : H) (c : Nat) (df : List Nat) : Option (Rt H) :=
 (aBinOp P .lss 3 t13 t12).bind fun t14 =>
 boolK t14
 ((ixS 20 t0 t13).bind fun t18 =>
 (ldN h 20 t18).bind fun t19 =>
 (ixS 20 t1 t13).bind fun t22 =>
 (ldN h 20 t22).bind fun t23 =>
 (aBinOp P .neq 73 t19 t23).bind fun t24 =>
 boolK t24
  (some { e := .ret, vs := [t0, t1, (.bool false), t12, t13], h := h, c := ((((c + 1) + 1) + 1) + 1), df := df })
  ((aBinOp P .add 3 t13 (.int .i64 1)).bind fun t25 =>
  some { e := .normal, vs := [t0, t1, t4, t12, t25], h := h, c := ((((c + 1) + 1) + 1) + 1), df := df }))
 (some { e := (.exit 0), vs := [t0, t1, t4, t12, t13], h := h, c := (c + 1), df := df })
theorem f67_L67000_eq (o : Orc H) (rd : Option Nat) (t0 t1 t4 t12 t13 : Value) (h : H) (c : Nat) (df : List Nat) : jx P o 26 rd f67_c67000 (tmOf [0, 1, 4, 12, 13] [t0, t1, t4, t12, t13]) h c df (Klp [0, 1, 4, 12, 13]) = f67_L67000 o rd t0 t1 t4 t12 t13 h c df := by kernel_rfl
noncomputable def f67_S (o : Orc H) (t0 t1 : Value) (h : H) (c : Nat) : Option (Rt H) :=
 (lenS t0).bind fun t7 =>
 (lenS t1).bind fun t9 =>
 (aBinOp P .neq 3 t7 t9).bind fun t10 =>
 boolK t10
 (some { e := .ret, vs := [(.bool false)], h := h, c := (((c + 1) + 1) + 1), df := [] })
 ((lenS t0).bind fun t12 =>
 (o (f67_k67000 none) [t0, t1, (.bool false), t12, (.int .i64 0)] h (((c + 1) + 1) + 1) []).bind fun r0 =>
 cond (exIs r0.e (.exit 0))
  ((takeAll r0.h r0.df).bind fun h2 =>
  some { e := .ret, vs := [(.bool true)], h := h2, c := (r0.c + 1), df := [] })
  (cond (exIs r0.e .ret)
   ((takeAll r0.h r0.df).bind fun h1 =>
   some { e := .ret, vs := [(r0.v 2)], h := h1, c := r0.c, df := [] })
   (none)))
theorem f67_S_eq (o : Orc H) (t0 t1 : Value) (h : H) (c : Nat) : jx P o 26 none f67_c (tmOf (List.range 2) [t0, t1]) h c [] (Kfn P Try.f67.results.toList) = f67_S o t0 t1 h c := by kernel_rfl
theorem f67_go {t0 t1 : Value} {h : FH} {c : Nat} {df : List Nat} {r : Rt FH} (e : f67_S G t0 t1 h c = some r) : G (.fn 67) [t0, t1] h c df = some (gcR h c [] r) := runG_fn (a := f67_f) bk_67 rfl (fun args h c => by cases args <;> rfl) rfl ((f67_S_eq G t0 t1 h c).trans e)
theorem f67_N67000 {rd : Option Nat} {t0 t1 t4 t12 t13 : Value} {h : FH} {c : Nat} {df : List Nat} {q r : Rt FH} (e : f67_L67000 G rd t0 t1 t4 t12 t13 h c df = some q) (hq : q.e = .normal) (k : G (f67_k67000 rd) q.vs (gcR h c df q).h (gcR h c df q).c q.df = some r) : G (f67_k67000 rd) [t0, t1, t4, t12, t13] h c df = some r := runG_lp_next ((f67_L67000_eq G rd t0 t1 t4 t12 t13 h c df).trans e) hq k
theorem f67_Z67000 {rd : Option Nat} {t0 t1 t4 t12 t13 : Value} {h : FH} {c : Nat} {df : List Nat} {q : Rt FH} (e : f67_L67000 G rd t0 t1 t4 t12 t13 h c df = some q) (hq : q.e ≠ .normal) : G (f67_k67000 rd) [t0, t1, t4, t12, t13] h c df = some (gcR h c df q) := runG_lp_last ((f67_L67000_eq G rd t0 t1 t4 t12 t13 h c df).trans e) hq
noncomputable def f68_R68001 (o : Orc H) (l : Nat) (t30 t1 t5 t6 t7 : Value) (h : H) (c : Nat) : Option (Rt H) :=
 (stN (newB h (256 * c + 0) [(.int .i64 0), (.int .i64 0), (.int .i64 0), (.int .i64 0)]) 4 (ptrTo (256 * c + 0)) t30).bind fun h1 =>
 (beginSt h1 l).bind fun h2 =>
 (ldN h2 1 t1).bind fun t31 =>
 (ld1 h2 t6).bind fun t32 =>
 (ldN h2 4 (ptrTo (256 * c + 0))).bind fun t33 =>
 (ld1 h2 t5).bind fun t34 =>
 (ld1 h2 t7).bind fun t35 =>
 (ixS 1 t34 t35).bind fun t36 =>
 (ld1 h2 t36).bind fun t37 =>
 (callF o 73 [t31, t32, t33, t37] h2 ((c + 1) + 1)).bind fun r3 =>
 (aBinOp P .neq 97 r3.1 (.pointer none)).bind fun t40 =>
 (boolK t40
  ((ld1 r3.2.1 t5).bind fun t41 =>
  (ld1 r3.2.1 t7).bind fun t42 =>
  (ixS 1 t41 t42).bind fun t44 =>
  (stN r3.2.1 1 t44 r3.1).bind fun h5 =>
  some { e := .normal, vs := [], h := h5, c := ((r3.2.2 + 1) + 1), df := [] })
  (some { e := .normal, vs := [], h := r3.2.1, c := (r3.2.2 + 1), df := [] }) : Option (Rt H)).bind fun r6 =>
 cond (exIs r6.e .normal)
 ((setState r6.h l .ready none).bind fun h7 =>
 cond (List.isEmpty (r6.df : List Nat)) (some { e := .ret, vs := [.bool true], h := h7, c := r6.c, df := [] }) none)
 (none)
theorem f68_R68001_eq (o : Orc H) (l : Nat) (t30 t1 t5 t6 t7 : Value) (h : H) (c : Nat) : jx P o 49 (some l) f68_a68001 (tmOf ([30] ++ [1, 5, 6, 7]) [t30, t1, t5, t6, t7]) h c [] (rndK P o 49 l f68_c68001) = f68_R68001 o l t30 t1 t5 t6 t7 h c := by kernel_rfl
noncomputable def f68_L68000 (o : Orc H) (rd : Option Nat) (t1 t5 t15 t16 t17 : Value) (h : H) (c : Nat) (df : List Nat) : Option (Rt H) :=
 (aBinOp P .lss 3 t17 t16).bind fun t18 =>
 boolK t18
 ((ixS 1 t15 t17).bind fun t20 =>
 (ld1 h t20).bind fun t21 =>
 (stN (newB (newB h (256 * (c + 1) + 3) [(.int .i64 0)]) (256 * (c + 1) + 4) [(.int .i64 0)]) 1 (ptrTo (256 * (c + 1) + 3)) t17).bind fun h1 =>
 (stN h1 1 (ptrTo (256 * (c + 1) + 4)) t21).bind fun h3 =>
 (ld1 h3 (ptrTo (256 * (c + 1) + 4))).bind fun t22 =>
 (ld1 h3 t5).bind fun t23 =>
 (lenS t23).bind fun t24 =>
 (aBinOp P .eql 3 t22 t24).bind fun t25 =>
 (boolK t25
   ((ld1 h3 t5).bind fun t26 =>
   (bldL [(.pointer none)] [(0, 1, (.pointer none))]).bind fun r4 =>
   (appV (newB h3 (256 * (((c + 1) + 1) + 1) + 1) r4) (256 * (((c + 1) + 1) + 1) + 2) 1 8 t26 (.slice (some ⟨(256 * (((c + 1) + 1) + 1) + 1), 0, none⟩) 1 1)).bind fun r5 =>
   (stN r5.2 1 t5 r5.1).bind fun h7 =>
   some { e := .normal, vs := [t1, t5, (ptrTo (256 * (c + 1) + 3)), (ptrTo (256 * (c + 1) + 4)), t15, t16, t17], h := h7, c := ((((c + 1) + 1) + 1) + 1), df := df })
   (some { e := .normal, vs := [t1, t5, (ptrTo (256 * (c + 1) + 3)), (ptrTo (256 * (c + 1) + 4)), t15, t16, t17], h := h3, c := (((c + 1) + 1) + 1), df := df }) : Option (Rt H)).bind fun r8 =>
 cond (exIs r8.e .normal)
  ((callF o 34 [] r8.h (r8.c + 1)).bind fun r9 =>
  (rangeV o 49 rd [1, 5, 6, 7] [] #[30] f68_a68001 f68_c68001 r9.1 [(r8.v 0), (r8.v 1), (r8.v 2), (r8.v 3)] r9.2.1 r9.2.2 r8.df).bind fun q10 =>
  cond (exIs q10.1 .normal)
   ((aBinOp P .add 3 (r8.v 6) (.int .i64 1)).bind fun t45 =>
   some { e := .normal, vs := [(r8.v 0), (r8.v 1), (r8.v 4), (r8.v 5), t45], h := q10.2.1, c := (q10.2.2.1 + 1), df := q10.2.2.2 })
   (none))
  (none))
 (some { e := (.exit 0), vs := [t1, t5, t15, t16, t17], h := h, c := (c + 1), df := df })
theorem f68_L68000_eq (o : Orc H) (rd : Option Nat) (t1 t5 t15 t16 t17 : Value) (h : H) (c : Nat) (df : List Nat) : jx P o 49 rd f68_c68000 (tmOf [1, 5, 15, 16, 17] [t1, t5, t15, t16, t17]) h c df (Klp [1, 5, 15, 16, 17]) = f68_L68000 o rd t1 t5 t15 t16 t17 h c df := by kernel_rfl
noncomputable def f68_S (o : Orc H) (t0 : Value) (h : H) (c : Nat) : Option (Rt H) :=
 (bif (t0 : Value).cells.toList.all isFlat then
 (ldN (newB h (256 * c + 0) (t0 : Value).cells.toList) 1 (ptrTo (256 * c + 0))).bind fun t11 =>
 (callF o 32 [t11] (newB h (256 * c + 0) (t0 : Value).cells.toList) ((c + 1) + 1)).bind fun r0 =>
 (extV r0.1 0).bind fun t13 =>
 (extV r0.1 1).bind fun t14 =>
 (lenS t13).bind fun t16 =>
 (o (f68_k68000 none) [(ptrTo (256 * c + 0)), (ptrTo (256 * r0.2.2 + 0)), t13, t16, (.int .i64 0)] (newB r0.2.1 (256 * r0.2.2 + 0) [(.slice none 0 0)]) ((r0.2.2 + 1) + 1) []).bind fun r1 =>
 cond (exIs r1.e (.exit 0))
 ((ld1 r1.h (r1.v 1)).bind fun t46 =>
 (callF o 74 [t46, (.func (.func 75) #[] #[])] r1.h (r1.c + 1)).bind fun r2 =>
 (ld1 r2.2.1 (r1.v 1)).bind fun t48 =>
 (takeAll r2.2.1 r1.df).bind fun h3 =>
 some { e := .ret, vs := [t48], h := h3, c := (r2.2.2 + 1), df := [] })
 (none)
 else none)
theorem f68_S_eq (o : Orc H) (t0 : Value) (h : H) (c : Nat) : jx P o 49 none f68_c (tmOf (List.range 1) [t0]) h c [] (Kfn P Try.f68.results.toList) = f68_S o t0 h c := by kernel_rfl
theorem f68_go {t0 : Value} {h : FH} {c : Nat} {df : List Nat} {r : Rt FH} (e : f68_S G t0 h c = some r) : G (.fn 68) [t0] h c df = some (gcR h c [] r) := runG_fn (a := f68_f) bk_68 rfl (fun args h c => by cases args <;> rfl) rfl ((f68_S_eq G t0 h c).trans e)
theorem f68_N68000 {rd : Option Nat} {t1 t5 t15 t16 t17 : Value} {h : FH} {c : Nat} {df : List Nat} {q r : Rt FH} (e : f68_L68000 G rd t1 t5 t15 t16 t17 h c df = some q) (hq : q.e = .normal) (k : G (f68_k68000 rd) q.vs q.h q.c q.df = some r) : G (f68_k68000 rd) [t1, t5, t15, t16, t17] h c df = some r := runG_lp_next ((f68_L68000_eq G rd t1 t5 t15 t16 t17 h c df).trans e) hq k
theorem f68_Z68000 {rd : Option Nat} {t1 t5 t15 t16 t17 : Value} {h : FH} {c : Nat} {df : List Nat} {q : Rt FH} (e : f68_L68000 G rd t1 t5 t15 t16 t17 h c df = some q) (hq : q.e ≠ .normal) : G (f68_k68000 rd) [t1, t5, t15, t16, t17] h c df = some q := runG_lp_last ((f68_L68000_eq G rd t1 t5 t15 t16 t17 h c df).trans e) hq
theorem f68_G68001 {t30 t1 t5 t6 t7 : Value} {l : Nat} {h : FH} {c : Nat} {df : List Nat} {r : Rt FH} (e : f68_R68001 G l t30 t1 t5 t6 t7 h c = some r) : G (.rnd 49 [1, 5, 6, 7] [] [30] l f68_a68001 f68_c68001) [t30, t1, t5, t6, t7] h c df = some r := runG_rnd ((f68_R68001_eq G l t30 t1 t5 t6 t7 h c).trans e)
noncomputable def f71_S (o : Orc H) (t0 : Value) (h : H) (c : Nat) : Option (Rt H) :=
 (bif (t0 : Value).cells.toList.all isFlat then
 some { e := .ret, vs := [(.func (.func 78) [].toArray [(ptrTo (256 * c + 0))].toArray)], h := (newB h (256 * c + 0) (t0 : Value).cells.toList), c := ((c + 1) + 1), df := [] }
 else none)
theorem f71_S_eq (o : Orc H) (t0 : Value) (h : H) (c : Nat) : jx P o 4 none f71_c (tmOf (List.range 1) [t0]) h c [] (Kfn P Try.f71.results.toList) = f71_S o t0 h c := by kernel_rfl
theorem f71_go {t0 : Value} {h : FH} {c : Nat} {df : List Nat} {r : Rt FH} (e : f71_S G t0 h c = some r) : G (.fn 71) [t0] h c df = some r := runG_fn (a := f71_f) bk_71 rfl (fun args h c => by cases args <;> rfl) rfl ((f71_S_eq G t0 h c).trans e)
end Go.Proofs.Ytemkjcpfgmbibaa

namespace Go.Proofs.Ytemkjcpfgmbibaa
open Go Go.Ab Go.Proofs
set_option maxRecDepth 100000
set_option linter.unusedVariables false
variable {H : Type} [HeapC H]
noncomputable def f72_L72000 (o : Orc H) (rd : Option Nat) (t0 t1 t4 t7 t8 : Value) (h : H) (c : Nat) (df : List Nat) : Option (Rt H) :=
 (aBinOp P .lss 3 t8 t7).bind fun t9 =>
 boolK t9
 ((ixS 4 t0 t8).bind fun t14 =>
 (ldN h 4 t14).bind fun t15 =>
 (callV o h (((c + 1) + 1) + 1) t1 [t15]).bind fun r0 =>
 boolK r0.1
  (some { e := .ret, vs := [t0, t1, t8, t7, t8], h := r0.2.1, c := (r0.2.2 + 1), df := df })
  ((aBinOp P .add 3 t8 (.int .i64 1)).bind fun t18 =>
  some { e := .normal, vs := [t0, t1, t4, t7, t18], h := r0.2.1, c := (r0.2.2 + 1), df := df }))
 (some { e := (.exit 0), vs := [t0, t1, t4, t7, t8], h := h, c := (c + 1), df := df })
theorem f72_L72000_eq (o : Orc H) (rd : Option Nat) (t0 t1 t4 t7 t8 : Value) (h : H) (c : Nat) (df : List Nat) : jx P o 19 rd f72_c72000 (tmOf [0, 1, 4, 7, 8] [t0, t1, t4, t7, t8]) h c df (Klp [0, 1, 4, 7, 8]) = f72_L72000 o rd t0 t1 t4 t7 t8 h c df := by kernel_rfl
noncomputable def f72_S (o : Orc H) (t0 t1 : Value) (h : H) (c : Nat) : Option (Rt H) :=
 (lenS t0).bind fun t7 =>
 (o (f72_k72000 none) [t0, t1, (.int .i64 0), t7, (.int .i64 0)] h ((c + 1) + 1) []).bind fun r0 =>
 cond (exIs r0.e (.exit 0))
 ((takeAll r0.h r0.df).bind fun h2 =>
 some { e := .ret, vs := [(.int .i64 (-1))], h := h2, c := (r0.c + 1), df := [] })
 (cond (exIs r0.e .ret)
  ((takeAll r0.h r0.df).bind fun h1 =>
  some { e := .ret, vs := [(r0.v 2)], h := h1, c := r0.c, df := [] })
  (none))
theorem f72_S_eq (o : Orc H) (t0 t1 : Value) (h : H) (c : Nat) : jx P o 19 none f72_c (tmOf (List.range 2) [t0, t1]) h c [] (Kfn P Try.f72.results.toList) = f72_S o t0 t1 h c := by kernel_rfl
theorem f72_go {t0 t1 : Value} {h : FH} {c : Nat} {df : List Nat} {r : Rt FH} (e : f72_S G t0 t1 h c = some r) : G (.fn 72) [t0, t1] h c df = some (gcR h c [] r) := runG_fn (a := f72_f) bk_72 rfl (fun args h c => by cases args <;> rfl) rfl ((f72_S_eq G t0 t1 h c).trans e)
theorem f72_N72000 {rd : Option Nat} {t0 t1 t4 t7 t8 : Value} {h : FH} {c : Nat} {df : List Nat} {q r : Rt FH} (e : f72_L72000 G rd t0 t1 t4 t7 t8 h c df = some q) (hq : q.e = .normal) (k : G (f72_k72000 rd) q.vs (gcR h c df q).h (gcR h c df q).c q.df = some r) : G (f72_k72000 rd) [t0, t1, t4, t7, t8] h c df = some r := runG_lp_next ((f72_L72000_eq G rd t0 t1 t4 t7 t8 h c df).trans e) hq k
theorem f72_Z72000 {rd : Option Nat} {t0 t1 t4 t7 t8 : Value} {h : FH} {c : Nat} {df : List Nat} {q : Rt FH} (e : f72_L72000 G rd t0 t1 t4 t7 t8 h c df = some q) (hq : q.e ≠ .normal) : G (f72_k72000 rd) [t0, t1, t4, t7, t8] h c df = some (gcR h c df q) := runG_lp_last ((f72_L72000_eq G rd t0 t1 t4 t7 t8 h c df).trans e) hq
noncomputable def f73_L73000 (o : Orc H) (rd : Option Nat) (t3 t8 t9 t10 t11 : Value) (h : H) (c : Nat) (df : List Nat) : Option (Rt H) :=
 (aNilCheck t9).bind fun t26 =>
 (addOff t26 1).bind fun t27 =>
 (addOff t27 0).bind fun t28 =>
 (ld1 h t28).bind fun t29 =>
 (lenS t29).bind fun t30 =>
 (aBinOp P .lss 3 t11 t30).bind fun t31 =>
 boolK t31
 ((callF o 80 [t9, t11] h ((c + 1) + 1)).bind fun r0 =>
 (stN (newB r0.2.1 (256 * (c + 1) + 3) [(.int .i64 0), (.int .i64 0), (.int .i64 0), (.int .i64 0), (.int .i64 0), (.int .i64 0), (.int .i64 0), (.int .i64 0), (.int .i64 0), (.int .i64 0), (.int .i64 0), (.int .i64 0), (.int .i64 0), (.int .i64 0), (.int .i64 0), (.int .i64 0), (.int .i64 0), (.int .i64 0), (.int .i64 0), (.int .i64 0)]) 20 (ptrTo (256 * (c + 1) + 3)) r0.1).bind fun h2 =>
 (aUnOp .not t10).bind fun t38 =>
 (boolK t38
   ((ldN h2 20 (ptrTo (256 * (c + 1) + 3))).bind fun t39 =>
   (aNilCheck t3).bind fun t41 =>
   (addOff t41 4).bind fun t42 =>
   (ld1 h2 t42).bind fun t43 =>
   (ixS 20 t43 t11).bind fun t45 =>
   (ldN h2 20 t45).bind fun t46 =>
   (callF o 77 [t39, t46] h2 ((r0.2.2 + 1) + 1)).bind fun r3 =>
   (aBinOp P .gtr 3 r3.1 (.int .i64 0)).bind fun t50 =>
   boolK t50
    (some { e := .ret, vs := [t3, (.pointer none), t9, t10, t11], h := r3.2.1, c := ((r3.2.2 + 1) + 1), df := df })
    ((aBinOp P .lss 3 r3.1 (.int .i64 0)).bind fun t53 =>
    (boolK t53
      (some { e := .normal, vs := [t3, t8, t9, (.bool true), t11, (ptrTo (256 * (c + 1) + 3))], h := r3.2.1, c := (((r3.2.2 + 1) + 1) + 1), df := df })
      (some { e := .normal, vs := [t3, t8, t9, t10, t11, (ptrTo (256 * (c + 1) + 3))], h := r3.2.1, c := ((r3.2.2 + 1) + 1), df := df }) : Option (Rt H)).bind fun r6 =>
    cond (exIs r6.e .normal)
     (some { e := .normal, vs := [(r6.v 0), (r6.v 1), (r6.v 2), (r6.v 3), (r6.v 4), (r6.v 5)], h := r6.h, c := r6.c, df := r6.df })
     (none)))
   (some { e := .normal, vs := [t3, t8, t9, t10, t11, (ptrTo (256 * (c + 1) + 3))], h := h2, c := (r0.2.2 + 1), df := df }) : Option (Rt H)).bind fun r7 =>
 cond (exIs r7.e .ret)
  (some { e := .ret, vs := [(r7.v 0), (r7.v 1), (r7.v 2), (r7.v 3), (r7.v 4)], h := r7.h, c := r7.c, df := r7.df })
  (cond (exIs r7.e .normal)
   ((aNilCheck (r7.v 2)).bind fun t56 =>
   (addOff t56 4).bind fun t57 =>
   (ld1 r7.h t57).bind fun t58 =>
   (ldN r7.h 20 (r7.v 5)).bind fun t59 =>
   (bldL [(.int .i64 0), (.int .i64 0), (.int .i64 0), (.int .i64 0), (.int .i64 0), (.int .i64 0), (.int .i64 0), (.int .i64 0), (.int .i64 0), (.int .i64 0), (.int .i64 0), (.int .i64 0), (.int .i64 0), (.int .i64 0), (.int .i64 0), (.int .i64 0), (.int .i64 0), (.int .i64 0), (.int .i64 0), (.int .i64 0)] [(0, 20, t59)]).bind fun r8 =>
   (appV (newB r7.h (256 * r7.c + 6) r8) (256 * r7.c + 7) 20 160 t58 (.slice (some ⟨(256 * r7.c + 6), 0, none⟩) 1 1)).bind fun r9 =>
   (aNilCheck (r7.v 2)).bind fun t62 =>
   (addOff t62 4).bind fun t63 =>
   (stN r9.2 1 t63 r9.1).bind fun h11 =>
   (aBinOp P .add 3 (r7.v 4) (.int .i64 1)).bind fun t33 =>
   some { e := .normal, vs := [(r7.v 0), (r7.v 1), (r7.v 2), (r7.v 3), t33], h := h11, c := ((r7.c + 1) + 1), df := r7.df })
   (none)))
 (some { e := (.exit 0), vs := [t3, t8, t9, t10, t11], h := h, c := (c + 1), df := df })
theorem f73_L73000_eq (o : Orc H) (rd : Option Nat) (t3 t8 t9 t10 t11 : Value) (h : H) (c : Nat) (df : List Nat) : jx P o 67 rd f73_c73000 (tmOf [3, 8, 9, 10, 11] [t3, t8, t9, t10, t11]) h c df (Klp [3, 8, 9, 10, 11]) = f73_L73000 o rd t3 t8 t9 t10 t11 h c df := by kernel_rfl
noncomputable def f73_S (o : Orc H) (t0 t1 t2 t3 : Value) (h : H) (c : Nat) : Option (Rt H) :=
 (bif (t0 : Value).cells.toList.all isFlat then
 (bif (t2 : Value).cells.toList.all isFlat then
 (ldN (newB (newB h (256 * c + 0) (t0 : Value).cells.toList) (256 * c + 1) (t2 : Value).cells.toList) 1 (ptrTo (256 * c + 0))).bind fun t14 =>
 (bldV [(.slice none 0 0), (.slice none 0 0), (.slice none 0 0), (.map none), (.slice none 0 0)] [(0, 1, t14), (3, 1, (.map (some (256 * (c + 1) + 1))))]).bind fun t16 =>
 (bif (t16 : Value).cells.toList.all isFlat then
 (ldN (newB (HeapC.set (newB (newB h (256 * c + 0) (t0 : Value).cells.toList) (256 * c + 1) (t2 : Value).cells.toList) (256 * (c + 1) + 1) (.map [])) (256 * (c + 1) + 3) (t16 : Value).cells.toList) 4 (ptrTo (256 * c + 1))).bind fun t20 =>
 (callF o 79 [(ptrTo (256 * (c + 1) + 3)), t1, t20] (newB (HeapC.set (newB (newB h (256 * c + 0) (t0 : Value).cells.toList) (256 * c + 1) (t2 : Value).cells.toList) (256 * (c + 1) + 1) (.map [])) (256 * (c + 1) + 3) (t16 : Value).cells.toList) (((c + 1) + 1) + 1)).bind fun r0 =>
 (aBinOp P .eql 97 t3 (.pointer none)).bind fun t23 =>
 (o (f73_k73000 none) [t3, (.pointer none), (ptrTo (256 * (c + 1) + 3)), t23, (.int .i64 0)] r0.2.1 ((r0.2.2 + 1) + 1) []).bind fun r1 =>
 cond (exIs r1.e (.exit 0))
 ((aUnOp .not (r1.v 3)).bind fun t65 =>
 boolK t65
  ((takeAll r1.h r1.df).bind fun h3 =>
  some { e := .ret, vs := [(.pointer none)], h := h3, c := ((r1.c + 1) + 1), df := [] })
  ((takeAll r1.h r1.df).bind fun h4 =>
  some { e := .ret, vs := [(r1.v 2)], h := h4, c := ((r1.c + 1) + 1), df := [] }))
 (cond (exIs r1.e .ret)
  ((takeAll r1.h r1.df).bind fun h2 =>
  some { e := .ret, vs := [(r1.v 1)], h := h2, c := r1.c, df := [] })
  (none))
 else none)
 else none)
 else none)
theorem f73_S_eq (o : Orc H) (t0 t1 t2 t3 : Value) (h : H) (c : Nat) : jx P o 67 none f73_c (tmOf (List.range 4) [t0, t1, t2, t3]) h c [] (Kfn P Try.f73.results.toList) = f73_S o t0 t1 t2 t3 h c := by kernel_rfl
theorem f73_go {t0 t1 t2 t3 : Value} {h : FH} {c : Nat} {df : List Nat} {r : Rt FH} (e : f73_S G t0 t1 t2 t3 h c = some r) : G (.fn 73) [t0, t1, t2, t3] h c df = some (gcR h c [] r) := runG_fn (a := f73_f) bk_73 rfl (fun args h c => by cases args <;> rfl) rfl ((f73_S_eq G t0 t1 t2 t3 h c).trans e)
theorem f73_N73000 {rd : Option Nat} {t3 t8 t9 t10 t11 : Value} {h : FH} {c : Nat} {df : List Nat} {q r : Rt FH} (e : f73_L73000 G rd t3 t8 t9 t10 t11 h c df = some q) (hq : q.e = .normal) (k : G (f73_k73000 rd) q.vs q.h q.c q.df = some r) : G (f73_k73000 rd) [t3, t8, t9, t10, t11] h c df = some r := runG_lp_next ((f73_L73000_eq G rd t3 t8 t9 t10 t11 h c df).trans e) hq k
theorem f73_Z73000 {rd : Option Nat} {t3 t8 t9 t10 t11 : Value} {h : FH} {c : Nat} {df : List Nat} {q : Rt FH} (e : f73_L73000 G rd t3 t8 t9 t10 t11 h c df = some q) (hq : q.e ≠ .normal) : G (f73_k73000 rd) [t3, t8, t9, t10, t11] h c df = some q := runG_lp_last ((f73_L73000_eq G rd t3 t8 t9 t10 t11 h c df).trans e) hq
noncomputable def f74_S (o : Orc H) (t0 t1 : Value) (h : H) (c : Nat) : Option (Rt H) :=
 (lenS t0).bind fun t6 =>
 (callF o 81 [t0, t6, t1] h (c + 1)).bind fun r0 =>
 some { e := .ret, vs := [.tuple #[]], h := r0.2.1, c := r0.2.2, df := [] }
theorem f74_S_eq (o : Orc H) (t0 t1 : Value) (h : H) (c : Nat) : jx P o 9 none f74_c (tmOf (List.range 2) [t0, t1]) h c [] (Kfn P Try.f74.results.toList) = f74_S o t0 t1 h c := by kernel_rfl
theorem f74_go {t0 t1 : Value} {h : FH} {c : Nat} {df : List Nat} {r : Rt FH} (e : f74_S G t0 t1 h c = some r) : G (.fn 74) [t0, t1] h c df = some (gcR h c [] r) := runG_fn (a := f74_f) bk_74 rfl (fun args h c => by cases args <;> rfl) rfl ((f74_S_eq G t0 t1 h c).trans e)
noncomputable def f75_S (o : Orc H) (t0 t1 : Value) (h : H) (c : Nat) : Option (Rt H) :=
 (aNilCheck t0).bind fun t6 =>
 (addOff t6 4).bind fun t7 =>
 (ld1 h t7).bind fun t8 =>
 (lenS t8).bind fun t9 =>
 (aNilCheck t1).bind fun t11 =>
 (addOff t11 4).bind fun t12 =>
 (ld1 h t12).bind fun t13 =>
 (lenS t13).bind fun t14 =>
 (aBinOp P .neq 3 t9 t14).bind fun t15 =>
 boolK t15
 ((aNilCheck t0).bind fun t17 =>
 (addOff t17 4).bind fun t18 =>
 (ld1 h t18).bind fun t19 =>
 (lenS t19).bind fun t20 =>
 (aNilCheck t1).bind fun t22 =>
 (addOff t22 4).bind fun t23 =>
 (ld1 h t23).bind fun t24 =>
 (lenS t24).bind fun t25 =>
 (aBinOp P .sub 3 t20 t25).bind fun t26 =>
 some { e := .ret, vs := [t26], h := h, c := (((c + 1) + 1) + 1), df := [] })
 ((aNilCheck t0).bind fun t28 =>
 (addOff t28 4).bind fun t29 =>
 (ld1 h t29).bind fun t30 =>
 (aNilCheck t1).bind fun t32 =>
 (addOff t32 4).bind fun t33 =>
 (ld1 h t33).bind fun t34 =>
 (callF o 76 [t30, t34, (.func (.func 77) #[] #[])] h (((c + 1) + 1) + 1)).bind fun r0 =>
 some { e := .ret, vs := [r0.1], h := r0.2.1, c := r0.2.2, df := [] })
theorem f75_S_eq (o : Orc H) (t0 t1 : Value) (h : H) (c : Nat) : jx P o 36 none f75_c (tmOf (List.range 2) [t0, t1]) h c [] (Kfn P Try.f75.results.toList) = f75_S o t0 t1 h c := by kernel_rfl
theorem f75_go {t0 t1 : Value} {h : FH} {c : Nat} {df : List Nat} {r : Rt FH} (e : f75_S G t0 t1 h c = some r) : G (.fn 75) [t0, t1] h c df = some (gcR h c [] r) := runG_fn (a := f75_f) bk_75 rfl (fun args h c => by cases args <;> rfl) rfl ((f75_S_eq G t0 t1 h c).trans e)
noncomputable def f76_L76000 (o : Orc H) (rd : Option Nat) (t0 t1 t2 t6 t11 t12 t13 : Value) (h : H) (c : Nat) (df : List Nat) : Option (Rt H) :=
 (aBinOp P .lss 3 t13 t12).bind fun t14 =>
 boolK t14
 ((ixS 20 t11 t13).bind fun t16 =>
 (ldN h 20 t16).bind fun t17 =>
 (stN (newB h (256 * (c + 1) + 3) [(.int .i64 0), (.int .i64 0), (.int .i64 0), (.int .i64 0), (.int .i64 0), (.int .i64 0), (.int .i64 0), (.int .i64 0), (.int .i64 0), (.int .i64 0), (.int .i64 0), (.int .i64 0), (.int .i64 0), (.int .i64 0), (.int .i64 0), (.int .i64 0), (.int .i64 0), (.int .i64 0), (.int .i64 0), (.int .i64 0)]) 20 (ptrTo (256 * (c + 1) + 3)) t17).bind fun h1 =>
 (lenS t1).bind fun t20 =>
 (aBinOp P .geq 3 t13 t20).bind fun t21 =>
 boolK t21
  (some { e := .ret, vs := [t0, t1, t2, (.int .i64 1), t11, t12, t13], h := h1, c := ((((c + 1) + 1) + 1) + 1), df := df })
  ((ixS 20 t1 t13).bind fun t24 =>
  (ldN h1 20 t24).bind fun t25 =>
  (stN (newB h1 (256 * (((c + 1) + 1) + 1) + 4) [(.int .i64 0), (.int .i64 0), (.int .i64 0), (.int .i64 0), (.int .i64 0), (.int .i64 0), (.int .i64 0), (.int .i64 0), (.int .i64 0), (.int .i64 0), (.int .i64 0), (.int .i64 0), (.int .i64 0), (.int .i64 0), (.int .i64 0), (.int .i64 0), (.int .i64 0), (.int .i64 0), (.int .i64 0), (.int .i64 0)]) 20 (ptrTo (256 * (((c + 1) + 1) + 1) + 4)) t25).bind fun h4 =>
  (ldN h4 20 (ptrTo (256 * (c + 1) + 3))).bind fun t27 =>
  (ldN h4 20 (ptrTo (256 * (((c + 1) + 1) + 1) + 4))).bind fun t28 =>
  (callV o h4 (((((c + 1) + 1) + 1) + 1) + 1) t2 [t27, t28]).bind fun r5 =>
  (aBinOp P .neq 3 r5.1 (.int .i64 0)).bind fun t31 =>
  boolK t31
   (some { e := .ret, vs := [t0, t1, t2, r5.1, t11, t12, t13], h := r5.2.1, c := ((r5.2.2 + 1) + 1), df := df })
   ((aBinOp P .add 3 t13 (.int .i64 1)).bind fun t33 =>
   some { e := .normal, vs := [t0, t1, t2, t6, t11, t12, t33], h := r5.2.1, c := ((r5.2.2 + 1) + 1), df := df })))
 (some { e := (.exit 0), vs := [t0, t1, t2, t6, t11, t12, t13], h := h, c := (c + 1), df := df })
theorem f76_L76000_eq (o : Orc H) (rd : Option Nat) (t0 t1 t2 t6 t11 t12 t13 : Value) (h : H) (c : Nat) (df : List Nat) : jx P o 39 rd f76_c76000 (tmOf [0, 1, 2, 6, 11, 12, 13] [t0, t1, t2, t6, t11, t12, t13]) h c df (Klp [0, 1, 2, 6, 11, 12, 13]) = f76_L76000 o rd t0 t1 t2 t6 t11 t12 t13 h c df := by kernel_rfl
noncomputable def f76_S (o : Orc H) (t0 t1 t2 : Value) (h : H) (c : Nat) : Option (Rt H) :=
 (lenS t0).bind fun t12 =>
 (o (f76_k76000 none) [t0, t1, t2, (.int .i64 0), t0, t12, (.int .i64 0)] h ((c + 1) + 1) []).bind fun r0 =>
 cond (exIs r0.e (.exit 0))
 ((lenS (r0.v 0)).bind fun t35 =>
 (lenS (r0.v 1)).bind fun t37 =>
 (aBinOp P .lss 3 t35 t37).bind fun t38 =>
 boolK t38
  ((takeAll r0.h r0.df).bind fun h2 =>
  some { e := .ret, vs := [(.int .i64 (-1))], h := h2, c := ((r0.c + 1) + 1), df := [] })
  ((takeAll r0.h r0.df).bind fun h3 =>
  some { e := .ret, vs := [(.int .i64 0)], h := h3, c := ((r0.c + 1) + 1), df := [] }))
 (cond (exIs r0.e .ret)
  ((takeAll r0.h r0.df).bind fun h1 =>
  some { e := .ret, vs := [(r0.v 3)], h := h1, c := r0.c, df := [] })
  (none))
theorem f76_S_eq (o : Orc H) (t0 t1 t2 : Value) (h : H) (c : Nat) : jx P o 39 none f76_c (tmOf (List.range 3) [t0, t1, t2]) h c [] (Kfn P Try.f76.results.toList) = f76_S o t0 t1 t2 h c := by kernel_rfl
theorem f76_go {t0 t1 t2 : Value} {h : FH} {c : Nat} {df : List Nat} {r : Rt FH} (e : f76_S G t0 t1 t2 h c = some r) : G (.fn 76) [t0, t1, t2] h c df = some (gcR h c [] r) := runG_fn (a := f76_f) bk_76 rfl (fun args h c => by cases args <;> rfl) rfl ((f76_S_eq G t0 t1 t2 h c).trans e)
theorem f76_N76000 {rd : Option Nat} {t0 t1 t2 t6 t11 t12 t13 : Value} {h : FH} {c : Nat} {df : List Nat} {q r : Rt FH} (e : f76_L76000 G rd t0 t1 t2 t6 t11 t12 t13 h c df = some q) (hq : q.e = .normal) (k : G (f76_k76000 rd) q.vs q.h q.c q.df = some r) : G (f76_k76000 rd) [t0, t1, t2, t6, t11, t12, t13] h c df = some r := runG_lp_next ((f76_L76000_eq G rd t0 t1 t2 t6 t11 t12 t13 h c df).trans e) hq k
theorem f76_Z76000 {rd : Option Nat} {t0 t1 t2 t6 t11 t12 t13 : Value} {h : FH} {c : Nat} {df : List Nat} {q : Rt FH} (e : f76_L76000 G rd t0 t1 t2 t6 t11 t12 t13 h c df = some q) (hq : q.e ≠ .normal) : G (f76_k76000 rd) [t0, t1, t2, t6, t11, t12, t13] h c df = some q := runG_lp_last ((f76_L76000_eq G rd t0 t1 t2 t6 t11 t12 t13 h c df).trans e) hq
noncomputable def f77_L77001 (o : Orc H) (rd : Option Nat) (t2 t3 t4 t5 t10 t31 : Value) (h : H) (c : Nat) (df : List Nat) : Option (Rt H) :=
 (aBinOp P .lss 3 t31 (.int .i64 4)).bind fun t32 =>
 boolK t32
 ((ixA 4 5 t2 t5).bind fun t36 =>
 (addOff t36 1).bind fun t37 =>
 (ixA 4 1 t37 t31).bind fun t38 =>
 (ld1 h t38).bind fun t39 =>
 (ixA 4 5 t3 t5).bind fun t42 =>
 (addOff t42 1).bind fun t43 =>
 (ixA 4 1 t43 t31).bind fun t44 =>
 (ld1 h t44).bind fun t45 =>
 (aBinOp P .neq 3 t39 t45).bind fun t46 =>
 boolK t46
  ((ixA 4 5 t2 t5).bind fun t49 =>
  (addOff t49 1).bind fun t50 =>
  (ixA 4 1 t50 t31).bind fun t51 =>
  (ld1 h t51).bind fun t52 =>
  (ixA 4 5 t3 t5).bind fun t55 =>
  (addOff t55 1).bind fun t56 =>
  (ixA 4 1 t56 t31).bind fun t57 =>
  (ld1 h t57).bind fun t58 =>
  (aBinOp P .sub 3 t52 t58).bind fun t59 =>
  some { e := .ret, vs := [t2, t3, t59, t5, t10, t31], h := h, c := ((((c + 1) + 1) + 1) + 1), df := df })
  ((aBinOp P .add 3 t31 (.int .i64 1)).bind fun t60 =>
  some { e := .normal, vs := [t2, t3, t4, t5, t10, t60], h := h, c := ((((c + 1) + 1) + 1) + 1), df := df }))
 (some { e := (.exit 2), vs := [t2, t3, t4, t5, t10, t31], h := h, c := (c + 1), df := df })
theorem f77_L77001_eq (o : Orc H) (rd : Option Nat) (t2 t3 t4 t5 t10 t31 : Value) (h : H) (c : Nat) (df : List Nat) : jx P o 62 rd f77_c77001 (tmOf [2, 3, 4, 5, 10, 31] [t2, t3, t4, t5, t10, t31]) h c df (Klp [2, 3, 4, 5, 10, 31]) = f77_L77001 o rd t2 t3 t4 t5 t10 t31 h c df := by kernel_rfl
noncomputable def f77_L77000 (o : Orc H) (rd : Option Nat) (t2 t3 t4 t10 : Value) (h : H) (c : Nat) (df : List Nat) : Option (Rt H) :=
 (aBinOp P .lss 3 t10 (.int .i64 4)).bind fun t11 =>
 boolK t11
 ((ixA 4 5 t2 t10).bind fun t14 =>
 (addOff t14 0).bind fun t15 =>
 (ld1 h t15).bind fun t16 =>
 (ixA 4 5 t3 t10).bind fun t18 =>
 (addOff t18 0).bind fun t19 =>
 (ld1 h t19).bind fun t20 =>
 (aBinOp P .neq 3 t16 t20).bind fun t21 =>
 boolK t21
  ((ixA 4 5 t2 t10).bind fun t23 =>
  (addOff t23 0).bind fun t24 =>
  (ld1 h t24).bind fun t25 =>
  (ixA 4 5 t3 t10).bind fun t27 =>
  (addOff t27 0).bind fun t28 =>
  (ld1 h t28).bind fun t29 =>
  (aBinOp P .sub 3 t25 t29).bind fun t30 =>
  some { e := .ret, vs := [t2, t3, t30, t10], h := h, c := ((((c + 1) + 1) + 1) + 1), df := df })
  ((o (f77_k77001 rd) [t2, t3, t4, t10, t10, (.int .i64 0)] h ((((c + 1) + 1) + 1) + 1) df).bind fun r1 =>
  cond (exIs r1.e (.exit 2))
   ((aBinOp P .add 3 (r1.v 4) (.int .i64 1)).bind fun t61 =>
   some { e := .normal, vs := [(r1.v 0), (r1.v 1), (r1.v 2), t61], h := r1.h, c := (r1.c + 1), df := r1.df })
   (cond (exIs r1.e .ret)
    (some { e := .ret, vs := [(r1.v 0), (r1.v 1), (r1.v 2), (r1.v 4)], h := r1.h, c := r1.c, df := r1.df })
    (none))))
 (some { e := (.exit 0), vs := [t2, t3, t4, t10], h := h, c := (c + 1), df := df })
theorem f77_L77000_eq (o : Orc H) (rd : Option Nat) (t2 t3 t4 t10 : Value) (h : H) (c : Nat) (df : List Nat) : jx P o 62 rd f77_c77000 (tmOf [2, 3, 4, 10] [t2, t3, t4, t10]) h c df (Klp [2, 3, 4, 10]) = f77_L77000 o rd t2 t3 t4 t10 h c df := by kernel_rfl
noncomputable def f77_S (o : Orc H) (t0 t1 : Value) (h : H) (c : Nat) : Option (Rt H) :=
 (bif (t0 : Value).cells.toList.all isFlat then
 (bif (t1 : Value).cells.toList.all isFlat then
 (ldN (newB (newB h (256 * c + 0) (t0 : Value).cells.toList) (256 * c + 1) (t1 : Value).cells.toList) 20 (ptrTo (256 * c + 0))).bind fun t7 =>
 (ldN (newB (newB h (256 * c + 0) (t0 : Value).cells.toList) (256 * c + 1) (t1 : Value).cells.toList) 20 (ptrTo (256 * c + 1))).bind fun t8 =>
 (aBinOp P .eql 73 t7 t8).bind fun t9 =>
 boolK t9
 (some { e := .ret, vs := [(.int .i64 0)], h := (newB (newB h (256 * c + 0) (t0 : Value).cells.toList) (256 * c + 1) (t1 : Value).cells.toList), c := (((c + 1) + 1) + 1), df := [] })
 ((o (f77_k77000 none) [(ptrTo (256 * c + 0)), (ptrTo (256 * c + 1)), (.int .i64 0), (.int .i64 0)] (newB (newB h (256 * c + 0) (t0 : Value).cells.toList) (256 * c + 1) (t1 : Value).cells.toList) (((c + 1) + 1) + 1) []).bind fun r0 =>
 cond (exIs r0.e (.exit 0))
  ((takeAll r0.h r0.df).bind fun h2 =>
  some { e := .ret, vs := [(.int .i64 0)], h := h2, c := (r0.c + 1), df := [] })
  (cond (exIs r0.e .ret)
   ((takeAll r0.h r0.df).bind fun h1 =>
   some { e := .ret, vs := [(r0.v 2)], h := h1, c := r0.c, df := [] })
   (none)))
 else none)
 else none)
theorem f77_S_eq (o : Orc H) (t0 t1 : Value) (h : H) (c : Nat) : jx P o 62 none f77_c (tmOf (List.range 2) [t0, t1]) h c [] (Kfn P Try.f77.results.toList) = f77_S o t0 t1 h c := by kernel_rfl
theorem f77_go {t0 t1 : Value} {h : FH} {c : Nat} {df : List Nat} {r : Rt FH} (e : f77_S G t0 t1 h c = some r) : G (.fn 77) [t0, t1] h c df = some (gcR h c [] r) := runG_fn (a := f77_f) bk_77 rfl (fun args h c => by cases args <;> rfl) rfl ((f77_S_eq G t0 t1 h c).trans e)
theorem f77_N77001 {rd : Option Nat} {t2 t3 t4 t5 t10 t31 : Value} {h : FH} {c : Nat} {df : List Nat} {q r : Rt FH} (e : f77_L77001 G rd t2 t3 t4 t5 t10 t31 h c df = some q) (hq : q.e = .normal) (k : G (f77_k77001 rd) q.vs q.h q.c q.df = some r) : G (f77_k77001 rd) [t2, t3, t4, t5, t10, t31] h c df = some r := runG_lp_next ((f77_L77001_eq G rd t2 t3 t4 t5 t10 t31 h c df).trans e) hq k
theorem f77_Z77001 {rd : Option Nat} {t2 t3 t4 t5 t10 t31 : Value} {h : FH} {c : Nat} {df : List Nat} {q : Rt FH} (e : f77_L77001 G rd t2 t3 t4 t5 t10 t31 h c df = some q) (hq : q.e ≠ .normal) : G (f77_k77001 rd) [t2, t3, t4, t5, t10, t31] h c df = some q := runG_lp_last ((f77_L77001_eq G rd t2 t3 t4 t5 t10 t31 h c df).trans e) hq
theorem f77_N77000 {rd : Option Nat} {t2 t3 t4 t10 : Value} {h : FH} {c : Nat} {df : List Nat} {q r : Rt FH} (e : f77_L77000 G rd t2 t3 t4 t10 h c df = some q) (hq : q.e = .normal) (k : G (f77_k77000 rd) q.vs q.h q.c q.df = some r) : G (f77_k77000 rd) [t2, t3, t4, t10] h c df = some r := runG_lp_next ((f77_L77000_eq G rd t2 t3 t4 t10 h c df).trans e) hq k
theorem f77_Z77000 {rd : Option Nat} {t2 t3 t4 t10 : Value} {h : FH} {c : Nat} {df : List Nat} {q : Rt FH} (e : f77_L77000 G rd t2 t3 t4 t10 h c df = some q) (hq : q.e ≠ .normal) : G (f77_k77000 rd) [t2, t3, t4, t10] h c df = some q := runG_lp_last ((f77_L77000_eq G rd t2 t3 t4 t10 h c df).trans e) hq
noncomputable def f78_L78001 (o : Orc H) (rd : Option Nat) (t0 t1 t3 t8 t9 t16 t17 : Value) (h : H) (c : Nat) (df : List Nat) : Option (Rt H) :=
 (aBinOp P .lss 3 t17 (.int .i64 4)).bind fun t18 =>
 boolK t18
 ((ixV 4 true 5 t16 t17).bind fun t20 =>
 (stN (newB h (256 * (c + 1) + 2) [(.int .i64 0), (.int .i64 0), (.int .i64 0), (.int .i64 0), (.int .i64 0)]) 5 (ptrTo (256 * (c + 1) + 2)) t20).bind fun h1 =>
 (bldV [(.int .i64 0), (.int .i64 0)] [(0, 1, t3), (1, 1, t17)]).bind fun t24 =>
 (ldN h1 5 (ptrTo (256 * (c + 1) + 2))).bind fun t25 =>
 (callV o h1 (((c + 1) + 1) + 1) t0 [t24, t25]).bind fun r2 =>
 (aUnOp .not r2.1).bind fun t27 =>
 boolK t27
  (some { e := .ret, vs := [t0, t1, t3, t8, t9, t16, t17], h := r2.2.1, c := r2.2.2, df := df })
  ((aBinOp P .add 3 t17 (.int .i64 1)).bind fun t28 =>
  some { e := .normal, vs := [t0, t1, t3, t8, t9, t16, t28], h := r2.2.1, c := (r2.2.2 + 1), df := df }))
 (some { e := (.exit 2), vs := [t0, t1, t3, t8, t9, t16, t17], h := h, c := (c + 1), df := df })
theorem f78_L78001_eq (o : Orc H) (rd : Option Nat) (t0 t1 t3 t8 t9 t16 t17 : Value) (h : H) (c : Nat) (df : List Nat) : jx P o 30 rd f78_c78001 (tmOf [0, 1, 3, 8, 9, 16, 17] [t0, t1, t3, t8, t9, t16, t17]) h c df (Klp [0, 1, 3, 8, 9, 16, 17]) = f78_L78001 o rd t0 t1 t3 t8 t9 t16 t17 h c df := by kernel_rfl
noncomputable def f78_L78000 (o : Orc H) (rd : Option Nat) (t0 t1 t8 t9 : Value) (h : H) (c : Nat) (df : List Nat) : Option (Rt H) :=
 (aBinOp P .lss 3 t9 t8).bind fun t10 =>
 boolK t10
 ((addOff t1 0).bind fun t12 =>
 (ld1 h t12).bind fun t13 =>
 (ixS 20 t13 t9).bind fun t15 =>
 (ldN h 20 t15).bind fun t16 =>
 (o (f78_k78001 rd) [t0, t1, t9, t8, t9, t16, (.int .i64 0)] h (((c + 1) + 1) + 1) df).bind fun r0 =>
 cond (exIs r0.e (.exit 2))
  ((aBinOp P .add 3 (r0.v 4) (.int .i64 1)).bind fun t29 =>
  some { e := .normal, vs := [(r0.v 0), (r0.v 1), (r0.v 3), t29], h := r0.h, c := (r0.c + 1), df := r0.df })
  (cond (exIs r0.e .ret)
   (some { e := .ret, vs := [(r0.v 0), (r0.v 1), (r0.v 3), (r0.v 4)], h := r0.h, c := r0.c, df := r0.df })
   (none)))
 (some { e := (.exit 0), vs := [t0, t1, t8, t9], h := h, c := (c + 1), df := df })
theorem f78_L78000_eq (o : Orc H) (rd : Option Nat) (t0 t1 t8 t9 : Value) (h : H) (c : Nat) (df : List Nat) : jx P o 30 rd f78_c78000 (tmOf [0, 1, 8, 9] [t0, t1, t8, t9]) h c df (Klp [0, 1, 8, 9]) = f78_L78000 o rd t0 t1 t8 t9 h c df := by kernel_rfl
noncomputable def f78_S (o : Orc H) (t0 t1 : Value) (h : H) (c : Nat) : Option (Rt H) :=
 (addOff t1 0).bind fun t6 =>
 (ld1 h t6).bind fun t7 =>
 (lenS t7).bind fun t8 =>
 (o (f78_k78000 none) [t0, t1, t8, (.int .i64 0)] h (c + 1) []).bind fun r0 =>
 cond (exIs r0.e (.exit 0))
 ((takeAll r0.h r0.df).bind fun h2 =>
 some { e := .ret, vs := [.tuple #[]], h := h2, c := r0.c, df := [] })
 (cond (exIs r0.e .ret)
  ((takeAll r0.h r0.df).bind fun h1 =>
  some { e := .ret, vs := [.tuple #[]], h := h1, c := r0.c, df := [] })
  (none))
theorem f78_S_eq (o : Orc H) (t0 t1 : Value) (h : H) (c : Nat) : jx P o 30 none f78_c (tmOf (List.range 2) [t0, t1]) h c [] (Kfn P Try.f78.results.toList) = f78_S o t0 t1 h c := by kernel_rfl
theorem f78_go {t0 t1 : Value} {h : FH} {c : Nat} {df : List Nat} {r : Rt FH} (e : f78_S G t0 t1 h c = some r) : G (.fn 78) [t0, t1] h c df = some r := runG_fn (a := f78_f) bk_78 rfl (fun args h c => by cases args <;> rfl) rfl ((f78_S_eq G t0 t1 h c).trans e)
theorem f78_N78001 {rd : Option Nat} {t0 t1 t3 t8 t9 t16 t17 : Value} {h : FH} {c : Nat} {df : List Nat} {q r : Rt FH} (e : f78_L78001 G rd t0 t1 t3 t8 t9 t16 t17 h c df = some q) (hq : q.e = .normal) (k : G (f78_k78001 rd) q.vs q.h q.c q.df = some r) : G (f78_k78001 rd) [t0, t1, t3, t8, t9, t16, t17] h c df = some r := runG_lp_next ((f78_L78001_eq G rd t0 t1 t3 t8 t9 t16 t17 h c df).trans e) hq k
theorem f78_Z78001 {rd : Option Nat} {t0 t1 t3 t8 t9 t16 t17 : Value} {h : FH} {c : Nat} {df : List Nat} {q : Rt FH} (e : f78_L78001 G rd t0 t1 t3 t8 t9 t16 t17 h c df = some q) (hq : q.e ≠ .normal) : G (f78_k78001 rd) [t0, t1, t3, t8, t9, t16, t17] h c df = some q := runG_lp_last ((f78_L78001_eq G rd t0 t1 t3 t8 t9 t16 t17 h c df).trans e) hq
theorem f78_N78000 {rd : Option Nat} {t0 t1 t8 t9 : Value} {h : FH} {c : Nat} {df : List Nat} {q r : Rt FH} (e : f78_L78000 G rd t0 t1 t8 t9 h c df = some q) (hq : q.e = .normal) (k : G (f78_k78000 rd) q.vs q.h q.c q.df = some r) : G (f78_k78000 rd) [t0, t1, t8, t9] h c df = some r := runG_lp_next ((f78_L78000_eq G rd t0 t1 t8 t9 h c df).trans e) hq k
theorem f78_Z78000 {rd : Option Nat} {t0 t1 t8 t9 : Value} {h : FH} {c : Nat} {df : List Nat} {q : Rt FH} (e : f78_L78000 G rd t0 t1 t8 t9 h c df = some q) (hq : q.e ≠ .normal) : G (f78_k78000 rd) [t0, t1, t8, t9] h c df = some q := runG_lp_last ((f78_L78000_eq G rd t0 t1 t8 t9 h c df).trans e) hq
noncomputable def f79_S (o : Orc H) (t0 t1 t2 : Value) (h : H) (c : Nat) : Option (Rt H) :=
 (bif (t2 : Value).cells.toList.all isFlat then
 (aNilCheck t0).bind fun t7 =>
 (addOff t7 3).bind fun t8 =>
 (ld1 (newB h (256 * c + 0) (t2 : Value).cells.toList) t8).bind fun t9 =>
 (aNilCheck t0).bind fun t12 =>
 (addOff t12 1).bind fun t13 =>
 (addOff t13 0).bind fun t14 =>
 (ld1 (newB h (256 * c + 0) (t2 : Value).cells.toList) t14).bind fun t15 =>
 (lenS t15).bind fun t16 =>
 (aMapUpdate P (newB h (256 * c + 0) (t2 : Value).cells.toList) 98 t9 t1 t16).bind fun h1 =>
 (aNilCheck t0).bind fun t19 =>
 (addOff t19 1).bind fun t20 =>
 (addOff t20 0).bind fun t21 =>
 (ld1 h1 t21).bind fun t22 =>
 (bldL [(.int .i64 0)] [(0, 1, t1)]).bind fun r2 =>
 (appV (newB h1 (256 * ((c + 1) + 1) + 7) r2) (256 * ((c + 1) + 1) + 8) 1 8 t22 (.slice (some ⟨(256 * ((c + 1) + 1) + 7), 0, none⟩) 1 1)).bind fun r3 =>
 (aNilCheck t0).bind fun t26 =>
 (addOff t26 1).bind fun t27 =>
 (addOff t27 0).bind fun t28 =>
 (stN r3.2 1 t28 r3.1).bind fun h5 =>
 (aNilCheck t0).bind fun t31 =>
 (addOff t31 1).bind fun t32 =>
 (addOff t32 1).bind fun t33 =>
 (ld1 h5 t33).bind fun t34 =>
 (ldN h5 4 (ptrTo (256 * c + 0))).bind fun t35 =>
 (bldL [(.int .i64 0), (.int .i64 0), (.int .i64 0), (.int .i64 0)] [(0, 4, t35)]).bind fun r6 =>
 (appV (newB h5 (256 * (((c + 1) + 1) + 1) + 7) r6) (256 * (((c + 1) + 1) + 1) + 8) 4 32 t34 (.slice (some ⟨(256 * (((c + 1) + 1) + 1) + 7), 0, none⟩) 1 1)).bind fun r7 =>
 (aNilCheck t0).bind fun t38 =>
 (addOff t38 1).bind fun t39 =>
 (addOff t39 1).bind fun t40 =>
 (stN r7.2 1 t40 r7.1).bind fun h9 =>
 some { e := .ret, vs := [.tuple #[]], h := h9, c := ((((c + 1) + 1) + 1) + 1), df := [] }
 else none)
theorem f79_S_eq (o : Orc H) (t0 t1 t2 : Value) (h : H) (c : Nat) : jx P o 41 none f79_c (tmOf (List.range 3) [t0, t1, t2]) h c [] (Kfn P Try.f79.results.toList) = f79_S o t0 t1 t2 h c := by kernel_rfl
theorem f79_go {t0 t1 t2 : Value} {h : FH} {c : Nat} {df : List Nat} {r : Rt FH} (e : f79_S G t0 t1 t2 h c = some r) : G (.fn 79) [t0, t1, t2] h c df = some (gcR h c [] r) := runG_fn (a := f79_f) bk_79 rfl (fun args h c => by cases args <;> rfl) rfl ((f79_S_eq G t0 t1 t2 h c).trans e)
noncomputable def f80_L80000 (o : Orc H) (rd : Option Nat) (t0 t1 t4 t5 t12 : Value) (h : H) (c : Nat) (df : List Nat) : Option (Rt H) :=
 (aBinOp P .lss 3 t12 (.int .i64 4)).bind fun t13 =>
 boolK t13
 (((aNilCheck t0).bind fun t16 =>
  (addOff t16 0).bind fun t17 =>
  (addOff t17 0).bind fun t18 =>
  (ld1 h t18).bind fun t19 =>
  (aNilCheck t0).bind fun t21 =>
  (addOff t21 1).bind fun t22 =>
  (addOff t22 0).bind fun t23 =>
  (ld1 h t23).bind fun t24 =>
  (ixS 1 t24 t1).bind fun t26 =>
  (ld1 h t26).bind fun t27 =>
  (aNilCheck t0).bind fun t29 =>
  (addOff t29 1).bind fun t30 =>
  (addOff t30 1).bind fun t31 =>
  (ld1 h t31).bind fun t32 =>
  (ixS 4 t32 t1).bind fun t35 =>
  (ixA 4 1 t35 t12).bind fun t36 =>
  (ld1 h t36).bind fun t37 =>
  (ixS 20 t19 t27).bind fun t38 =>
  (ixA 4 5 t38 t37).bind fun t39 =>
  (ldN h 5 t39).bind fun t40 =>
  (stN (newB h (256 * ((c + 1) + 1) + 26) [(.int .i64 0), (.int .i64 0), (.int .i64 0), (.int .i64 0), (.int .i64 0)]) 5 (ptrTo (256 * ((c + 1) + 1) + 26)) t40).bind fun h1 =>
  (addOff (ptrTo (256 * ((c + 1) + 1) + 26)) 0).bind fun t41 =>
  (ld1 h1 t41).bind fun t42 =>
  (aBinOp P .lss 3 t42 (.int .i64 0)).bind fun t43 =>
  boolK t43
   ((bldV [(.int .i64 0), (.int .i64 0), (.int .i64 0), (.int .i64 0), (.int .i64 0)] [(0, 1, (.int .i64 (-1)))]).bind fun t45 =>
   (ixA 4 5 t5 t12).bind fun t46 =>
   (stN h1 5 t46 t45).bind fun h3 =>
   some { e := .normal, vs := [t0, t1, t4, t5, t12], h := h3, c := (((((c + 1) + 1) + 1) + 1) + 1), df := df })
   ((addOff (ptrTo (256 * ((c + 1) + 1) + 26)) 1).bind fun t47 =>
   (ldN h1 4 t47).bind fun t48 =>
   (aNilCheck t0).bind fun t50 =>
   (addOff t50 1).bind fun t51 =>
   (addOff t51 1).bind fun t52 =>
   (ld1 h1 t52).bind fun t53 =>
   (ixS 4 t53 t1).bind fun t55 =>
   (ldN h1 4 t55).bind fun t56 =>
   (callF o 61 [t48, t56] h1 (((((c + 1) + 1) + 1) + 1) + 1)).bind fun r4 =>
   (stN (newB r4.2.1 (256 * ((((c + 1) + 1) + 1) + 1) + 11) [(.int .i64 0), (.int .i64 0), (.int .i64 0), (.int .i64 0)]) 4 (ptrTo (256 * ((((c + 1) + 1) + 1) + 1) + 11)) r4.1).bind fun h6 =>
   (aNilCheck t0).bind fun t60 =>
   (addOff t60 3).bind fun t61 =>
   (ld1 h6 t61).bind fun t62 =>
   (addOff (ptrTo (256 * ((c + 1) + 1) + 26)) 0).bind fun t63 =>
   (ld1 h6 t63).bind fun t64 =>
   (aLookup P h6 98 t62 t64 true).bind fun t65 =>
   (extV t65 0).bind fun t66 =>
   (extV t65 1).bind fun t67 =>
   (aUnOp .not t67).bind fun t69 =>
   (boolK t69
     ((addOff (ptrTo (256 * ((c + 1) + 1) + 26)) 0).bind fun t71 =>
     (ld1 h6 t71).bind fun t72 =>
     (ldN h6 4 (ptrTo (256 * ((((c + 1) + 1) + 1) + 1) + 11))).bind fun t73 =>
     (callF o 79 [t0, t72, t73] h6 (((r4.2.2 + 1) + 1) + 1)).bind fun r7 =>
     some { e := .normal, vs := [t0, t1, t4, t5, t12, (ptrTo (256 * ((c + 1) + 1) + 26)), (ptrTo (256 * ((((c + 1) + 1) + 1) + 1) + 11)), t12], h := r7.2.1, c := r7.2.2, df := df })
     (some { e := .normal, vs := [t0, t1, t4, t5, t12, (ptrTo (256 * ((c + 1) + 1) + 26)), (ptrTo (256 * ((((c + 1) + 1) + 1) + 1) + 11)), t12], h := h6, c := ((r4.2.2 + 1) + 1), df := df }) : Option (Rt H)).bind fun r8 =>
   cond (exIs r8.e .normal)
    ((aNilCheck (r8.v 0)).bind fun t76 =>
    (addOff t76 3).bind fun t77 =>
    (ld1 r8.h t77).bind fun t78 =>
    (addOff (r8.v 5) 0).bind fun t79 =>
    (ld1 r8.h t79).bind fun t80 =>
    (aLookup P r8.h 98 t78 t80 false).bind fun t81 =>
    (aNilCheck (r8.v 0)).bind fun t85 =>
    (addOff t85 1).bind fun t86 =>
    (addOff t86 1).bind fun t87 =>
    (ld1 r8.h t87).bind fun t88 =>
    (ixS 4 t88 t81).bind fun t90 =>
    (ldN r8.h 4 t90).bind fun t91 =>
    (callF o 62 [t91] r8.h ((r8.c + 1) + 1)).bind fun r9 =>
    (ldN r9.2.1 4 (r8.v 6)).bind fun t93 =>
    (callF o 61 [r9.1, t93] r9.2.1 r9.2.2).bind fun r10 =>
    (bldV [(.int .i64 0), (.int .i64 0), (.int .i64 0), (.int .i64 0), (.int .i64 0)] [(0, 1, t81), (1, 4, r10.1)]).bind fun t95 =>
    (ixA 4 5 (r8.v 3) (r8.v 4)).bind fun t96 =>
    (stN r10.2.1 5 t96 t95).bind fun h12 =>
    (bif (sameB (ridV (r8.v 6)) r8.h r9.2.1 && true) then
    some { e := .normal, vs := [(r8.v 0), (r8.v 1), (r8.v 2), (r8.v 3), (r8.v 7)], h := h12, c := r10.2.2, df := r8.df }
    else none))
    (none)) : Option (Rt H)).bind fun r13 =>
 cond (exIs r13.e .normal)
  ((aBinOp P .add 3 (r13.v 4) (.int .i64 1)).bind fun t97 =>
  some { e := .normal, vs := [(r13.v 0), (r13.v 1), (r13.v 2), (r13.v 3), t97], h := r13.h, c := (r13.c + 1), df := r13.df })
  (none))
 (some { e := (.exit 0), vs := [t0, t1, t4, t5, t12], h := h, c := (c + 1), df := df })
theorem f80_L80000_eq (o : Orc H) (rd : Option Nat) (t0 t1 t4 t5 t12 : Value) (h : H) (c : Nat) (df : List Nat) : jx P o 99 rd f80_c80000 (tmOf [0, 1, 4, 5, 12] [t0, t1, t4, t5, t12]) h c df (Klp [0, 1, 4, 5, 12]) = f80_L80000 o rd t0 t1 t4 t5 t12 h c df := by kernel_rfl
noncomputable def f80_S (o : Orc H) (t0 t1 : Value) (h : H) (c : Nat) : Option (Rt H) :=
 (o (f80_k80000 none) [t0, t1, (ptrTo (256 * c + 0)), (ptrTo (256 * (c + 1) + 0)), (.int .i64 0)] (newB (newB h (256 * c + 0) [(.int .i64 0), (.int .i64 0), (.int .i64 0), (.int .i64 0), (.int .i64 0), (.int .i64 0), (.int .i64 0), (.int .i64 0), (.int .i64 0), (.int .i64 0), (.int .i64 0), (.int .i64 0), (.int .i64 0), (.int .i64 0), (.int .i64 0), (.int .i64 0), (.int .i64 0), (.int .i64 0), (.int .i64 0), (.int .i64 0)]) (256 * (c + 1) + 0) [(.int .i64 0), (.int .i64 0), (.int .i64 0), (.int .i64 0), (.int .i64 0), (.int .i64 0), (.int .i64 0), (.int .i64 0), (.int .i64 0), (.int .i64 0), (.int .i64 0), (.int .i64 0), (.int .i64 0), (.int .i64 0), (.int .i64 0), (.int .i64 0), (.int .i64 0), (.int .i64 0), (.int .i64 0), (.int .i64 0)]) (((c + 1) + 1) + 1) []).bind fun r0 =>
 cond (exIs r0.e (.exit 0))
 ((ldN r0.h 20 (r0.v 3)).bind fun t98 =>
 (stN r0.h 20 (r0.v 2) t98).bind fun h2 =>
 (takeAll h2 r0.df).bind fun h3 =>
 (ldN h3 20 (r0.v 2)).bind fun v4 =>
 some { e := .ret, vs := [v4], h := h3, c := (r0.c + 1), df := [] })
 (none)
theorem f80_S_eq (o : Orc H) (t0 t1 : Value) (h : H) (c : Nat) : jx P o 99 none f80_c (tmOf (List.range 2) [t0, t1]) h c [] (Kfn P Try.f80.results.toList) = f80_S o t0 t1 h c := by kernel_rfl
theorem f80_go {t0 t1 : Value} {h : FH} {c : Nat} {df : List Nat} {r : Rt FH} (e : f80_S G t0 t1 h c = some r) : G (.fn 80) [t0, t1] h c df = some (gcR h c [] r) := runG_fn (a := f80_f) bk_80 rfl (fun args h c => by cases args <;> rfl) rfl ((f80_S_eq G t0 t1 h c).trans e)
theorem f80_N80000 {rd : Option Nat} {t0 t1 t4 t5 t12 : Value} {h : FH} {c : Nat} {df : List Nat} {q r : Rt FH} (e : f80_L80000 G rd t0 t1 t4 t5 t12 h c df = some q) (hq : q.e = .normal) (k : G (f80_k80000 rd) q.vs q.h q.c q.df = some r) : G (f80_k80000 rd) [t0, t1, t4, t5, t12] h c df = some r := runG_lp_next ((f80_L80000_eq G rd t0 t1 t4 t5 t12 h c df).trans e) hq k
theorem f80_Z80000 {rd : Option Nat} {t0 t1 t4 t5 t12 : Value} {h : FH} {c : Nat} {df : List Nat} {q : Rt FH} (e : f80_L80000 G rd t0 t1 t4 t5 t12 h c df = some q) (hq : q.e ≠ .normal) : G (f80_k80000 rd) [t0, t1, t4, t5, t12] h c df = some q := runG_lp_last ((f80_L80000_eq G rd t0 t1 t4 t5 t12 h c df).trans e) hq
end Go.Proofs.Ytemkjcpfgmbibaa

namespace Go.Proofs.Ytemkjcpfgmbibaa
open Go Go.Ab Go.Proofs
set_option maxRecDepth 100000
set_option linter.unusedVariables false
variable {H : Type} [HeapC H]
noncomputable def f81_L81000 (o : Orc H) (rd : Option Nat) (t0 t1 t2 t6 t7 t8 : Value) (h : H) (c : Nat) (df : List Nat) : Option (Rt H) :=
 (aBinOp P .leq 3 t8 t1).bind fun t13 =>
 boolK t13
 ((callF o 82 [t0, t7, t8, t2] h ((c + 1) + 1)).bind fun r0 =>
 (aBinOp P .add 3 t8 t6).bind fun t22 =>
 some { e := .normal, vs := [t0, t1, t2, t6, t8, t22], h := r0.2.1, c := ((r0.2.2 + 1) + 1), df := df })
 (some { e := (.exit 0), vs := [t0, t1, t2, t6, t7, t8], h := h, c := (c + 1), df := df })
theorem f81_L81000_eq (o : Orc H) (rd : Option Nat) (t0 t1 t2 t6 t7 t8 : Value) (h : H) (c : Nat) (df : List Nat) : jx P o 63 rd f81_c81000 (tmOf [0, 1, 2, 6, 7, 8] [t0, t1, t2, t6, t7, t8]) h c df (Klp [0, 1, 2, 6, 7, 8]) = f81_L81000 o rd t0 t1 t2 t6 t7 t8 h c df := by kernel_rfl
noncomputable def f81_L81002 (o : Orc H) (rd : Option Nat) (t0 t1 t2 t6 t7 t8 : Value) (h : H) (c : Nat) (df : List Nat) : Option (Rt H) :=
 (aBinOp P .leq 3 t8 t1).bind fun t35 =>
 boolK t35
 ((aBinOp P .add 3 t7 t6).bind fun t40 =>
 (callF o 83 [t0, t7, t40, t8, t2] h ((c + 1) + 1)).bind fun r0 =>
 (aBinOp P .mul 3 (.int .i64 2) t6).bind fun t47 =>
 (aBinOp P .add 3 t8 t47).bind fun t48 =>
 some { e := .normal, vs := [t0, t1, t2, t6, t8, t48], h := r0.2.1, c := ((r0.2.2 + 1) + 1), df := df })
 (some { e := (.exit 4), vs := [t0, t1, t2, t6, t7, t8], h := h, c := (c + 1), df := df })
theorem f81_L81002_eq (o : Orc H) (rd : Option Nat) (t0 t1 t2 t6 t7 t8 : Value) (h : H) (c : Nat) (df : List Nat) : jx P o 63 rd f81_c81002 (tmOf [0, 1, 2, 6, 7, 8] [t0, t1, t2, t6, t7, t8]) h c df (Klp [0, 1, 2, 6, 7, 8]) = f81_L81002 o rd t0 t1 t2 t6 t7 t8 h c df := by kernel_rfl
noncomputable def f81_L81001 (o : Orc H) (rd : Option Nat) (t0 t1 t2 t6 : Value) (h : H) (c : Nat) (df : List Nat) : Option (Rt H) :=
 (aBinOp P .lss 3 t6 t1).bind fun t30 =>
 boolK t30
 ((aBinOp P .mul 3 (.int .i64 2) t6).bind fun t32 =>
 (o (f81_k81002 rd) [t0, t1, t2, t6, (.int .i64 0), t32] h ((c + 1) + 1) df).bind fun r0 =>
 cond (exIs r0.e (.exit 4))
  ((aBinOp P .add 3 (r0.v 4) (r0.v 3)).bind fun t51 =>
  (aBinOp P .lss 3 t51 (r0.v 1)).bind fun t54 =>
  (boolK t54
    ((callF o 83 [(r0.v 0), (r0.v 4), t51, (r0.v 1), (r0.v 2)] r0.h (((r0.c + 1) + 1) + 1)).bind fun r1 =>
    some { e := .normal, vs := [(r0.v 0), (r0.v 1), (r0.v 2), (r0.v 3)], h := r1.2.1, c := r1.2.2, df := r0.df })
    (some { e := .normal, vs := [(r0.v 0), (r0.v 1), (r0.v 2), (r0.v 3)], h := r0.h, c := ((r0.c + 1) + 1), df := r0.df }) : Option (Rt H)).bind fun r2 =>
  cond (exIs r2.e .normal)
   ((aBinOp P .mul 3 (r2.v 3) (.int .i64 2)).bind fun t62 =>
   some { e := .normal, vs := [(r2.v 0), (r2.v 1), (r2.v 2), t62], h := r2.h, c := (r2.c + 1), df := r2.df })
   (none))
  (none))
 (some { e := (.exit 2), vs := [t0, t1, t2, t6], h := h, c := (c + 1), df := df })
theorem f81_L81001_eq (o : Orc H) (rd : Option Nat) (t0 t1 t2 t6 : Value) (h : H) (c : Nat) (df : List Nat) : jx P o 63 rd f81_c81001 (tmOf [0, 1, 2, 6] [t0, t1, t2, t6]) h c df (Klp [0, 1, 2, 6]) = f81_L81001 o rd t0 t1 t2 t6 h c df := by kernel_rfl
noncomputable def f81_S (o : Orc H) (t0 t1 t2 : Value) (h : H) (c : Nat) : Option (Rt H) :=
 (o (f81_k81000 none) [t0, t1, t2, (.int .i64 20), (.int .i64 0), (.int .i64 20)] h ((c + 1) + 1) []).bind fun r0 =>
 cond (exIs r0.e (.exit 0))
 ((callF o 82 [(r0.v 0), (r0.v 4), (r0.v 1), (r0.v 2)] r0.h (r0.c + 1)).bind fun r1 =>
 (o (f81_k81001 none) [(r0.v 0), (r0.v 1), (r0.v 2), (r0.v 3)] r1.2.1 r1.2.2 r0.df).bind fun r2 =>
 cond (exIs r2.e (.exit 2))
  ((takeAll r2.h r2.df).bind fun h3 =>
  some { e := .ret, vs := [.tuple #[]], h := h3, c := r2.c, df := [] })
  (none))
 (none)
theorem f81_S_eq (o : Orc H) (t0 t1 t2 : Value) (h : H) (c : Nat) : jx P o 63 none f81_c (tmOf (List.range 3) [t0, t1, t2]) h c [] (Kfn P Try.f81.results.toList) = f81_S o t0 t1 t2 h c := by kernel_rfl
theorem f81_go {t0 t1 t2 : Value} {h : FH} {c : Nat} {df : List Nat} {r : Rt FH} (e : f81_S G t0 t1 t2 h c = some r) : G (.fn 81) [t0, t1, t2] h c df = some (gcR h c [] r) := runG_fn (a := f81_f) bk_81 rfl (fun args h c => by cases args <;> rfl) rfl ((f81_S_eq G t0 t1 t2 h c).trans e)
theorem f81_N81000 {rd : Option Nat} {t0 t1 t2 t6 t7 t8 : Value} {h : FH} {c : Nat} {df : List Nat} {q r : Rt FH} (e : f81_L81000 G rd t0 t1 t2 t6 t7 t8 h c df = some q) (hq : q.e = .normal) (k : G (f81_k81000 rd) q.vs q.h q.c q.df = some r) : G (f81_k81000 rd) [t0, t1, t2, t6, t7, t8] h c df = some r := runG_lp_next ((f81_L81000_eq G rd t0 t1 t2 t6 t7 t8 h c df).trans e) hq k
theorem f81_Z81000 {rd : Option Nat} {t0 t1 t2 t6 t7 t8 : Value} {h : FH} {c : Nat} {df : List Nat} {q : Rt FH} (e : f81_L81000 G rd t0 t1 t2 t6 t7 t8 h c df = some q) (hq : q.e ≠ .normal) : G (f81_k81000 rd) [t0, t1, t2, t6, t7, t8] h c df = some q := runG_lp_last ((f81_L81000_eq G rd t0 t1 t2 t6 t7 t8 h c df).trans e) hq
theorem f81_N81002 {rd : Option Nat} {t0 t1 t2 t6 t7 t8 : Value} {h : FH} {c : Nat} {df : List Nat} {q r : Rt FH} (e : f81_L81002 G rd t0 t1 t2 t6 t7 t8 h c df = some q) (hq : q.e = .normal) (k : G (f81_k81002 rd) q.vs q.h q.c q.df = some r) : G (f81_k81002 rd) [t0, t1, t2, t6, t7, t8] h c df = some r := runG_lp_next ((f81_L81002_eq G rd t0 t1 t2 t6 t7 t8 h c df).trans e) hq k
theorem f81_Z81002 {rd : Option Nat} {t0 t1 t2 t6 t7 t8 : Value} {h : FH} {c : Nat} {df : List Nat} {q : Rt FH} (e : f81_L81002 G rd t0 t1 t2 t6 t7 t8 h c df = some q) (hq : q.e ≠ .normal) : G (f81_k81002 rd) [t0, t1, t2, t6, t7, t8] h c df = some q := runG_lp_last ((f81_L81002_eq G rd t0 t1 t2 t6 t7 t8 h c df).trans e) hq
theorem f81_N81001 {rd : Option Nat} {t0 t1 t2 t6 : Value} {h : FH} {c : Nat} {df : List Nat} {q r : Rt FH} (e : f81_L81001 G rd t0 t1 t2 t6 h c df = some q) (hq : q.e = .normal) (k : G (f81_k81001 rd) q.vs q.h q.c q.df = some r) : G (f81_k81001 rd) [t0, t1, t2, t6] h c df = some r := runG_lp_next ((f81_L81001_eq G rd t0 t1 t2 t6 h c df).trans e) hq k
theorem f81_Z81001 {rd : Option Nat} {t0 t1 t2 t6 : Value} {h : FH} {c : Nat} {df : List Nat} {q : Rt FH} (e : f81_L81001 G rd t0 t1 t2 t6 h c df = some q) (hq : q.e ≠ .normal) : G (f81_k81001 rd) [t0, t1, t2, t6] h c df = some q := runG_lp_last ((f81_L81001_eq G rd t0 t1 t2 t6 h c df).trans e) hq
noncomputable def f82_L82001 (o : Orc H) (rd : Option Nat) (t0 t1 t2 t3 t8 t9 : Value) (h : H) (c : Nat) (df : List Nat) : Option (Rt H) :=
 (aBinOp P .gtr 3 t9 t1).bind fun t20 =>
 ((gv t20 true).bind fun w => cond w (ret1 h (c + 1) (some t3)) (some (undef, h, (c + 1)))).bind fun r0 =>
 ((gv t20 true).bind fun w => cond w (ret1 r0.2.1 r0.2.2 (some t0)) (some (undef, r0.2.1, r0.2.2))).bind fun r1 =>
 ((gv t20 true).bind fun w => cond w (ret1 r1.2.1 r1.2.2 (some t9)) (some (undef, r1.2.1, r1.2.2))).bind fun r2 =>
 ((gv t20 true).bind fun w => cond w (ret1 r2.2.1 r2.2.2 (ixS 1 r1.1 r2.1)) (some (undef, r2.2.1, r2.2.2))).bind fun r3 =>
 ((gv t20 true).bind fun w => cond w (ret1 r3.2.1 r3.2.2 (ld1 r3.2.1 r3.1)) (some (undef, r3.2.1, r3.2.2))).bind fun r4 =>
 ((gv t20 true).bind fun w => cond w (ret1 r4.2.1 r4.2.2 (some t0)) (some (undef, r4.2.1, r4.2.2))).bind fun r5 =>
 ((gv t20 true).bind fun w => cond w (ret1 r5.2.1 r5.2.2 (some t9)) (some (undef, r5.2.1, r5.2.2))).bind fun r6 =>
 ((gv t20 true).bind fun w => cond w (ret1 r6.2.1 r6.2.2 (aBinOp P .sub 3 r6.1 (.int .i64 1))) (some (undef, r6.2.1, r6.2.2))).bind fun r7 =>
 ((gv t20 true).bind fun w => cond w (ret1 r7.2.1 r7.2.2 (ixS 1 r5.1 r7.1)) (some (undef, r7.2.1, r7.2.2))).bind fun r8 =>
 ((gv t20 true).bind fun w => cond w (ret1 r8.2.1 r8.2.2 (ld1 r8.2.1 r8.1)) (some (undef, r8.2.1, r8.2.2))).bind fun r9 =>
 ((gv t20 true).bind fun w => cond w (callV o r9.2.1 r9.2.2 r0.1 [r4.1, r9.1]) (some (undef, r9.2.1, r9.2.2))).bind fun r10 =>
 ((gv t20 true).bind fun w => cond w (ret1 r10.2.1 r10.2.2 (aBinOp P .lss 3 r10.1 (.int .i64 0))) (some (undef, r10.2.1, r10.2.2))).bind fun r11 =>
 (pickV t20 r11.1 (.bool false)).bind fun t34 =>
 boolK t34
 ((aBinOp P .sub 3 t9 (.int .i64 1)).bind fun t41 =>
 (aBinOp P .sub 3 t9 (.int .i64 1)).bind fun t44 =>
 (ixS 1 t0 t44).bind fun t45 =>
 (ld1 r11.2.1 t45).bind fun t46 =>
 (ixS 1 t0 t9).bind fun t49 =>
 (ld1 r11.2.1 t49).bind fun t50 =>
 (ixS 1 t0 t9).bind fun t51 =>
 (stN r11.2.1 1 t51 t46).bind fun h13 =>
 (ixS 1 t0 t41).bind fun t52 =>
 (stN h13 1 t52 t50).bind fun h15 =>
 (aBinOp P .sub 3 t9 (.int .i64 1)).bind fun t36 =>
 some { e := .normal, vs := [t0, t1, t2, t3, t8, t36], h := h15, c := ((r11.2.2 + 1) + 1), df := df })
 (some { e := (.exit 2), vs := [t0, t1, t2, t3, t8, t9], h := r11.2.1, c := r11.2.2, df := df })
theorem f82_L82001_eq (o : Orc H) (rd : Option Nat) (t0 t1 t2 t3 t8 t9 : Value) (h : H) (c : Nat) (df : List Nat) : jx P o 53 rd f82_c82001 (tmOf [0, 1, 2, 3, 8, 9] [t0, t1, t2, t3, t8, t9]) h c df (Klp [0, 1, 2, 3, 8, 9]) = f82_L82001 o rd t0 t1 t2 t3 t8 t9 h c df := by kernel_rfl
noncomputable def f82_L82000 (o : Orc H) (rd : Option Nat) (t0 t1 t2 t3 t8 : Value) (h : H) (c : Nat) (df : List Nat) : Option (Rt H) :=
 (aBinOp P .lss 3 t8 t2).bind fun t14 =>
 boolK t14
 ((o (f82_k82001 rd) [t0, t1, t2, t3, t8, t8] h ((c + 1) + 1) df).bind fun r0 =>
 cond (exIs r0.e (.exit 2))
  ((aBinOp P .add 3 (r0.v 4) (.int .i64 1)).bind fun t16 =>
  some { e := .normal, vs := [(r0.v 0), (r0.v 1), (r0.v 2), (r0.v 3), t16], h := r0.h, c := (r0.c + 1), df := r0.df })
  (none))
 (some { e := (.exit 0), vs := [t0, t1, t2, t3, t8], h := h, c := (c + 1), df := df })
theorem f82_L82000_eq (o : Orc H) (rd : Option Nat) (t0 t1 t2 t3 t8 : Value) (h : H) (c : Nat) (df : List Nat) : jx P o 53 rd f82_c82000 (tmOf [0, 1, 2, 3, 8] [t0, t1, t2, t3, t8]) h c df (Klp [0, 1, 2, 3, 8]) = f82_L82000 o rd t0 t1 t2 t3 t8 h c df := by kernel_rfl
noncomputable def f82_S (o : Orc H) (t0 t1 t2 t3 : Value) (h : H) (c : Nat) : Option (Rt H) :=
 (aBinOp P .add 3 t1 (.int .i64 1)).bind fun t11 =>
 (o (f82_k82000 none) [t0, t1, t2, t3, t11] h (c + 1) []).bind fun r0 =>
 cond (exIs r0.e (.exit 0))
 ((takeAll r0.h r0.df).bind fun h1 =>
 some { e := .ret, vs := [.tuple #[]], h := h1, c := r0.c, df := [] })
 (none)
theorem f82_S_eq (o : Orc H) (t0 t1 t2 t3 : Value) (h : H) (c : Nat) : jx P o 53 none f82_c (tmOf (List.range 4) [t0, t1, t2, t3]) h c [] (Kfn P Try.f82.results.toList) = f82_S o t0 t1 t2 t3 h c := by kernel_rfl
theorem f82_go {t0 t1 t2 t3 : Value} {h : FH} {c : Nat} {df : List Nat} {r : Rt FH} (e : f82_S G t0 t1 t2 t3 h c = some r) : G (.fn 82) [t0, t1, t2, t3] h c df = some (gcR h c [] r) := runG_fn (a := f82_f) bk_82 rfl (fun args h c => by cases args <;> rfl) rfl ((f82_S_eq G t0 t1 t2 t3 h c).trans e)
theorem f82_N82001 {rd : Option Nat} {t0 t1 t2 t3 t8 t9 : Value} {h : FH} {c : Nat} {df : List Nat} {q r : Rt FH} (e : f82_L82001 G rd t0 t1 t2 t3 t8 t9 h c df = some q) (hq : q.e = .normal) (k : G (f82_k82001 rd) q.vs q.h q.c q.df = some r) : G (f82_k82001 rd) [t0, t1, t2, t3, t8, t9] h c df = some r := runG_lp_next ((f82_L82001_eq G rd t0 t1 t2 t3 t8 t9 h c df).trans e) hq k
theorem f82_Z82001 {rd : Option Nat} {t0 t1 t2 t3 t8 t9 : Value} {h : FH} {c : Nat} {df : List Nat} {q : Rt FH} (e : f82_L82001 G rd t0 t1 t2 t3 t8 t9 h c df = some q) (hq : q.e ≠ .normal) : G (f82_k82001 rd) [t0, t1, t2, t3, t8, t9] h c df = some q := runG_lp_last ((f82_L82001_eq G rd t0 t1 t2 t3 t8 t9 h c df).trans e) hq
theorem f82_N82000 {rd : Option Nat} {t0 t1 t2 t3 t8 : Value} {h : FH} {c : Nat} {df : List Nat} {q r : Rt FH} (e : f82_L82000 G rd t0 t1 t2 t3 t8 h c df = some q) (hq : q.e = .normal) (k : G (f82_k82000 rd) q.vs q.h q.c q.df = some r) : G (f82_k82000 rd) [t0, t1, t2, t3, t8] h c df = some r := runG_lp_next ((f82_L82000_eq G rd t0 t1 t2 t3 t8 h c df).trans e) hq k
theorem f82_Z82000 {rd : Option Nat} {t0 t1 t2 t3 t8 : Value} {h : FH} {c : Nat} {df : List Nat} {q : Rt FH} (e : f82_L82000 G rd t0 t1 t2 t3 t8 h c df = some q) (hq : q.e ≠ .normal) : G (f82_k82000 rd) [t0, t1, t2, t3, t8] h c df = some q := runG_lp_last ((f82_L82000_eq G rd t0 t1 t2 t3 t8 h c df).trans e) hq
noncomputable def f83_L83000 (o : Orc H) (rd : Option Nat) (t0 t1 t4 t10 t11 : Value) (h : H) (c : Nat) (df : List Nat) : Option (Rt H) :=
 (aBinOp P .lss 3 t10 t11).bind fun t33 =>
 boolK t33
 ((aBinOp P .add 3 t10 t11).bind fun t36 =>
 (cnvI .u64 t36).bind fun t37 =>
 (aBinOp P .shr 91 t37 (.int .u64 1)).bind fun t38 =>
 (cnvI .i64 t38).bind fun t39 =>
 (ixS 1 t0 t39).bind fun t43 =>
 (ld1 h t43).bind fun t44 =>
 (ixS 1 t0 t1).bind fun t47 =>
 (ld1 h t47).bind fun t48 =>
 (callV o h (((c + 1) + 1) + 1) t4 [t44, t48]).bind fun r0 =>
 (aBinOp P .lss 3 r0.1 (.int .i64 0)).bind fun t50 =>
 (boolK t50
   ((aBinOp P .add 3 t39 (.int .i64 1)).bind fun t52 =>
   some { e := .normal, vs := [t0, t1, t4, t52, t11], h := r0.2.1, c := (r0.2.2 + 1), df := df })
   (some { e := .normal, vs := [t0, t1, t4, t10, t39], h := r0.2.1, c := (r0.2.2 + 1), df := df }) : Option (Rt H)).bind fun r3 =>
 cond (exIs r3.e .normal)
  (some { e := .normal, vs := [(r3.v 0), (r3.v 1), (r3.v 2), (r3.v 3), (r3.v 4)], h := r3.h, c := r3.c, df := r3.df })
  (none))
 (some { e := (.exit 0), vs := [t0, t1, t4, t10, t11], h := h, c := (c + 1), df := df })
theorem f83_L83000_eq (o : Orc H) (rd : Option Nat) (t0 t1 t4 t10 t11 : Value) (h : H) (c : Nat) (df : List Nat) : jx P o 220 rd f83_c83000 (tmOf [0, 1, 4, 10, 11] [t0, t1, t4, t10, t11]) h c df (Klp [0, 1, 4, 10, 11]) = f83_L83000 o rd t0 t1 t4 t10 t11 h c df := by kernel_rfl
noncomputable def f83_L83001 (o : Orc H) (rd : Option Nat) (t0 t10 t13 : Value) (h : H) (c : Nat) (df : List Nat) : Option (Rt H) :=
 (aBinOp P .sub 3 t10 (.int .i64 1)).bind fun t57 =>
 (aBinOp P .lss 3 t13 t57).bind fun t58 =>
 boolK t58
 ((aBinOp P .add 3 t13 (.int .i64 1)).bind fun t65 =>
 (aBinOp P .add 3 t13 (.int .i64 1)).bind fun t68 =>
 (ixS 1 t0 t68).bind fun t69 =>
 (ld1 h t69).bind fun t70 =>
 (ixS 1 t0 t13).bind fun t73 =>
 (ld1 h t73).bind fun t74 =>
 (ixS 1 t0 t13).bind fun t75 =>
 (stN h 1 t75 t70).bind fun h1 =>
 (ixS 1 t0 t65).bind fun t76 =>
 (stN h1 1 t76 t74).bind fun h3 =>
 (aBinOp P .add 3 t13 (.int .i64 1)).bind fun t60 =>
 some { e := .normal, vs := [t0, t10, t60], h := h3, c := (((c + 1) + 1) + 1), df := df })
 (some { e := (.exit 2), vs := [t0, t10, t13], h := h, c := (c + 1), df := df })
theorem f83_L83001_eq (o : Orc H) (rd : Option Nat) (t0 t10 t13 : Value) (h : H) (c : Nat) (df : List Nat) : jx P o 220 rd f83_c83001 (tmOf [0, 10, 13] [t0, t10, t13]) h c df (Klp [0, 10, 13]) = f83_L83001 o rd t0 t10 t13 h c df := by kernel_rfl
noncomputable def f83_L83002 (o : Orc H) (rd : Option Nat) (t0 t2 t4 t14 t15 : Value) (h : H) (c : Nat) (df : List Nat) : Option (Rt H) :=
 (aBinOp P .lss 3 t14 t15).bind fun t85 =>
 boolK t85
 ((aBinOp P .add 3 t14 t15).bind fun t88 =>
 (cnvI .u64 t88).bind fun t89 =>
 (aBinOp P .shr 91 t89 (.int .u64 1)).bind fun t90 =>
 (cnvI .i64 t90).bind fun t91 =>
 (ixS 1 t0 t2).bind fun t95 =>
 (ld1 h t95).bind fun t96 =>
 (ixS 1 t0 t91).bind fun t99 =>
 (ld1 h t99).bind fun t100 =>
 (callV o h (((c + 1) + 1) + 1) t4 [t96, t100]).bind fun r0 =>
 (aBinOp P .lss 3 r0.1 (.int .i64 0)).bind fun t102 =>
 (aUnOp .not t102).bind fun t103 =>
 (boolK t103
   ((aBinOp P .add 3 t91 (.int .i64 1)).bind fun t105 =>
   some { e := .normal, vs := [t0, t2, t4, t105, t15], h := r0.2.1, c := (r0.2.2 + 1), df := df })
   (some { e := .normal, vs := [t0, t2, t4, t14, t91], h := r0.2.1, c := (r0.2.2 + 1), df := df }) : Option (Rt H)).bind fun r3 =>
 cond (exIs r3.e .normal)
  (some { e := .normal, vs := [(r3.v 0), (r3.v 1), (r3.v 2), (r3.v 3), (r3.v 4)], h := r3.h, c := r3.c, df := r3.df })
  (none))
 (some { e := (.exit 4), vs := [t0, t2, t4, t14, t15], h := h, c := (c + 1), df := df })
theorem f83_L83002_eq (o : Orc H) (rd : Option Nat) (t0 t2 t4 t14 t15 : Value) (h : H) (c : Nat) (df : List Nat) : jx P o 220 rd f83_c83002 (tmOf [0, 2, 4, 14, 15] [t0, t2, t4, t14, t15]) h c df (Klp [0, 2, 4, 14, 15]) = f83_L83002 o rd t0 t2 t4 t14 t15 h c df := by kernel_rfl
noncomputable def f83_L83003 (o : Orc H) (rd : Option Nat) (t0 t14 t17 : Value) (h : H) (c : Nat) (df : List Nat) : Option (Rt H) :=
 (aBinOp P .gtr 3 t17 t14).bind fun t110 =>
 boolK t110
 ((aBinOp P .sub 3 t17 (.int .i64 1)).bind fun t117 =>
 (aBinOp P .sub 3 t17 (.int .i64 1)).bind fun t120 =>
 (ixS 1 t0 t120).bind fun t121 =>
 (ld1 h t121).bind fun t122 =>
 (ixS 1 t0 t17).bind fun t125 =>
 (ld1 h t125).bind fun t126 =>
 (ixS 1 t0 t17).bind fun t127 =>
 (stN h 1 t127 t122).bind fun h1 =>
 (ixS 1 t0 t117).bind fun t128 =>
 (stN h1 1 t128 t126).bind fun h3 =>
 (aBinOp P .sub 3 t17 (.int .i64 1)).bind fun t112 =>
 some { e := .normal, vs := [t0, t14, t112], h := h3, c := (((c + 1) + 1) + 1), df := df })
 (some { e := (.exit 6), vs := [t0, t14, t17], h := h, c := (c + 1), df := df })
theorem f83_L83003_eq (o : Orc H) (rd : Option Nat) (t0 t14 t17 : Value) (h : H) (c : Nat) (df : List Nat) : jx P o 220 rd f83_c83003 (tmOf [0, 14, 17] [t0, t14, t17]) h c df (Klp [0, 14, 17]) = f83_L83003 o rd t0 t14 t17 h c df := by kernel_rfl
noncomputable def f83_L83004 (o : Orc H) (rd : Option Nat) (t0 t1 t2 t3 t4 t18 t19 t20 t21 t22 : Value) (h : H) (c : Nat) (df : List Nat) : Option (Rt H) :=
 (aBinOp P .lss 3 t20 t21).bind fun t151 =>
 boolK t151
 ((aBinOp P .add 3 t20 t21).bind fun t154 =>
 (cnvI .u64 t154).bind fun t155 =>
 (aBinOp P .shr 91 t155 (.int .u64 1)).bind fun t156 =>
 (cnvI .i64 t156).bind fun t157 =>
 (aBinOp P .sub 3 t22 t157).bind fun t162 =>
 (ixS 1 t0 t162).bind fun t163 =>
 (ld1 h t163).bind fun t164 =>
 (ixS 1 t0 t157).bind fun t167 =>
 (ld1 h t167).bind fun t168 =>
 (callV o h (((c + 1) + 1) + 1) t4 [t164, t168]).bind fun r0 =>
 (aBinOp P .lss 3 r0.1 (.int .i64 0)).bind fun t170 =>
 (aUnOp .not t170).bind fun t171 =>
 (boolK t171
   ((aBinOp P .add 3 t157 (.int .i64 1)).bind fun t173 =>
   some { e := .normal, vs := [t0, t1, t2, t3, t4, t18, t19, t173, t21, t22], h := r0.2.1, c := (r0.2.2 + 1), df := df })
   (some { e := .normal, vs := [t0, t1, t2, t3, t4, t18, t19, t20, t157, t22], h := r0.2.1, c := (r0.2.2 + 1), df := df }) : Option (Rt H)).bind fun r3 =>
 cond (exIs r3.e .normal)
  (some { e := .normal, vs := [(r3.v 0), (r3.v 1), (r3.v 2), (r3.v 3), (r3.v 4), (r3.v 5), (r3.v 6), (r3.v 7), (r3.v 8), (r3.v 9)], h := r3.h, c := r3.c, df := r3.df })
  (none))
 (some { e := (.exit 8), vs := [t0, t1, t2, t3, t4, t18, t19, t20, t21, t22], h := h, c := (c + 1), df := df })
theorem f83_L83004_eq (o : Orc H) (rd : Option Nat) (t0 t1 t2 t3 t4 t18 t19 t20 t21 t22 : Value) (h : H) (c : Nat) (df : List Nat) : jx P o 220 rd f83_c83004 (tmOf [0, 1, 2, 3, 4, 18, 19, 20, 21, 22] [t0, t1, t2, t3, t4, t18, t19, t20, t21, t22]) h c df (Klp [0, 1, 2, 3, 4, 18, 19, 20, 21, 22]) = f83_L83004 o rd t0 t1 t2 t3 t4 t18 t19 t20 t21 t22 h c df := by kernel_rfl
noncomputable def f83_S (o : Orc H) (t0 t1 t2 t3 t4 : Value) (h : H) (c : Nat) : Option (Rt H) :=
 (aBinOp P .sub 3 t2 t1).bind fun t27 =>
 (aBinOp P .eql 3 t27 (.int .i64 1)).bind fun t28 =>
 boolK t28
 ((o (f83_k83000 none) [t0, t1, t4, t2, t3] h (((c + 1) + 1) + 1) []).bind fun r0 =>
 cond (exIs r0.e (.exit 0))
  ((o (f83_k83001 none) [(r0.v 0), (r0.v 3), (r0.v 1)] r0.h (r0.c + 1) r0.df).bind fun r1 =>
  cond (exIs r1.e (.exit 2))
   ((takeAll r1.h r1.df).bind fun h2 =>
   some { e := .ret, vs := [.tuple #[]], h := h2, c := r1.c, df := [] })
   (none))
  (none))
 ((aBinOp P .sub 3 t3 t2).bind fun t79 =>
 (aBinOp P .eql 3 t79 (.int .i64 1)).bind fun t80 =>
 boolK t80
  ((o (f83_k83002 none) [t0, t2, t4, t1, t2] h ((((c + 1) + 1) + 1) + 1) []).bind fun r3 =>
  cond (exIs r3.e (.exit 4))
   ((o (f83_k83003 none) [(r3.v 0), (r3.v 3), (r3.v 1)] r3.h (r3.c + 1) r3.df).bind fun r4 =>
   cond (exIs r4.e (.exit 6))
    ((takeAll r4.h r4.df).bind fun h5 =>
    some { e := .ret, vs := [.tuple #[]], h := h5, c := r4.c, df := [] })
    (none))
   (none))
  ((aBinOp P .add 3 t1 t3).bind fun t131 =>
  (cnvI .u64 t131).bind fun t132 =>
  (aBinOp P .shr 91 t132 (.int .u64 1)).bind fun t133 =>
  (cnvI .i64 t133).bind fun t134 =>
  (aBinOp P .add 3 t134 t2).bind fun t137 =>
  (aBinOp P .gtr 3 t2 t134).bind fun t140 =>
  (boolK t140
    ((aBinOp P .sub 3 t137 t3).bind fun t143 =>
    some { e := .normal, vs := [t0, t1, t2, t3, t4, t134, t137, t143, t134], h := h, c := ((((((((c + 1) + 1) + 1) + 1) + 1) + 1) + 1) + 1), df := [] })
    (some { e := .normal, vs := [t0, t1, t2, t3, t4, t134, t137, t1, t2], h := h, c := ((((((((c + 1) + 1) + 1) + 1) + 1) + 1) + 1) + 1), df := [] }) : Option (Rt H)).bind fun r6 =>
  cond (exIs r6.e .normal)
   ((aBinOp P .sub 3 (r6.v 6) (.int .i64 1)).bind fun t148 =>
   (o (f83_k83004 none) [(r6.v 0), (r6.v 1), (r6.v 2), (r6.v 3), (r6.v 4), (r6.v 5), (r6.v 6), (r6.v 7), (r6.v 8), t148] r6.h (r6.c + 1) r6.df).bind fun r7 =>
   cond (exIs r7.e (.exit 8))
    ((aBinOp P .sub 3 (r7.v 6) (r7.v 7)).bind fun t177 =>
    (aBinOp P .lss 3 (r7.v 7) (r7.v 2)).bind fun t180 =>
    ((gv t180 true).bind fun w => cond w (ret1 r7.h ((r7.c + 1) + 1) (some (r7.v 2))) (some (undef, r7.h, ((r7.c + 1) + 1)))).bind fun r8 =>
    ((gv t180 true).bind fun w => cond w (ret1 r8.2.1 r8.2.2 (some t177)) (some (undef, r8.2.1, r8.2.2))).bind fun r9 =>
    ((gv t180 true).bind fun w => cond w (ret1 r9.2.1 r9.2.2 (aBinOp P .lss 3 r8.1 r9.1)) (some (undef, r9.2.1, r9.2.2))).bind fun r10 =>
    (pickV t180 r10.1 (.bool false)).bind fun t185 =>
    (boolK t185
      ((callF o 84 [(r7.v 0), (r7.v 7), (r7.v 2), t177, (r7.v 4)] r10.2.1 (r10.2.2 + 1)).bind fun r11 =>
      some { e := .normal, vs := [(r7.v 0), (r7.v 1), (r7.v 3), (r7.v 4), (r7.v 5), (r7.v 7), t177], h := r11.2.1, c := r11.2.2, df := r7.df })
      (some { e := .normal, vs := [(r7.v 0), (r7.v 1), (r7.v 3), (r7.v 4), (r7.v 5), (r7.v 7), t177], h := r10.2.1, c := r10.2.2, df := r7.df }) : Option (Rt H)).bind fun r12 =>
    cond (exIs r12.e .normal)
     ((aBinOp P .lss 3 (r12.v 1) (r12.v 5)).bind fun t194 =>
     ((gv t194 true).bind fun w => cond w (ret1 r12.h (r12.c + 1) (some (r12.v 5))) (some (undef, r12.h, (r12.c + 1)))).bind fun r13 =>
     ((gv t194 true).bind fun w => cond w (ret1 r13.2.1 r13.2.2 (some (r12.v 4))) (some (undef, r13.2.1, r13.2.2))).bind fun r14 =>
     ((gv t194 true).bind fun w => cond w (ret1 r14.2.1 r14.2.2 (aBinOp P .lss 3 r13.1 r14.1)) (some (undef, r14.2.1, r14.2.2))).bind fun r15 =>
     (pickV t194 r15.1 (.bool false)).bind fun t199 =>
     (boolK t199
       ((callF o 83 [(r12.v 0), (r12.v 1), (r12.v 5), (r12.v 4), (r12.v 3)] r15.2.1 (r15.2.2 + 1)).bind fun r16 =>
       some { e := .normal, vs := [(r12.v 0), (r12.v 2), (r12.v 3), (r12.v 4), (r12.v 6)], h := r16.2.1, c := r16.2.2, df := r12.df })
       (some { e := .normal, vs := [(r12.v 0), (r12.v 2), (r12.v 3), (r12.v 4), (r12.v 6)], h := r15.2.1, c := r15.2.2, df := r12.df }) : Option (Rt H)).bind fun r17 =>
     cond (exIs r17.e .normal)
      ((aBinOp P .lss 3 (r17.v 3) (r17.v 4)).bind fun t208 =>
      ((gv t208 true).bind fun w => cond w (ret1 r17.h (r17.c + 1) (some (r17.v 4))) (some (undef, r17.h, (r17.c + 1)))).bind fun r18 =>
      ((gv t208 true).bind fun w => cond w (ret1 r18.2.1 r18.2.2 (some (r17.v 1))) (some (undef, r18.2.1, r18.2.2))).bind fun r19 =>
      ((gv t208 true).bind fun w => cond w (ret1 r19.2.1 r19.2.2 (aBinOp P .lss 3 r18.1 r19.1)) (some (undef, r19.2.1, r19.2.2))).bind fun r20 =>
      (pickV t208 r20.1 (.bool false)).bind fun t213 =>
      (boolK t213
        ((callF o 83 [(r17.v 0), (r17.v 3), (r17.v 4), (r17.v 1), (r17.v 2)] r20.2.1 (r20.2.2 + 1)).bind fun r21 =>
        some { e := .normal, vs := [], h := r21.2.1, c := r21.2.2, df := r17.df })
        (some { e := .normal, vs := [], h := r20.2.1, c := r20.2.2, df := r17.df }) : Option (Rt H)).bind fun r22 =>
      cond (exIs r22.e .normal)
       ((takeAll r22.h r22.df).bind fun h23 =>
       some { e := .ret, vs := [.tuple #[]], h := h23, c := r22.c, df := [] })
       (none))
      (none))
     (none))
    (none))
   (none)))
theorem f83_S_eq (o : Orc H) (t0 t1 t2 t3 t4 : Value) (h : H) (c : Nat) : jx P o 220 none f83_c (tmOf (List.range 5) [t0, t1, t2, t3, t4]) h c [] (Kfn P Try.f83.results.toList) = f83_S o t0 t1 t2 t3 t4 h c := by kernel_rfl
theorem f83_go {t0 t1 t2 t3 t4 : Value} {h : FH} {c : Nat} {df : List Nat} {r : Rt FH} (e : f83_S G t0 t1 t2 t3 t4 h c = some r) : G (.fn 83) [t0, t1, t2, t3, t4] h c df = some (gcR h c [] r) := runG_fn (a := f83_f) bk_83 rfl (fun args h c => by cases args <;> rfl) rfl ((f83_S_eq G t0 t1 t2 t3 t4 h c).trans e)
theorem f83_N83000 {rd : Option Nat} {t0 t1 t4 t10 t11 : Value} {h : FH} {c : Nat} {df : List Nat} {q r : Rt FH} (e : f83_L83000 G rd t0 t1 t4 t10 t11 h c df = some q) (hq : q.e = .normal) (k : G (f83_k83000 rd) q.vs q.h q.c q.df = some r) : G (f83_k83000 rd) [t0, t1, t4, t10, t11] h c df = some r := runG_lp_next ((f83_L83000_eq G rd t0 t1 t4 t10 t11 h c df).trans e) hq k
theorem f83_Z83000 {rd : Option Nat} {t0 t1 t4 t10 t11 : Value} {h : FH} {c : Nat} {df : List Nat} {q : Rt FH} (e : f83_L83000 G rd t0 t1 t4 t10 t11 h c df = some q) (hq : q.e ≠ .normal) : G (f83_k83000 rd) [t0, t1, t4, t10, t11] h c df = some q := runG_lp_last ((f83_L83000_eq G rd t0 t1 t4 t10 t11 h c df).trans e) hq
theorem f83_N83001 {rd : Option Nat} {t0 t10 t13 : Value} {h : FH} {c : Nat} {df : List Nat} {q r : Rt FH} (e : f83_L83001 G rd t0 t10 t13 h c df = some q) (hq : q.e = .normal) (k : G (f83_k83001 rd) q.vs q.h q.c q.df = some r) : G (f83_k83001 rd) [t0, t10, t13] h c df = some r := runG_lp_next ((f83_L83001_eq G rd t0 t10 t13 h c df).trans e) hq k
theorem f83_Z83001 {rd : Option Nat} {t0 t10 t13 : Value} {h : FH} {c : Nat} {df : List Nat} {q : Rt FH} (e : f83_L83001 G rd t0 t10 t13 h c df = some q) (hq : q.e ≠ .normal) : G (f83_k83001 rd) [t0, t10, t13] h c df = some q := runG_lp_last ((f83_L83001_eq G rd t0 t10 t13 h c df).trans e) hq
theorem f83_N83002 {rd : Option Nat} {t0 t2 t4 t14 t15 : Value} {h : FH} {c : Nat} {df : List Nat} {q r : Rt FH} (e : f83_L83002 G rd t0 t2 t4 t14 t15 h c df = some q) (hq : q.e = .normal) (k : G (f83_k83002 rd) q.vs q.h q.c q.df = some r) : G (f83_k83002 rd) [t0, t2, t4, t14, t15] h c df = some r := runG_lp_next ((f83_L83002_eq G rd t0 t2 t4 t14 t15 h c df).trans e) hq k
theorem f83_Z83002 {rd : Option Nat} {t0 t2 t4 t14 t15 : Value} {h : FH} {c : Nat} {df : List Nat} {q : Rt FH} (e : f83_L83002 G rd t0 t2 t4 t14 t15 h c df = some q) (hq : q.e ≠ .normal) : G (f83_k83002 rd) [t0, t2, t4, t14, t15] h c df = some q := runG_lp_last ((f83_L83002_eq G rd t0 t2 t4 t14 t15 h c df).trans e) hq
theorem f83_N83003 {rd : Option Nat} {t0 t14 t17 : Value} {h : FH} {c : Nat} {df : List Nat} {q r : Rt FH} (e : f83_L83003 G rd t0 t14 t17 h c df = some q) (hq : q.e = .normal) (k : G (f83_k83003 rd) q.vs q.h q.c q.df = some r) : G (f83_k83003 rd) [t0, t14, t17] h c df = some r := runG_lp_next ((f83_L83003_eq G rd t0 t14 t17 h c df).trans e) hq k
theorem f83_Z83003 {rd : Option Nat} {t0 t14 t17 : Value} {h : FH} {c : Nat} {df : List Nat} {q : Rt FH} (e : f83_L83003 G rd t0 t14 t17 h c df = some q) (hq : q.e ≠ .normal) : G (f83_k83003 rd) [t0, t14, t17] h c df = some q := runG_lp_last ((f83_L83003_eq G rd t0 t14 t17 h c df).trans e) hq
theorem f83_N83004 {rd : Option Nat} {t0 t1 t2 t3 t4 t18 t19 t20 t21 t22 : Value} {h : FH} {c : Nat} {df : List Nat} {q r : Rt FH} (e : f83_L83004 G rd t0 t1 t2 t3 t4 t18 t19 t20 t21 t22 h c df = some q) (hq : q.e = .normal) (k : G (f83_k83004 rd) q.vs q.h q.c q.df = some r) : G (f83_k83004 rd) [t0, t1, t2, t3, t4, t18, t19, t20, t21, t22] h c df = some r := runG_lp_next ((f83_L83004_eq G rd t0 t1 t2 t3 t4 t18 t19 t20 t21 t22 h c df).trans e) hq k
theorem f83_Z83004 {rd : Option Nat} {t0 t1 t2 t3 t4 t18 t19 t20 t21 t22 : Value} {h : FH} {c : Nat} {df : List Nat} {q : Rt FH} (e : f83_L83004 G rd t0 t1 t2 t3 t4 t18 t19 t20 t21 t22 h c df = some q) (hq : q.e ≠ .normal) : G (f83_k83004 rd) [t0, t1, t2, t3, t4, t18, t19, t20, t21, t22] h c df = some q := runG_lp_last ((f83_L83004_eq G rd t0 t1 t2 t3 t4 t18 t19 t20 t21 t22 h c df).trans e) hq
noncomputable def f84_L84000 (o : Orc H) (rd : Option Nat) (t0 t2 t4 t10 t11 : Value) (h : H) (c : Nat) (df : List Nat) : Option (Rt H) :=
 (aBinOp P .neq 3 t10 t11).bind fun t20 =>
 boolK t20
 ((aBinOp P .gtr 3 t10 t11).bind fun t23 =>
 (boolK t23
   ((aBinOp P .sub 3 t2 t10).bind fun t27 =>
   (callF o 85 [t0, t27, t2, t11, t4] h (((c + 1) + 1) + 1)).bind fun r0 =>
   (aBinOp P .sub 3 t10 t11).bind fun t34 =>
   some { e := .normal, vs := [t0, t2, t4, t34, t11], h := r0.2.1, c := (r0.2.2 + 1), df := df })
   ((aBinOp P .sub 3 t2 t10).bind fun t38 =>
   (aBinOp P .add 3 t2 t11).bind fun t41 =>
   (aBinOp P .sub 3 t41 t10).bind fun t43 =>
   (callF o 85 [t0, t38, t43, t10, t4] h (((c + 1) + 1) + 1)).bind fun r2 =>
   (aBinOp P .sub 3 t11 t10).bind fun t49 =>
   some { e := .normal, vs := [t0, t2, t4, t10, t49], h := r2.2.1, c := (r2.2.2 + 1), df := df }) : Option (Rt H)).bind fun r4 =>
 cond (exIs r4.e .normal)
  (some { e := .normal, vs := [(r4.v 0), (r4.v 1), (r4.v 2), (r4.v 3), (r4.v 4)], h := r4.h, c := r4.c, df := r4.df })
  (none))
 (some { e := (.exit 0), vs := [t0, t2, t4, t10, t11], h := h, c := (c + 1), df := df })
theorem f84_L84000_eq (o : Orc H) (rd : Option Nat) (t0 t2 t4 t10 t11 : Value) (h : H) (c : Nat) (df : List Nat) : jx P o 58 rd f84_c84000 (tmOf [0, 2, 4, 10, 11] [t0, t2, t4, t10, t11]) h c df (Klp [0, 2, 4, 10, 11]) = f84_L84000 o rd t0 t2 t4 t10 t11 h c df := by kernel_rfl
noncomputable def f84_S (o : Orc H) (t0 t1 t2 t3 t4 : Value) (h : H) (c : Nat) : Option (Rt H) :=
 (aBinOp P .sub 3 t2 t1).bind fun t14 =>
 (aBinOp P .sub 3 t3 t2).bind fun t17 =>
 (o (f84_k84000 none) [t0, t2, t4, t14, t17] h ((c + 1) + 1) []).bind fun r0 =>
 cond (exIs r0.e (.exit 0))
 ((aBinOp P .sub 3 (r0.v 1) (r0.v 3)).bind fun t53 =>
 (callF o 85 [(r0.v 0), t53, (r0.v 1), (r0.v 3), (r0.v 2)] r0.h (r0.c + 1)).bind fun r1 =>
 (takeAll r1.2.1 r0.df).bind fun h2 =>
 some { e := .ret, vs := [.tuple #[]], h := h2, c := r1.2.2, df := [] })
 (none)
theorem f84_S_eq (o : Orc H) (t0 t1 t2 t3 t4 : Value) (h : H) (c : Nat) : jx P o 58 none f84_c (tmOf (List.range 5) [t0, t1, t2, t3, t4]) h c [] (Kfn P Try.f84.results.toList) = f84_S o t0 t1 t2 t3 t4 h c := by kernel_rfl
theorem f84_go {t0 t1 t2 t3 t4 : Value} {h : FH} {c : Nat} {df : List Nat} {r : Rt FH} (e : f84_S G t0 t1 t2 t3 t4 h c = some r) : G (.fn 84) [t0, t1, t2, t3, t4] h c df = some (gcR h c [] r) := runG_fn (a := f84_f) bk_84 rfl (fun args h c => by cases args <;> rfl) rfl ((f84_S_eq G t0 t1 t2 t3 t4 h c).trans e)
theorem f84_N84000 {rd : Option Nat} {t0 t2 t4 t10 t11 : Value} {h : FH} {c : Nat} {df : List Nat} {q r : Rt FH} (e : f84_L84000 G rd t0 t2 t4 t10 t11 h c df = some q) (hq : q.e = .normal) (k : G (f84_k84000 rd) q.vs q.h q.c q.df = some r) : G (f84_k84000 rd) [t0, t2, t4, t10, t11] h c df = some r := runG_lp_next ((f84_L84000_eq G rd t0 t2 t4 t10 t11 h c df).trans e) hq k
theorem f84_Z84000 {rd : Option Nat} {t0 t2 t4 t10 t11 : Value} {h : FH} {c : Nat} {df : List Nat} {q : Rt FH} (e : f84_L84000 G rd t0 t2 t4 t10 t11 h c df = some q) (hq : q.e ≠ .normal) : G (f84_k84000 rd) [t0, t2, t4, t10, t11] h c df = some q := runG_lp_last ((f84_L84000_eq G rd t0 t2 t4 t10 t11 h c df).trans e) hq
noncomputable def f85_L85000 (o : Orc H) (rd : Option Nat) (t0 t1 t2 t3 t10 : Value) (h : H) (c : Nat) (df : List Nat) : Option (Rt H) :=
 (aBinOp P .lss 3 t10 t3).bind fun t13 =>
 boolK t13
 ((aBinOp P .add 3 t1 t10).bind fun t19 =>
 (aBinOp P .add 3 t2 t10).bind fun t23 =>
 (aBinOp P .add 3 t2 t10).bind fun t27 =>
 (ixS 1 t0 t27).bind fun t28 =>
 (ld1 h t28).bind fun t29 =>
 (aBinOp P .add 3 t1 t10).bind fun t33 =>
 (ixS 1 t0 t33).bind fun t34 =>
 (ld1 h t34).bind fun t35 =>
 (ixS 1 t0 t19).bind fun t36 =>
 (stN h 1 t36 t29).bind fun h1 =>
 (ixS 1 t0 t23).bind fun t37 =>
 (stN h1 1 t37 t35).bind fun h3 =>
 (aBinOp P .add 3 t10 (.int .i64 1)).bind fun t15 =>
 some { e := .normal, vs := [t0, t1, t2, t3, t15], h := h3, c := (((c + 1) + 1) + 1), df := df })
 (some { e := (.exit 0), vs := [t0, t1, t2, t3, t10], h := h, c := (c + 1), df := df })
theorem f85_L85000_eq (o : Orc H) (rd : Option Nat) (t0 t1 t2 t3 t10 : Value) (h : H) (c : Nat) (df : List Nat) : jx P o 38 rd f85_c85000 (tmOf [0, 1, 2, 3, 10] [t0, t1, t2, t3, t10]) h c df (Klp [0, 1, 2, 3, 10]) = f85_L85000 o rd t0 t1 t2 t3 t10 h c df := by kernel_rfl
noncomputable def f85_S (o : Orc H) (t0 t1 t2 t3 t4 : Value) (h : H) (c : Nat) : Option (Rt H) :=
 (o (f85_k85000 none) [t0, t1, t2, t3, (.int .i64 0)] h (c + 1) []).bind fun r0 =>
 cond (exIs r0.e (.exit 0))
 ((takeAll r0.h r0.df).bind fun h1 =>
 some { e := .ret, vs := [.tuple #[]], h := h1, c := r0.c, df := [] })
 (none)
theorem f85_S_eq (o : Orc H) (t0 t1 t2 t3 t4 : Value) (h : H) (c : Nat) : jx P o 38 none f85_c (tmOf (List.range 5) [t0, t1, t2, t3, t4]) h c [] (Kfn P Try.f85.results.toList) = f85_S o t0 t1 t2 t3 t4 h c := by kernel_rfl
theorem f85_go {t0 t1 t2 t3 t4 : Value} {h : FH} {c : Nat} {df : List Nat} {r : Rt FH} (e : f85_S G t0 t1 t2 t3 t4 h c = some r) : G (.fn 85) [t0, t1, t2, t3, t4] h c df = some (gcR h c [] r) := runG_fn (a := f85_f) bk_85 rfl (fun args h c => by cases args <;> rfl) rfl ((f85_S_eq G t0 t1 t2 t3 t4 h c).trans e)
theorem f85_N85000 {rd : Option Nat} {t0 t1 t2 t3 t10 : Value} {h : FH} {c : Nat} {df : List Nat} {q r : Rt FH} (e : f85_L85000 G rd t0 t1 t2 t3 t10 h c df = some q) (hq : q.e = .normal) (k : G (f85_k85000 rd) q.vs q.h q.c q.df = some r) : G (f85_k85000 rd) [t0, t1, t2, t3, t10] h c df = some r := runG_lp_next ((f85_L85000_eq G rd t0 t1 t2 t3 t10 h c df).trans e) hq k
theorem f85_Z85000 {rd : Option Nat} {t0 t1 t2 t3 t10 : Value} {h : FH} {c : Nat} {df : List Nat} {q : Rt FH} (e : f85_L85000 G rd t0 t1 t2 t3 t10 h c df = some q) (hq : q.e ≠ .normal) : G (f85_k85000 rd) [t0, t1, t2, t3, t10] h c df = some q := runG_lp_last ((f85_L85000_eq G rd t0 t1 t2 t3 t10 h c df).trans e) hq
end Go.Proofs.Ytemkjcpfgmbibaa
