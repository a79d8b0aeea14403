/- The shallow texts of the functions, with their equations. Printed by a program. -/
import Derived.Test.YtdbiilapiloaiaaK
set_option linter.all false
namespace Go.Proofs.Ytdbiilapiloaiaa
open Go Go.Ab Go.Proofs
set_option maxRecDepth 100000
set_option linter.unusedVariables false
variable {H : Type} [HeapC H]
noncomputable def f102_L102000 (o : Orc H) (rd : Option Nat) (t1 t4 t17 t18 : Value) (h : H) (c : Nat) (df : List Nat) : Option (Rt H) :=
 (aBinOp P .lss 3 t18 t17).bind fun t19 =>
 boolK t19
 ((ixS 1 t4 t18).bind fun t23 =>
 (stN h 1 t23 (.int .i64 (-1))).bind fun h1 =>
 (aBinOp P .add 3 t18 (.int .i64 1)).bind fun t24 =>
 some { e := .normal, vs := [t1, t4, t17, t24], h := h1, c := ((((c + 1) + 1) + 1) + 1), df := df })
 (some { e := (.exit 0), vs := [t1, t4, t17, t18], h := h, c := (c + 1), df := df })
theorem f102_L102000_eq (o : Orc H) (rd : Option Nat) (t1 t4 t17 t18 : Value) (h : H) (c : Nat) (df : List Nat) : jx P o 85 rd f102_c102000 (tmOf [1, 4, 17, 18] [t1, t4, t17, t18]) h c df (Klp [1, 4, 17, 18]) = f102_L102000 o rd t1 t4 t17 t18 h c df := by kernel_rfl
noncomputable def f102_L102003 (o : Orc H) (rd : Option Nat) (t1 t4 t6 t8 t9 t26 t27 t54 t55 : Value) (h : H) (c : Nat) (df : List Nat) : Option (Rt H) :=
 (aBinOp P .lss 3 t55 (.int .i64 4)).bind fun t56 =>
 boolK t56
 ((ixV 4 true 5 t54 t55).bind fun t57 =>
 (stN (newB h (256 * (c + 1) + 1) [(.int .i64 0), (.int .i64 0), (.int .i64 0), (.int .i64 0), (.int .i64 0)]) 5 (ptrTo (256 * (c + 1) + 1)) t57).bind fun h1 =>
 (addOff (ptrTo (256 * (c + 1) + 1)) 0).bind fun t58 =>
 (ld1 h1 t58).bind fun t59 =>
 (aBinOp P .geq 3 t59 (.int .i64 0)).bind fun t60 =>
 ((gv t60 true).bind fun w => cond w (ret1 h1 (((c + 1) + 1) + 1) (some t4)) (some (undef, h1, (((c + 1) + 1) + 1)))).bind fun r2 =>
 ((gv t60 true).bind fun w => cond w (ret1 r2.2.1 r2.2.2 (addOff (ptrTo (256 * (c + 1) + 1)) 0)) (some (undef, r2.2.1, r2.2.2))).bind fun r3 =>
 ((gv t60 true).bind fun w => cond w (ret1 r3.2.1 r3.2.2 (ld1 r3.2.1 r3.1)) (some (undef, r3.2.1, r3.2.2))).bind fun r4 =>
 ((gv t60 true).bind fun w => cond w (ret1 r4.2.1 r4.2.2 (ixS 1 r2.1 r4.1)) (some (undef, r4.2.1, r4.2.2))).bind fun r5 =>
 ((gv t60 true).bind fun w => cond w (ret1 r5.2.1 r5.2.2 (ld1 r5.2.1 r5.1)) (some (undef, r5.2.1, r5.2.2))).bind fun r6 =>
 ((gv t60 true).bind fun w => cond w (ret1 r6.2.1 r6.2.2 (aBinOp P .lss 3 r6.1 (.int .i64 0))) (some (undef, r6.2.1, r6.2.2))).bind fun r7 =>
 (pickV t60 r7.1 (.bool false)).bind fun t68 =>
 (boolK t68
   ((addOff (ptrTo (256 * (c + 1) + 1)) 0).bind fun t70 =>
   (ld1 r7.2.1 t70).bind fun t71 =>
   (ixS 1 t4 t71).bind fun t73 =>
   (stN r7.2.1 1 t73 t6).bind fun h9 =>
   (addOff (ptrTo (256 * (c + 1) + 1)) 0).bind fun t75 =>
   (ld1 h9 t75).bind fun t76 =>
   (bldL [(.int .i64 0)] [(0, 1, t76)]).bind fun r10 =>
   (appV (newB h9 (256 * (r7.2.2 + 1) + 3) r10) (256 * (r7.2.2 + 1) + 4) 1 8 t8 (.slice (some ⟨(256 * (r7.2.2 + 1) + 3), 0, none⟩) 1 1)).bind fun r11 =>
   some { e := .normal, vs := [t1, t4, t6, r11.1, t9, t26, t27, t54, t55], h := r11.2, c := ((r7.2.2 + 1) + 1), df := df })
   (some { e := .normal, vs := [t1, t4, t6, t8, t9, t26, t27, t54, t55], h := r7.2.1, c := r7.2.2, df := df }) : Option (Rt H)).bind fun r13 =>
 cond (exIs r13.e .normal)
  ((aBinOp P .add 3 (r13.v 8) (.int .i64 1)).bind fun t79 =>
  some { e := .normal, vs := [(r13.v 0), (r13.v 1), (r13.v 2), (r13.v 3), (r13.v 4), (r13.v 5), (r13.v 6), (r13.v 7), t79], h := r13.h, c := (r13.c + 1), df := r13.df })
  (none))
 (some { e := (.exit 6), vs := [t1, t4, t6, t8, t9, t26, t27, t54, t55], h := h, c := (c + 1), df := df })
theorem f102_L102003_eq (o : Orc H) (rd : Option Nat) (t1 t4 t6 t8 t9 t26 t27 t54 t55 : Value) (h : H) (c : Nat) (df : List Nat) : jx P o 85 rd f102_c102003 (tmOf [1, 4, 6, 8, 9, 26, 27, 54, 55] [t1, t4, t6, t8, t9, t26, t27, t54, t55]) h c df (Klp [1, 4, 6, 8, 9, 26, 27, 54, 55]) = f102_L102003 o rd t1 t4 t6 t8 t9 t26 t27 t54 t55 h c df := by kernel_rfl
noncomputable def f102_L102002 (o : Orc H) (rd : Option Nat) (t1 t4 t6 t8 t9 t26 t27 : Value) (h : H) (c : Nat) (df : List Nat) : Option (Rt H) :=
 (lenS t8).bind fun t43 =>
 (aBinOp P .lss 3 t9 t43).bind fun t44 =>
 boolK t44
 ((addOff t1 0).bind fun t47 =>
 (ld1 h t47).bind fun t48 =>
 (ixS 1 t8 t9).bind fun t51 =>
 (ld1 h t51).bind fun t52 =>
 (ixS 20 t48 t52).bind fun t53 =>
 (ldN h 20 t53).bind fun t54 =>
 (o (f102_k102003 rd) [t1, t4, t6, t8, t9, t26, t27, t54, (.int .i64 0)] h ((c + 1) + 1) df).bind fun r0 =>
 cond (exIs r0.e (.exit 6))
  ((aBinOp P .add 3 (r0.v 4) (.int .i64 1)).bind fun t46 =>
  some { e := .normal, vs := [(r0.v 0), (r0.v 1), (r0.v 2), (r0.v 3), t46, (r0.v 5), (r0.v 6)], h := r0.h, c := (r0.c + 1), df := r0.df })
  (none))
 (some { e := (.exit 4), vs := [t1, t4, t6, t8, t9, t26, t27], h := h, c := (c + 1), df := df })
theorem f102_L102002_eq (o : Orc H) (rd : Option Nat) (t1 t4 t6 t8 t9 t26 t27 : Value) (h : H) (c : Nat) (df : List Nat) : jx P o 85 rd f102_c102002 (tmOf [1, 4, 6, 8, 9, 26, 27] [t1, t4, t6, t8, t9, t26, t27]) h c df (Klp [1, 4, 6, 8, 9, 26, 27]) = f102_L102002 o rd t1 t4 t6 t8 t9 t26 t27 h c df := by kernel_rfl
noncomputable def f102_L102001 (o : Orc H) (rd : Option Nat) (t1 t4 t6 t26 t27 : Value) (h : H) (c : Nat) (df : List Nat) : Option (Rt H) :=
 (aBinOp P .lss 3 t27 t26).bind fun t28 =>
 boolK t28
 (((ixS 1 t4 t27).bind fun t32 =>
  (ld1 h t32).bind fun t33 =>
  (aBinOp P .geq 3 t33 (.int .i64 0)).bind fun t34 =>
  boolK t34
   (some { e := .normal, vs := [t1, t4, t6, t26, t27], h := h, c := (((c + 1) + 1) + 1), df := df })
   ((ixS 1 t4 t27).bind fun t38 =>
   (stN h 1 t38 t6).bind fun h1 =>
   (bldL [(.int .i64 0)] [(0, 1, t27)]).bind fun r2 =>
   (o (f102_k102002 rd) [t1, t4, t6, (.slice (some ⟨(256 * ((((c + 1) + 1) + 1) + 1) + 1), 0, none⟩) 1 1), (.int .i64 0), t26, t27] (newB h1 (256 * ((((c + 1) + 1) + 1) + 1) + 1) r2) ((((((c + 1) + 1) + 1) + 1) + 1) + 1) df).bind fun r3 =>
   cond (exIs r3.e (.exit 4))
    ((aBinOp P .add 3 (r3.v 2) (.int .i64 1)).bind fun t81 =>
    some { e := .normal, vs := [(r3.v 0), (r3.v 1), t81, (r3.v 5), (r3.v 6)], h := r3.h, c := (r3.c + 1), df := r3.df })
    (none)) : Option (Rt H)).bind fun r5 =>
 cond (exIs r5.e .normal)
  ((aBinOp P .add 3 (r5.v 4) (.int .i64 1)).bind fun t82 =>
  some { e := .normal, vs := [(r5.v 0), (r5.v 1), (r5.v 2), (r5.v 3), t82], h := r5.h, c := (r5.c + 1), df := r5.df })
  (none))
 (some { e := (.exit 2), vs := [t1, t4, t6, t26, t27], h := h, c := (c + 1), df := df })
theorem f102_L102001_eq (o : Orc H) (rd : Option Nat) (t1 t4 t6 t26 t27 : Value) (h : H) (c : Nat) (df : List Nat) : jx P o 85 rd f102_c102001 (tmOf [1, 4, 6, 26, 27] [t1, t4, t6, t26, t27]) h c df (Klp [1, 4, 6, 26, 27]) = f102_L102001 o rd t1 t4 t6 t26 t27 h c df := by kernel_rfl
/-- sphenoid/glue.parts -/
noncomputable def f102_S (o : Orc H) (t0 : Value) (h : H) (c : Nat) : Option (Rt H) :=
 (bif (t0 : Value).cells.toList.all isFlat then
 (addOff (ptrTo (256 * c + 0)) 0).bind fun t12 =>
 (ld1 (newB h (256 * c + 0) (t0 : Value).cells.toList) t12).bind fun t13 =>
 (lenS t13).bind fun t14 =>
 (mkS 1 8 [(.int .i64 0)] t14 t14).bind fun r0 =>
 (lenS (.slice (some ⟨(256 * (c + 1) + 3), 0, none⟩) r0.2.1 r0.2.2)).bind fun t17 =>
 (o (f102_k102000 none) [(ptrTo (256 * c + 0)), (.slice (some ⟨(256 * (c + 1) + 3), 0, none⟩) r0.2.1 r0.2.2), t17, (.int .i64 0)] (newB (newB h (256 * c + 0) (t0 : Value).cells.toList) (256 * (c + 1) + 3) r0.1) (((c + 1) + 1) + 1) []).bind fun r1 =>
 cond (exIs r1.e (.exit 0))
 ((lenS (r1.v 1)).bind fun t26 =>
 (o (f102_k102001 none) [(r1.v 0), (r1.v 1), (.int .i64 0), t26, (.int .i64 0)] r1.h ((r1.c + 1) + 1) r1.df).bind fun r2 =>
 cond (exIs r2.e (.exit 2))
  ((takeAll r2.h r2.df).bind fun h3 =>
  some { e := .ret, vs := [.tuple #[(r2.v 1), (r2.v 2)]], h := h3, c := (r2.c + 1), df := [] })
  (none))
 (none)
 else none)
theorem f102_S_eq (o : Orc H) (t0 : Value) (h : H) (c : Nat) : jx P o 85 none f102_c (tmOf (List.range 1) [t0]) h c [] (Kfn P Try.f102.results.toList) = f102_S o t0 h c := by kernel_rfl
theorem f102_go {t0 : Value} {h : FH} {c : Nat} {df : List Nat} {r : Rt FH} (e : f102_S G t0 h c = some r) : G (.fn 102) [t0] h c df = some (gcR h c [] r) := runG_fn (a := f102_f) bk_102 rfl (fun args h c => by cases args <;> rfl) rfl ((f102_S_eq G t0 h c).trans e)
theorem f102_N102000 {rd : Option Nat} {t1 t4 t17 t18 : Value} {h : FH} {c : Nat} {df : List Nat} {q r : Rt FH} (e : f102_L102000 G rd t1 t4 t17 t18 h c df = some q) (hq : q.e = .normal) (k : G (f102_k102000 rd) q.vs q.h q.c q.df = some r) : G (f102_k102000 rd) [t1, t4, t17, t18] h c df = some r := runG_lp_next ((f102_L102000_eq G rd t1 t4 t17 t18 h c df).trans e) hq k
theorem f102_Z102000 {rd : Option Nat} {t1 t4 t17 t18 : Value} {h : FH} {c : Nat} {df : List Nat} {q : Rt FH} (e : f102_L102000 G rd t1 t4 t17 t18 h c df = some q) (hq : q.e ≠ .normal) : G (f102_k102000 rd) [t1, t4, t17, t18] h c df = some q := runG_lp_last ((f102_L102000_eq G rd t1 t4 t17 t18 h c df).trans e) hq
theorem f102_N102003 {rd : Option Nat} {t1 t4 t6 t8 t9 t26 t27 t54 t55 : Value} {h : FH} {c : Nat} {df : List Nat} {q r : Rt FH} (e : f102_L102003 G rd t1 t4 t6 t8 t9 t26 t27 t54 t55 h c df = some q) (hq : q.e = .normal) (k : G (f102_k102003 rd) q.vs q.h q.c q.df = some r) : G (f102_k102003 rd) [t1, t4, t6, t8, t9, t26, t27, t54, t55] h c df = some r := runG_lp_next ((f102_L102003_eq G rd t1 t4 t6 t8 t9 t26 t27 t54 t55 h c df).trans e) hq k
theorem f102_Z102003 {rd : Option Nat} {t1 t4 t6 t8 t9 t26 t27 t54 t55 : Value} {h : FH} {c : Nat} {df : List Nat} {q : Rt FH} (e : f102_L102003 G rd t1 t4 t6 t8 t9 t26 t27 t54 t55 h c df = some q) (hq : q.e ≠ .normal) : G (f102_k102003 rd) [t1, t4, t6, t8, t9, t26, t27, t54, t55] h c df = some q := runG_lp_last ((f102_L102003_eq G rd t1 t4 t6 t8 t9 t26 t27 t54 t55 h c df).trans e) hq
theorem f102_N102002 {rd : Option Nat} {t1 t4 t6 t8 t9 t26 t27 : Value} {h : FH} {c : Nat} {df : List Nat} {q r : Rt FH} (e : f102_L102002 G rd t1 t4 t6 t8 t9 t26 t27 h c df = some q) (hq : q.e = .normal) (k : G (f102_k102002 rd) q.vs q.h q.c q.df = some r) : G (f102_k102002 rd) [t1, t4, t6, t8, t9, t26, t27] h c df = some r := runG_lp_next ((f102_L102002_eq G rd t1 t4 t6 t8 t9 t26 t27 h c df).trans e) hq k
theorem f102_Z102002 {rd : Option Nat} {t1 t4 t6 t8 t9 t26 t27 : Value} {h : FH} {c : Nat} {df : List Nat} {q : Rt FH} (e : f102_L102002 G rd t1 t4 t6 t8 t9 t26 t27 h c df = some q) (hq : q.e ≠ .normal) : G (f102_k102002 rd) [t1, t4, t6, t8, t9, t26, t27] h c df = some q := runG_lp_last ((f102_L102002_eq G rd t1 t4 t6 t8 t9 t26 t27 h c df).trans e) hq
theorem f102_N102001 {rd : Option Nat} {t1 t4 t6 t26 t27 : Value} {h : FH} {c : Nat} {df : List Nat} {q r : Rt FH} (e : f102_L102001 G rd t1 t4 t6 t26 t27 h c df = some q) (hq : q.e = .normal) (k : G (f102_k102001 rd) q.vs q.h q.c q.df = some r) : G (f102_k102001 rd) [t1, t4, t6, t26, t27] h c df = some r := runG_lp_next ((f102_L102001_eq G rd t1 t4 t6 t26 t27 h c df).trans e) hq k
theorem f102_Z102001 {rd : Option Nat} {t1 t4 t6 t26 t27 : Value} {h : FH} {c : Nat} {df : List Nat} {q : Rt FH} (e : f102_L102001 G rd t1 t4 t6 t26 t27 h c df = some q) (hq : q.e ≠ .normal) : G (f102_k102001 rd) [t1, t4, t6, t26, t27] h c df = some q := runG_lp_last ((f102_L102001_eq G rd t1 t4 t6 t26 t27 h c df).trans e) hq
noncomputable def f103_L103000 (o : Orc H) (rd : Option Nat) (t0 t4 : Value) (h : H) (c : Nat) (df : List Nat) : Option (Rt H) :=
 (aBinOp P .lss 3 t4 (.int .i64 256)).bind fun t5 =>
 boolK t5
 ((aBinOp P .shr 3 t4 (.int .u64 6)).bind fun t8 =>
 (aBinOp P .shr 3 t4 (.int .u64 4)).bind fun t10 =>
 (aBinOp P .and 3 t10 (.int .i64 3)).bind fun t11 =>
 (aBinOp P .shr 3 t4 (.int .u64 2)).bind fun t13 =>
 (aBinOp P .and 3 t13 (.int .i64 3)).bind fun t14 =>
 (aBinOp P .and 3 t4 (.int .i64 3)).bind fun t16 =>
 (bldV [(.int .i64 0), (.int .i64 0), (.int .i64 0), (.int .i64 0)] [(0, 1, t8), (1, 1, t11), (2, 1, t14), (3, 1, t16)]).bind fun t17 =>
 (stN (newB h (256 * ((c + 1) + 1) + 11) [(.int .i64 0), (.int .i64 0), (.int .i64 0), (.int .i64 0)]) 4 (ptrTo (256 * ((c + 1) + 1) + 11)) t17).bind fun h1 =>
 (ldN h1 4 (ptrTo (256 * ((c + 1) + 1) + 11))).bind fun t18 =>
 (callF o 72 [t18] h1 ((((c + 1) + 1) + 1) + 1)).bind fun r2 =>
 ((gv r2.1 true).bind fun w => cond w (ret1 r2.2.1 r2.2.2 (some t0)) (some (undef, r2.2.1, r2.2.2))).bind fun r3 =>
 ((gv r2.1 true).bind fun w => cond w (ret1 r3.2.1 r3.2.2 (ldN r3.2.1 4 (ptrTo (256 * ((c + 1) + 1) + 11)))) (some (undef, r3.2.1, r3.2.2))).bind fun r4 =>
 ((gv r2.1 true).bind fun w => cond w (callV o r4.2.1 r4.2.2 r3.1 [r4.1]) (some (undef, r4.2.1, r4.2.2))).bind fun r5 =>
 ((gv r2.1 true).bind fun w => cond w (ret1 r5.2.1 r5.2.2 (aUnOp .not r5.1)) (some (undef, r5.2.1, r5.2.2))).bind fun r6 =>
 (pickV r2.1 r6.1 (.bool false)).bind fun t25 =>
 boolK t25
  (some { e := .ret, vs := [t0, t4], h := r6.2.1, c := r6.2.2, df := df })
  ((aBinOp P .add 3 t4 (.int .i64 1)).bind fun t26 =>
  some { e := .normal, vs := [t0, t26], h := r6.2.1, c := (r6.2.2 + 1), df := df }))
 (some { e := (.exit 0), vs := [t0, t4], h := h, c := (c + 1), df := df })
theorem f103_L103000_eq (o : Orc H) (rd : Option Nat) (t0 t4 : Value) (h : H) (c : Nat) (df : List Nat) : jx P o 27 rd f103_c103000 (tmOf [0, 4] [t0, t4]) h c df (Klp [0, 4]) = f103_L103000 o rd t0 t4 h c df := by kernel_rfl
/-- sphenoid/iso.perms$1 -/
noncomputable def f103_S (o : Orc H) (t0 : Value) (h : H) (c : Nat) : Option (Rt H) :=
 (o (f103_k103000 none) [t0, (.int .i64 0)] h (c + 1) []).bind fun r0 =>
 cond (exIs r0.e (.exit 0))
 ((takeAll r0.h r0.df).bind fun h2 =>
 some { e := .ret, vs := [.tuple #[]], h := h2, c := r0.c, df := [] })
 (cond (exIs r0.e .ret)
  ((takeAll r0.h r0.df).bind fun h1 =>
  some { e := .ret, vs := [.tuple #[]], h := h1, c := r0.c, df := [] })
  (none))
theorem f103_S_eq (o : Orc H) (t0 : Value) (h : H) (c : Nat) : jx P o 27 none f103_c (tmOf (List.range 1) [t0]) h c [] (Kfn P Try.f103.results.toList) = f103_S o t0 h c := by kernel_rfl
theorem f103_go {t0 : Value} {h : FH} {c : Nat} {df : List Nat} {r : Rt FH} (e : f103_S G t0 h c = some r) : G (.fn 103) [t0] h c df = some (gcR h c [] r) := runG_fn (a := f103_f) bk_103 rfl (fun args h c => by cases args <;> rfl) rfl ((f103_S_eq G t0 h c).trans e)
theorem f103_N103000 {rd : Option Nat} {t0 t4 : Value} {h : FH} {c : Nat} {df : List Nat} {q r : Rt FH} (e : f103_L103000 G rd t0 t4 h c df = some q) (hq : q.e = .normal) (k : G (f103_k103000 rd) q.vs q.h q.c q.df = some r) : G (f103_k103000 rd) [t0, t4] h c df = some r := runG_lp_next ((f103_L103000_eq G rd t0 t4 h c df).trans e) hq k
theorem f103_Z103000 {rd : Option Nat} {t0 t4 : Value} {h : FH} {c : Nat} {df : List Nat} {q : Rt FH} (e : f103_L103000 G rd t0 t4 h c df = some q) (hq : q.e ≠ .normal) : G (f103_k103000 rd) [t0, t4] h c df = some q := runG_lp_last ((f103_L103000_eq G rd t0 t4 h c df).trans e) hq
/-- (*sphenoid/iso.numbering).add -/
noncomputable def f104_S (o : Orc H) (t0 t1 t2 : Value) (h : H) (c : Nat) : Option (Rt H) :=
 (bif (t2 : Value).cells.toList.all isFlat then
 (aNilCheck t0).bind fun t7 =>
 (addOff t7 3).bind fun t8 =>
 (ld1 (newB h (256 * c + 0) (t2 : Value).cells.toList) t8).bind fun t9 =>
 (aNilCheck t0).bind fun t12 =>
 (addOff t12 1).bind fun t13 =>
 (addOff t13 0).bind fun t14 =>
 (ld1 (newB h (256 * c + 0) (t2 : Value).cells.toList) t14).bind fun t15 =>
 (lenS t15).bind fun t16 =>
 (aMapUpdate P (newB h (256 * c + 0) (t2 : Value).cells.toList) 156 t9 t1 t16).bind fun h1 =>
 (aNilCheck t0).bind fun t19 =>
 (addOff t19 1).bind fun t20 =>
 (addOff t20 0).bind fun t21 =>
 (ld1 h1 t21).bind fun t22 =>
 (bldL [(.int .i64 0)] [(0, 1, t1)]).bind fun r2 =>
 (appV (newB h1 (256 * ((c + 1) + 1) + 7) r2) (256 * ((c + 1) + 1) + 8) 1 8 t22 (.slice (some ⟨(256 * ((c + 1) + 1) + 7), 0, none⟩) 1 1)).bind fun r3 =>
 (aNilCheck t0).bind fun t26 =>
 (addOff t26 1).bind fun t27 =>
 (addOff t27 0).bind fun t28 =>
 (stN r3.2 1 t28 r3.1).bind fun h5 =>
 (aNilCheck t0).bind fun t31 =>
 (addOff t31 1).bind fun t32 =>
 (addOff t32 1).bind fun t33 =>
 (ld1 h5 t33).bind fun t34 =>
 (ldN h5 4 (ptrTo (256 * c + 0))).bind fun t35 =>
 (bldL [(.int .i64 0), (.int .i64 0), (.int .i64 0), (.int .i64 0)] [(0, 4, t35)]).bind fun r6 =>
 (appV (newB h5 (256 * (((c + 1) + 1) + 1) + 7) r6) (256 * (((c + 1) + 1) + 1) + 8) 4 32 t34 (.slice (some ⟨(256 * (((c + 1) + 1) + 1) + 7), 0, none⟩) 1 1)).bind fun r7 =>
 (aNilCheck t0).bind fun t38 =>
 (addOff t38 1).bind fun t39 =>
 (addOff t39 1).bind fun t40 =>
 (stN r7.2 1 t40 r7.1).bind fun h9 =>
 some { e := .ret, vs := [.tuple #[]], h := h9, c := ((((c + 1) + 1) + 1) + 1), df := [] }
 else none)
theorem f104_S_eq (o : Orc H) (t0 t1 t2 : Value) (h : H) (c : Nat) : jx P o 41 none f104_c (tmOf (List.range 3) [t0, t1, t2]) h c [] (Kfn P Try.f104.results.toList) = f104_S o t0 t1 t2 h c := by kernel_rfl
theorem f104_go {t0 t1 t2 : Value} {h : FH} {c : Nat} {df : List Nat} {r : Rt FH} (e : f104_S G t0 t1 t2 h c = some r) : G (.fn 104) [t0, t1, t2] h c df = some (gcR h c [] r) := runG_fn (a := f104_f) bk_104 rfl (fun args h c => by cases args <;> rfl) rfl ((f104_S_eq G t0 t1 t2 h c).trans e)
noncomputable def f105_L105000 (o : Orc H) (rd : Option Nat) (t0 t1 t4 t5 t12 : Value) (h : H) (c : Nat) (df : List Nat) : Option (Rt H) :=
 (aBinOp P .lss 3 t12 (.int .i64 4)).bind fun t13 =>
 boolK t13
 (((aNilCheck t0).bind fun t16 =>
  (addOff t16 0).bind fun t17 =>
  (addOff t17 0).bind fun t18 =>
  (ld1 h t18).bind fun t19 =>
  (aNilCheck t0).bind fun t21 =>
  (addOff t21 1).bind fun t22 =>
  (addOff t22 0).bind fun t23 =>
  (ld1 h t23).bind fun t24 =>
  (ixS 1 t24 t1).bind fun t26 =>
  (ld1 h t26).bind fun t27 =>
  (aNilCheck t0).bind fun t29 =>
  (addOff t29 1).bind fun t30 =>
  (addOff t30 1).bind fun t31 =>
  (ld1 h t31).bind fun t32 =>
  (ixS 4 t32 t1).bind fun t35 =>
  (ixA 4 1 t35 t12).bind fun t36 =>
  (ld1 h t36).bind fun t37 =>
  (ixS 20 t19 t27).bind fun t38 =>
  (ixA 4 5 t38 t37).bind fun t39 =>
  (ldN h 5 t39).bind fun t40 =>
  (stN (newB h (256 * ((c + 1) + 1) + 26) [(.int .i64 0), (.int .i64 0), (.int .i64 0), (.int .i64 0), (.int .i64 0)]) 5 (ptrTo (256 * ((c + 1) + 1) + 26)) t40).bind fun h1 =>
  (addOff (ptrTo (256 * ((c + 1) + 1) + 26)) 0).bind fun t41 =>
  (ld1 h1 t41).bind fun t42 =>
  (aBinOp P .lss 3 t42 (.int .i64 0)).bind fun t43 =>
  boolK t43
   ((bldV [(.int .i64 0), (.int .i64 0), (.int .i64 0), (.int .i64 0), (.int .i64 0)] [(0, 1, (.int .i64 (-1)))]).bind fun t45 =>
   (ixA 4 5 t5 t12).bind fun t46 =>
   (stN h1 5 t46 t45).bind fun h3 =>
   some { e := .normal, vs := [t0, t1, t4, t5, t12], h := h3, c := (((((c + 1) + 1) + 1) + 1) + 1), df := df })
   ((addOff (ptrTo (256 * ((c + 1) + 1) + 26)) 1).bind fun t47 =>
   (ldN h1 4 t47).bind fun t48 =>
   (aNilCheck t0).bind fun t50 =>
   (addOff t50 1).bind fun t51 =>
   (addOff t51 1).bind fun t52 =>
   (ld1 h1 t52).bind fun t53 =>
   (ixS 4 t53 t1).bind fun t55 =>
   (ldN h1 4 t55).bind fun t56 =>
   (callF o 107 [t48, t56] h1 (((((c + 1) + 1) + 1) + 1) + 1)).bind fun r4 =>
   (stN (newB r4.2.1 (256 * ((((c + 1) + 1) + 1) + 1) + 11) [(.int .i64 0), (.int .i64 0), (.int .i64 0), (.int .i64 0)]) 4 (ptrTo (256 * ((((c + 1) + 1) + 1) + 1) + 11)) r4.1).bind fun h6 =>
   (aNilCheck t0).bind fun t60 =>
   (addOff t60 3).bind fun t61 =>
   (ld1 h6 t61).bind fun t62 =>
   (addOff (ptrTo (256 * ((c + 1) + 1) + 26)) 0).bind fun t63 =>
   (ld1 h6 t63).bind fun t64 =>
   (aLookup P h6 156 t62 t64 true).bind fun t65 =>
   (extV t65 0).bind fun t66 =>
   (extV t65 1).bind fun t67 =>
   (aUnOp .not t67).bind fun t69 =>
   (boolK t69
     ((addOff (ptrTo (256 * ((c + 1) + 1) + 26)) 0).bind fun t71 =>
     (ld1 h6 t71).bind fun t72 =>
     (ldN h6 4 (ptrTo (256 * ((((c + 1) + 1) + 1) + 1) + 11))).bind fun t73 =>
     (callF o 104 [t0, t72, t73] h6 (((r4.2.2 + 1) + 1) + 1)).bind fun r7 =>
     some { e := .normal, vs := [t0, t1, t4, t5, t12, (ptrTo (256 * ((c + 1) + 1) + 26)), (ptrTo (256 * ((((c + 1) + 1) + 1) + 1) + 11)), t12], h := r7.2.1, c := r7.2.2, df := df })
     (some { e := .normal, vs := [t0, t1, t4, t5, t12, (ptrTo (256 * ((c + 1) + 1) + 26)), (ptrTo (256 * ((((c + 1) + 1) + 1) + 1) + 11)), t12], h := h6, c := ((r4.2.2 + 1) + 1), df := df }) : Option (Rt H)).bind fun r8 =>
   cond (exIs r8.e .normal)
    ((aNilCheck (r8.v 0)).bind fun t76 =>
    (addOff t76 3).bind fun t77 =>
    (ld1 r8.h t77).bind fun t78 =>
    (addOff (r8.v 5) 0).bind fun t79 =>
    (ld1 r8.h t79).bind fun t80 =>
    (aLookup P r8.h 156 t78 t80 false).bind fun t81 =>
    (aNilCheck (r8.v 0)).bind fun t85 =>
    (addOff t85 1).bind fun t86 =>
    (addOff t86 1).bind fun t87 =>
    (ld1 r8.h t87).bind fun t88 =>
    (ixS 4 t88 t81).bind fun t90 =>
    (ldN r8.h 4 t90).bind fun t91 =>
    (callF o 81 [t91] r8.h ((r8.c + 1) + 1)).bind fun r9 =>
    (ldN r9.2.1 4 (r8.v 6)).bind fun t93 =>
    (callF o 107 [r9.1, t93] r9.2.1 r9.2.2).bind fun r10 =>
    (bldV [(.int .i64 0), (.int .i64 0), (.int .i64 0), (.int .i64 0), (.int .i64 0)] [(0, 1, t81), (1, 4, r10.1)]).bind fun t95 =>
    (ixA 4 5 (r8.v 3) (r8.v 4)).bind fun t96 =>
    (stN r10.2.1 5 t96 t95).bind fun h12 =>
    (bif (sameB (ridV (r8.v 6)) r8.h r9.2.1 && true) then
    some { e := .normal, vs := [(r8.v 0), (r8.v 1), (r8.v 2), (r8.v 3), (r8.v 7)], h := h12, c := r10.2.2, df := r8.df }
    else none))
    (none)) : Option (Rt H)).bind fun r13 =>
 cond (exIs r13.e .normal)
  ((aBinOp P .add 3 (r13.v 4) (.int .i64 1)).bind fun t97 =>
  some { e := .normal, vs := [(r13.v 0), (r13.v 1), (r13.v 2), (r13.v 3), t97], h := r13.h, c := (r13.c + 1), df := r13.df })
  (none))
 (some { e := (.exit 0), vs := [t0, t1, t4, t5, t12], h := h, c := (c + 1), df := df })
theorem f105_L105000_eq (o : Orc H) (rd : Option Nat) (t0 t1 t4 t5 t12 : Value) (h : H) (c : Nat) (df : List Nat) : jx P o 99 rd f105_c105000 (tmOf [0, 1, 4, 5, 12] [t0, t1, t4, t5, t12]) h c df (Klp [0, 1, 4, 5, 12]) = f105_L105000 o rd t0 t1 t4 t5 t12 h c df := by kernel_rfl
/-- (*sphenoid/iso.numbering).row -/
noncomputable def f105_S (o : Orc H) (t0 t1 : Value) (h : H) (c : Nat) : Option (Rt H) :=
 (o (f105_k105000 none) [t0, t1, (ptrTo (256 * c + 0)), (ptrTo (256 * (c + 1) + 0)), (.int .i64 0)] (newB (newB h (256 * c + 0) [(.int .i64 0), (.int .i64 0), (.int .i64 0), (.int .i64 0), (.int .i64 0), (.int .i64 0), (.int .i64 0), (.int .i64 0), (.int .i64 0), (.int .i64 0), (.int .i64 0), (.int .i64 0), (.int .i64 0), (.int .i64 0), (.int .i64 0), (.int .i64 0), (.int .i64 0), (.int .i64 0), (.int .i64 0), (.int .i64 0)]) (256 * (c + 1) + 0) [(.int .i64 0), (.int .i64 0), (.int .i64 0), (.int .i64 0), (.int .i64 0), (.int .i64 0), (.int .i64 0), (.int .i64 0), (.int .i64 0), (.int .i64 0), (.int .i64 0), (.int .i64 0), (.int .i64 0), (.int .i64 0), (.int .i64 0), (.int .i64 0), (.int .i64 0), (.int .i64 0), (.int .i64 0), (.int .i64 0)]) (((c + 1) + 1) + 1) []).bind fun r0 =>
 cond (exIs r0.e (.exit 0))
 ((ldN r0.h 20 (r0.v 3)).bind fun t98 =>
 (stN r0.h 20 (r0.v 2) t98).bind fun h2 =>
 (takeAll h2 r0.df).bind fun h3 =>
 (ldN h3 20 (r0.v 2)).bind fun v4 =>
 some { e := .ret, vs := [v4], h := h3, c := (r0.c + 1), df := [] })
 (none)
theorem f105_S_eq (o : Orc H) (t0 t1 : Value) (h : H) (c : Nat) : jx P o 99 none f105_c (tmOf (List.range 2) [t0, t1]) h c [] (Kfn P Try.f105.results.toList) = f105_S o t0 t1 h c := by kernel_rfl
theorem f105_go {t0 t1 : Value} {h : FH} {c : Nat} {df : List Nat} {r : Rt FH} (e : f105_S G t0 t1 h c = some r) : G (.fn 105) [t0, t1] h c df = some (gcR h c [] r) := runG_fn (a := f105_f) bk_105 rfl (fun args h c => by cases args <;> rfl) rfl ((f105_S_eq G t0 t1 h c).trans e)
theorem f105_N105000 {rd : Option Nat} {t0 t1 t4 t5 t12 : Value} {h : FH} {c : Nat} {df : List Nat} {q r : Rt FH} (e : f105_L105000 G rd t0 t1 t4 t5 t12 h c df = some q) (hq : q.e = .normal) (k : G (f105_k105000 rd) q.vs q.h q.c q.df = some r) : G (f105_k105000 rd) [t0, t1, t4, t5, t12] h c df = some r := runG_lp_next ((f105_L105000_eq G rd t0 t1 t4 t5 t12 h c df).trans e) hq k
theorem f105_Z105000 {rd : Option Nat} {t0 t1 t4 t5 t12 : Value} {h : FH} {c : Nat} {df : List Nat} {q : Rt FH} (e : f105_L105000 G rd t0 t1 t4 t5 t12 h c df = some q) (hq : q.e ≠ .normal) : G (f105_k105000 rd) [t0, t1, t4, t5, t12] h c df = some q := runG_lp_last ((f105_L105000_eq G rd t0 t1 t4 t5 t12 h c df).trans e) hq
noncomputable def f106_L106000 (o : Orc H) (rd : Option Nat) (t0 t1 t2 t6 t7 t8 : Value) (h : H) (c : Nat) (df : List Nat) : Option (Rt H) :=
 (aBinOp P .leq 3 t8 t1).bind fun t13 =>
 boolK t13
 ((callF o 108 [t0, t7, t8, t2] h ((c + 1) + 1)).bind fun r0 =>
 (aBinOp P .add 3 t8 t6).bind fun t22 =>
 some { e := .normal, vs := [t0, t1, t2, t6, t8, t22], h := r0.2.1, c := ((r0.2.2 + 1) + 1), df := df })
 (some { e := (.exit 0), vs := [t0, t1, t2, t6, t7, t8], h := h, c := (c + 1), df := df })
theorem f106_L106000_eq (o : Orc H) (rd : Option Nat) (t0 t1 t2 t6 t7 t8 : Value) (h : H) (c : Nat) (df : List Nat) : jx P o 63 rd f106_c106000 (tmOf [0, 1, 2, 6, 7, 8] [t0, t1, t2, t6, t7, t8]) h c df (Klp [0, 1, 2, 6, 7, 8]) = f106_L106000 o rd t0 t1 t2 t6 t7 t8 h c df := by kernel_rfl
noncomputable def f106_L106002 (o : Orc H) (rd : Option Nat) (t0 t1 t2 t6 t7 t8 : Value) (h : H) (c : Nat) (df : List Nat) : Option (Rt H) :=
 (aBinOp P .leq 3 t8 t1).bind fun t35 =>
 boolK t35
 ((aBinOp P .add 3 t7 t6).bind fun t40 =>
 (callF o 109 [t0, t7, t40, t8, t2] h ((c + 1) + 1)).bind fun r0 =>
 (aBinOp P .mul 3 (.int .i64 2) t6).bind fun t47 =>
 (aBinOp P .add 3 t8 t47).bind fun t48 =>
 some { e := .normal, vs := [t0, t1, t2, t6, t8, t48], h := r0.2.1, c := ((r0.2.2 + 1) + 1), df := df })
 (some { e := (.exit 4), vs := [t0, t1, t2, t6, t7, t8], h := h, c := (c + 1), df := df })
theorem f106_L106002_eq (o : Orc H) (rd : Option Nat) (t0 t1 t2 t6 t7 t8 : Value) (h : H) (c : Nat) (df : List Nat) : jx P o 63 rd f106_c106002 (tmOf [0, 1, 2, 6, 7, 8] [t0, t1, t2, t6, t7, t8]) h c df (Klp [0, 1, 2, 6, 7, 8]) = f106_L106002 o rd t0 t1 t2 t6 t7 t8 h c df := by kernel_rfl
noncomputable def f106_L106001 (o : Orc H) (rd : Option Nat) (t0 t1 t2 t6 : Value) (h : H) (c : Nat) (df : List Nat) : Option (Rt H) :=
 (aBinOp P .lss 3 t6 t1).bind fun t30 =>
 boolK t30
 ((aBinOp P .mul 3 (.int .i64 2) t6).bind fun t32 =>
 (o (f106_k106002 rd) [t0, t1, t2, t6, (.int .i64 0), t32] h ((c + 1) + 1) df).bind fun r0 =>
 cond (exIs r0.e (.exit 4))
  ((aBinOp P .add 3 (r0.v 4) (r0.v 3)).bind fun t51 =>
  (aBinOp P .lss 3 t51 (r0.v 1)).bind fun t54 =>
  (boolK t54
    ((callF o 109 [(r0.v 0), (r0.v 4), t51, (r0.v 1), (r0.v 2)] r0.h (((r0.c + 1) + 1) + 1)).bind fun r1 =>
    some { e := .normal, vs := [(r0.v 0), (r0.v 1), (r0.v 2), (r0.v 3)], h := r1.2.1, c := r1.2.2, df := r0.df })
    (some { e := .normal, vs := [(r0.v 0), (r0.v 1), (r0.v 2), (r0.v 3)], h := r0.h, c := ((r0.c + 1) + 1), df := r0.df }) : Option (Rt H)).bind fun r2 =>
  cond (exIs r2.e .normal)
   ((aBinOp P .mul 3 (r2.v 3) (.int .i64 2)).bind fun t62 =>
   some { e := .normal, vs := [(r2.v 0), (r2.v 1), (r2.v 2), t62], h := r2.h, c := (r2.c + 1), df := r2.df })
   (none))
  (none))
 (some { e := (.exit 2), vs := [t0, t1, t2, t6], h := h, c := (c + 1), df := df })
theorem f106_L106001_eq (o : Orc H) (rd : Option Nat) (t0 t1 t2 t6 : Value) (h : H) (c : Nat) (df : List Nat) : jx P o 63 rd f106_c106001 (tmOf [0, 1, 2, 6] [t0, t1, t2, t6]) h c df (Klp [0, 1, 2, 6]) = f106_L106001 o rd t0 t1 t2 t6 h c df := by kernel_rfl
/-- slices.stableCmpFunc[*sphenoid/iso.numbering] -/
noncomputable def f106_S (o : Orc H) (t0 t1 t2 : Value) (h : H) (c : Nat) : Option (Rt H) :=
 (o (f106_k106000 none) [t0, t1, t2, (.int .i64 20), (.int .i64 0), (.int .i64 20)] h ((c + 1) + 1) []).bind fun r0 =>
 cond (exIs r0.e (.exit 0))
 ((callF o 108 [(r0.v 0), (r0.v 4), (r0.v 1), (r0.v 2)] r0.h (r0.c + 1)).bind fun r1 =>
 (o (f106_k106001 none) [(r0.v 0), (r0.v 1), (r0.v 2), (r0.v 3)] r1.2.1 r1.2.2 r0.df).bind fun r2 =>
 cond (exIs r2.e (.exit 2))
  ((takeAll r2.h r2.df).bind fun h3 =>
  some { e := .ret, vs := [.tuple #[]], h := h3, c := r2.c, df := [] })
  (none))
 (none)
theorem f106_S_eq (o : Orc H) (t0 t1 t2 : Value) (h : H) (c : Nat) : jx P o 63 none f106_c (tmOf (List.range 3) [t0, t1, t2]) h c [] (Kfn P Try.f106.results.toList) = f106_S o t0 t1 t2 h c := by kernel_rfl
theorem f106_go {t0 t1 t2 : Value} {h : FH} {c : Nat} {df : List Nat} {r : Rt FH} (e : f106_S G t0 t1 t2 h c = some r) : G (.fn 106) [t0, t1, t2] h c df = some (gcR h c [] r) := runG_fn (a := f106_f) bk_106 rfl (fun args h c => by cases args <;> rfl) rfl ((f106_S_eq G t0 t1 t2 h c).trans e)
theorem f106_N106000 {rd : Option Nat} {t0 t1 t2 t6 t7 t8 : Value} {h : FH} {c : Nat} {df : List Nat} {q r : Rt FH} (e : f106_L106000 G rd t0 t1 t2 t6 t7 t8 h c df = some q) (hq : q.e = .normal) (k : G (f106_k106000 rd) q.vs q.h q.c q.df = some r) : G (f106_k106000 rd) [t0, t1, t2, t6, t7, t8] h c df = some r := runG_lp_next ((f106_L106000_eq G rd t0 t1 t2 t6 t7 t8 h c df).trans e) hq k
theorem f106_Z106000 {rd : Option Nat} {t0 t1 t2 t6 t7 t8 : Value} {h : FH} {c : Nat} {df : List Nat} {q : Rt FH} (e : f106_L106000 G rd t0 t1 t2 t6 t7 t8 h c df = some q) (hq : q.e ≠ .normal) : G (f106_k106000 rd) [t0, t1, t2, t6, t7, t8] h c df = some q := runG_lp_last ((f106_L106000_eq G rd t0 t1 t2 t6 t7 t8 h c df).trans e) hq
theorem f106_N106002 {rd : Option Nat} {t0 t1 t2 t6 t7 t8 : Value} {h : FH} {c : Nat} {df : List Nat} {q r : Rt FH} (e : f106_L106002 G rd t0 t1 t2 t6 t7 t8 h c df = some q) (hq : q.e = .normal) (k : G (f106_k106002 rd) q.vs q.h q.c q.df = some r) : G (f106_k106002 rd) [t0, t1, t2, t6, t7, t8] h c df = some r := runG_lp_next ((f106_L106002_eq G rd t0 t1 t2 t6 t7 t8 h c df).trans e) hq k
theorem f106_Z106002 {rd : Option Nat} {t0 t1 t2 t6 t7 t8 : Value} {h : FH} {c : Nat} {df : List Nat} {q : Rt FH} (e : f106_L106002 G rd t0 t1 t2 t6 t7 t8 h c df = some q) (hq : q.e ≠ .normal) : G (f106_k106002 rd) [t0, t1, t2, t6, t7, t8] h c df = some q := runG_lp_last ((f106_L106002_eq G rd t0 t1 t2 t6 t7 t8 h c df).trans e) hq
theorem f106_N106001 {rd : Option Nat} {t0 t1 t2 t6 : Value} {h : FH} {c : Nat} {df : List Nat} {q r : Rt FH} (e : f106_L106001 G rd t0 t1 t2 t6 h c df = some q) (hq : q.e = .normal) (k : G (f106_k106001 rd) q.vs q.h q.c q.df = some r) : G (f106_k106001 rd) [t0, t1, t2, t6] h c df = some r := runG_lp_next ((f106_L106001_eq G rd t0 t1 t2 t6 h c df).trans e) hq k
theorem f106_Z106001 {rd : Option Nat} {t0 t1 t2 t6 : Value} {h : FH} {c : Nat} {df : List Nat} {q : Rt FH} (e : f106_L106001 G rd t0 t1 t2 t6 h c df = some q) (hq : q.e ≠ .normal) : G (f106_k106001 rd) [t0, t1, t2, t6] h c df = some q := runG_lp_last ((f106_L106001_eq G rd t0 t1 t2 t6 h c df).trans e) hq
/-- sphenoid/glue.Compose -/
noncomputable def f107_S (o : Orc H) (t0 t1 : Value) (h : H) (c : Nat) : Option (Rt H) :=
 (bif (t0 : Value).cells.toList.all isFlat then
 (bif (t1 : Value).cells.toList.all isFlat then
 (ldN (newB (newB (newB h (256 * c + 0) (t0 : Value).cells.toList) (256 * c + 1) (t1 : Value).cells.toList) (256 * c + 2) [(.int .i64 0), (.int .i64 0), (.int .i64 0), (.int .i64 0)]) 4 (ptrTo (256 * c + 0))).bind fun t5 =>
 (callF o 72 [t5] (newB (newB (newB h (256 * c + 0) (t0 : Value).cells.toList) (256 * c + 1) (t1 : Value).cells.toList) (256 * c + 2) [(.int .i64 0), (.int .i64 0), (.int .i64 0), (.int .i64 0)]) ((c + 1) + 1)).bind fun r0 =>
 (aUnOp .not r0.1).bind fun t7 =>
 ((gv t7 false).bind fun w => cond w (ret1 r0.2.1 r0.2.2 (ldN r0.2.1 4 (ptrTo (256 * c + 1)))) (some (undef, r0.2.1, r0.2.2))).bind fun r1 =>
 ((gv t7 false).bind fun w => cond w (callF o 72 [r1.1] r1.2.1 r1.2.2) (some (undef, r1.2.1, r1.2.2))).bind fun r2 =>
 ((gv t7 false).bind fun w => cond w (ret1 r2.2.1 r2.2.2 (aUnOp .not r2.1)) (some (undef, r2.2.1, r2.2.2))).bind fun r3 =>
 (pickV t7 (.bool true) r3.1).bind fun t12 =>
 boolK t12
 ((bldV [(.int .i64 0), (.int .i64 0), (.int .i64 0), (.int .i64 0)] []).bind fun t13 =>
 (stN r3.2.1 4 (ptrTo (256 * c + 2)) t13).bind fun h5 =>
 (ldN h5 4 (ptrTo (256 * c + 2))).bind fun v6 =>
 some { e := .ret, vs := [v6], h := h5, c := (r3.2.2 + 1), df := [] })
 ((ldN r3.2.1 4 (ptrTo (256 * c + 0))).bind fun t14 =>
 (ldN r3.2.1 4 (ptrTo (256 * c + 1))).bind fun t15 =>
 (callF o 110 [t14, t15] r3.2.1 (r3.2.2 + 1)).bind fun r7 =>
 (stN r7.2.1 4 (ptrTo (256 * c + 2)) r7.1).bind fun h9 =>
 (ldN h9 4 (ptrTo (256 * c + 2))).bind fun v10 =>
 some { e := .ret, vs := [v10], h := h9, c := r7.2.2, df := [] })
 else none)
 else none)
theorem f107_S_eq (o : Orc H) (t0 t1 : Value) (h : H) (c : Nat) : jx P o 17 none f107_c (tmOf (List.range 2) [t0, t1]) h c [] (Kfn P Try.f107.results.toList) = f107_S o t0 t1 h c := by kernel_rfl
theorem f107_go {t0 t1 : Value} {h : FH} {c : Nat} {df : List Nat} {r : Rt FH} (e : f107_S G t0 t1 h c = some r) : G (.fn 107) [t0, t1] h c df = some (gcR h c [] r) := runG_fn (a := f107_f) bk_107 rfl (fun args h c => by cases args <;> rfl) rfl ((f107_S_eq G t0 t1 h c).trans e)
noncomputable def f108_L108001 (o : Orc H) (rd : Option Nat) (t0 t1 t2 t3 t8 t9 : Value) (h : H) (c : Nat) (df : List Nat) : Option (Rt H) :=
 (aBinOp P .gtr 3 t9 t1).bind fun t20 =>
 ((gv t20 true).bind fun w => cond w (ret1 h (c + 1) (some t3)) (some (undef, h, (c + 1)))).bind fun r0 =>
 ((gv t20 true).bind fun w => cond w (ret1 r0.2.1 r0.2.2 (some t0)) (some (undef, r0.2.1, r0.2.2))).bind fun r1 =>
 ((gv t20 true).bind fun w => cond w (ret1 r1.2.1 r1.2.2 (some t9)) (some (undef, r1.2.1, r1.2.2))).bind fun r2 =>
 ((gv t20 true).bind fun w => cond w (ret1 r2.2.1 r2.2.2 (ixS 1 r1.1 r2.1)) (some (undef, r2.2.1, r2.2.2))).bind fun r3 =>
 ((gv t20 true).bind fun w => cond w (ret1 r3.2.1 r3.2.2 (ld1 r3.2.1 r3.1)) (some (undef, r3.2.1, r3.2.2))).bind fun r4 =>
 ((gv t20 true).bind fun w => cond w (ret1 r4.2.1 r4.2.2 (some t0)) (some (undef, r4.2.1, r4.2.2))).bind fun r5 =>
 ((gv t20 true).bind fun w => cond w (ret1 r5.2.1 r5.2.2 (some t9)) (some (undef, r5.2.1, r5.2.2))).bind fun r6 =>
 ((gv t20 true).bind fun w => cond w (ret1 r6.2.1 r6.2.2 (aBinOp P .sub 3 r6.1 (.int .i64 1))) (some (undef, r6.2.1, r6.2.2))).bind fun r7 =>
 ((gv t20 true).bind fun w => cond w (ret1 r7.2.1 r7.2.2 (ixS 1 r5.1 r7.1)) (some (undef, r7.2.1, r7.2.2))).bind fun r8 =>
 ((gv t20 true).bind fun w => cond w (ret1 r8.2.1 r8.2.2 (ld1 r8.2.1 r8.1)) (some (undef, r8.2.1, r8.2.2))).bind fun r9 =>
 ((gv t20 true).bind fun w => cond w (callV o r9.2.1 r9.2.2 r0.1 [r4.1, r9.1]) (some (undef, r9.2.1, r9.2.2))).bind fun r10 =>
 ((gv t20 true).bind fun w => cond w (ret1 r10.2.1 r10.2.2 (aBinOp P .lss 3 r10.1 (.int .i64 0))) (some (undef, r10.2.1, r10.2.2))).bind fun r11 =>
 (pickV t20 r11.1 (.bool false)).bind fun t34 =>
 boolK t34
 ((aBinOp P .sub 3 t9 (.int .i64 1)).bind fun t41 =>
 (aBinOp P .sub 3 t9 (.int .i64 1)).bind fun t44 =>
 (ixS 1 t0 t44).bind fun t45 =>
 (ld1 r11.2.1 t45).bind fun t46 =>
 (ixS 1 t0 t9).bind fun t49 =>
 (ld1 r11.2.1 t49).bind fun t50 =>
 (ixS 1 t0 t9).bind fun t51 =>
 (stN r11.2.1 1 t51 t46).bind fun h13 =>
 (ixS 1 t0 t41).bind fun t52 =>
 (stN h13 1 t52 t50).bind fun h15 =>
 (aBinOp P .sub 3 t9 (.int .i64 1)).bind fun t36 =>
 some { e := .normal, vs := [t0, t1, t2, t3, t8, t36], h := h15, c := ((r11.2.2 + 1) + 1), df := df })
 (some { e := (.exit 2), vs := [t0, t1, t2, t3, t8, t9], h := r11.2.1, c := r11.2.2, df := df })
theorem f108_L108001_eq (o : Orc H) (rd : Option Nat) (t0 t1 t2 t3 t8 t9 : Value) (h : H) (c : Nat) (df : List Nat) : jx P o 53 rd f108_c108001 (tmOf [0, 1, 2, 3, 8, 9] [t0, t1, t2, t3, t8, t9]) h c df (Klp [0, 1, 2, 3, 8, 9]) = f108_L108001 o rd t0 t1 t2 t3 t8 t9 h c df := by kernel_rfl
noncomputable def f108_L108000 (o : Orc H) (rd : Option Nat) (t0 t1 t2 t3 t8 : Value) (h : H) (c : Nat) (df : List Nat) : Option (Rt H) :=
 (aBinOp P .lss 3 t8 t2).bind fun t14 =>
 boolK t14
 ((o (f108_k108001 rd) [t0, t1, t2, t3, t8, t8] h ((c + 1) + 1) df).bind fun r0 =>
 cond (exIs r0.e (.exit 2))
  ((aBinOp P .add 3 (r0.v 4) (.int .i64 1)).bind fun t16 =>
  some { e := .normal, vs := [(r0.v 0), (r0.v 1), (r0.v 2), (r0.v 3), t16], h := r0.h, c := (r0.c + 1), df := r0.df })
  (none))
 (some { e := (.exit 0), vs := [t0, t1, t2, t3, t8], h := h, c := (c + 1), df := df })
theorem f108_L108000_eq (o : Orc H) (rd : Option Nat) (t0 t1 t2 t3 t8 : Value) (h : H) (c : Nat) (df : List Nat) : jx P o 53 rd f108_c108000 (tmOf [0, 1, 2, 3, 8] [t0, t1, t2, t3, t8]) h c df (Klp [0, 1, 2, 3, 8]) = f108_L108000 o rd t0 t1 t2 t3 t8 h c df := by kernel_rfl
/-- slices.insertionSortCmpFunc[*sphenoid/iso.numbering] -/
noncomputable def f108_S (o : Orc H) (t0 t1 t2 t3 : Value) (h : H) (c : Nat) : Option (Rt H) :=
 (aBinOp P .add 3 t1 (.int .i64 1)).bind fun t11 =>
 (o (f108_k108000 none) [t0, t1, t2, t3, t11] h (c + 1) []).bind fun r0 =>
 cond (exIs r0.e (.exit 0))
 ((takeAll r0.h r0.df).bind fun h1 =>
 some { e := .ret, vs := [.tuple #[]], h := h1, c := r0.c, df := [] })
 (none)
theorem f108_S_eq (o : Orc H) (t0 t1 t2 t3 : Value) (h : H) (c : Nat) : jx P o 53 none f108_c (tmOf (List.range 4) [t0, t1, t2, t3]) h c [] (Kfn P Try.f108.results.toList) = f108_S o t0 t1 t2 t3 h c := by kernel_rfl
theorem f108_go {t0 t1 t2 t3 : Value} {h : FH} {c : Nat} {df : List Nat} {r : Rt FH} (e : f108_S G t0 t1 t2 t3 h c = some r) : G (.fn 108) [t0, t1, t2, t3] h c df = some (gcR h c [] r) := runG_fn (a := f108_f) bk_108 rfl (fun args h c => by cases args <;> rfl) rfl ((f108_S_eq G t0 t1 t2 t3 h c).trans e)
theorem f108_N108001 {rd : Option Nat} {t0 t1 t2 t3 t8 t9 : Value} {h : FH} {c : Nat} {df : List Nat} {q r : Rt FH} (e : f108_L108001 G rd t0 t1 t2 t3 t8 t9 h c df = some q) (hq : q.e = .normal) (k : G (f108_k108001 rd) q.vs q.h q.c q.df = some r) : G (f108_k108001 rd) [t0, t1, t2, t3, t8, t9] h c df = some r := runG_lp_next ((f108_L108001_eq G rd t0 t1 t2 t3 t8 t9 h c df).trans e) hq k
theorem f108_Z108001 {rd : Option Nat} {t0 t1 t2 t3 t8 t9 : Value} {h : FH} {c : Nat} {df : List Nat} {q : Rt FH} (e : f108_L108001 G rd t0 t1 t2 t3 t8 t9 h c df = some q) (hq : q.e ≠ .normal) : G (f108_k108001 rd) [t0, t1, t2, t3, t8, t9] h c df = some q := runG_lp_last ((f108_L108001_eq G rd t0 t1 t2 t3 t8 t9 h c df).trans e) hq
theorem f108_N108000 {rd : Option Nat} {t0 t1 t2 t3 t8 : Value} {h : FH} {c : Nat} {df : List Nat} {q r : Rt FH} (e : f108_L108000 G rd t0 t1 t2 t3 t8 h c df = some q) (hq : q.e = .normal) (k : G (f108_k108000 rd) q.vs q.h q.c q.df = some r) : G (f108_k108000 rd) [t0, t1, t2, t3, t8] h c df = some r := runG_lp_next ((f108_L108000_eq G rd t0 t1 t2 t3 t8 h c df).trans e) hq k
theorem f108_Z108000 {rd : Option Nat} {t0 t1 t2 t3 t8 : Value} {h : FH} {c : Nat} {df : List Nat} {q : Rt FH} (e : f108_L108000 G rd t0 t1 t2 t3 t8 h c df = some q) (hq : q.e ≠ .normal) : G (f108_k108000 rd) [t0, t1, t2, t3, t8] h c df = some q := runG_lp_last ((f108_L108000_eq G rd t0 t1 t2 t3 t8 h c df).trans e) hq
end Go.Proofs.Ytdbiilapiloaiaa
