/- The shallow texts of the functions, with their equations. Printed by a program. -/
import Derived.Test.YtdbiilapiloaiaaK
set_option linter.all false
namespace Go.Proofs.Ytdbiilapiloaiaa
open Go Go.Ab Go.Proofs
set_option maxRecDepth 100000
set_option linter.unusedVariables false
variable {H : Type} [HeapC H]
noncomputable def f52_L52000 (o : Orc H) (rd : Option Nat) (t0 t1 t4 t5 : Value) (h : H) (c : Nat) (df : List Nat) : Option (Rt H) :=
 (lenS t0).bind fun t13 =>
 (aBinOp P .lss 3 t5 t13).bind fun t14 =>
 boolK t14
 ((ixS 1 t0 t5).bind fun t19 =>
 (ld1 h t19).bind fun t20 =>
 (ixS 1 t1 t5).bind fun t23 =>
 (ld1 h t23).bind fun t24 =>
 (aBinOp P .neq 3 t20 t24).bind fun t25 =>
 boolK t25
  (some { e := .ret, vs := [t0, t1, (.bool false), t5], h := h, c := (((c + 1) + 1) + 1), df := df })
  ((aBinOp P .add 3 t5 (.int .i64 1)).bind fun t16 =>
  some { e := .normal, vs := [t0, t1, t4, t16], h := h, c := (((c + 1) + 1) + 1), df := df }))
 (some { e := (.exit 0), vs := [t0, t1, t4, t5], h := h, c := (c + 1), df := df })
theorem f52_L52000_eq (o : Orc H) (rd : Option Nat) (t0 t1 t4 t5 : Value) (h : H) (c : Nat) (df : List Nat) : jx P o 26 rd f52_c52000 (tmOf [0, 1, 4, 5] [t0, t1, t4, t5]) h c df (Klp [0, 1, 4, 5]) = f52_L52000 o rd t0 t1 t4 t5 h c df := by kernel_rfl
/-- sphenoid/sphenoidref01.SameInts -/
noncomputable def f52_S (o : Orc H) (t0 t1 : Value) (h : H) (c : Nat) : Option (Rt H) :=
 (lenS t0).bind fun t7 =>
 (lenS t1).bind fun t9 =>
 (aBinOp P .neq 3 t7 t9).bind fun t10 =>
 boolK t10
 (some { e := .ret, vs := [(.bool false)], h := h, c := (((c + 1) + 1) + 1), df := [] })
 ((o (f52_k52000 none) [t0, t1, (.bool false), (.int .i64 0)] h (((c + 1) + 1) + 1) []).bind fun r0 =>
 cond (exIs r0.e (.exit 0))
  ((takeAll r0.h r0.df).bind fun h2 =>
  some { e := .ret, vs := [(.bool true)], h := h2, c := (r0.c + 1), df := [] })
  (cond (exIs r0.e .ret)
   ((takeAll r0.h r0.df).bind fun h1 =>
   some { e := .ret, vs := [(r0.v 2)], h := h1, c := r0.c, df := [] })
   (none)))
theorem f52_S_eq (o : Orc H) (t0 t1 : Value) (h : H) (c : Nat) : jx P o 26 none f52_c (tmOf (List.range 2) [t0, t1]) h c [] (Kfn P Try.f52.results.toList) = f52_S o t0 t1 h c := by kernel_rfl
theorem f52_go {t0 t1 : Value} {h : FH} {c : Nat} {df : List Nat} {r : Rt FH} (e : f52_S G t0 t1 h c = some r) : G (.fn 52) [t0, t1] h c df = some (gcR h c [] r) := runG_fn (a := f52_f) bk_52 rfl (fun args h c => by cases args <;> rfl) rfl ((f52_S_eq G t0 t1 h c).trans e)
theorem f52_N52000 {rd : Option Nat} {t0 t1 t4 t5 : Value} {h : FH} {c : Nat} {df : List Nat} {q r : Rt FH} (e : f52_L52000 G rd t0 t1 t4 t5 h c df = some q) (hq : q.e = .normal) (k : G (f52_k52000 rd) q.vs q.h q.c q.df = some r) : G (f52_k52000 rd) [t0, t1, t4, t5] h c df = some r := runG_lp_next ((f52_L52000_eq G rd t0 t1 t4 t5 h c df).trans e) hq k
theorem f52_Z52000 {rd : Option Nat} {t0 t1 t4 t5 : Value} {h : FH} {c : Nat} {df : List Nat} {q : Rt FH} (e : f52_L52000 G rd t0 t1 t4 t5 h c df = some q) (hq : q.e ≠ .normal) : G (f52_k52000 rd) [t0, t1, t4, t5] h c df = some q := runG_lp_last ((f52_L52000_eq G rd t0 t1 t4 t5 h c df).trans e) hq
noncomputable def f53_L53000 (o : Orc H) (rd : Option Nat) (t2 t4 t5 t6 : Value) (h : H) (c : Nat) (df : List Nat) : Option (Rt H) :=
 (aBinOp P .lss 3 t6 t5).bind fun t7 =>
 boolK t7
 ((ixA 3 1 t2 (.int .i64 1)).bind fun t8 =>
 (ld1 h t8).bind fun t9 =>
 (ixA 3 1 t2 (.int .i64 2)).bind fun t10 =>
 (ld1 h t10).bind fun t11 =>
 (aUnOp .neg t11).bind fun t12 =>
 (ixA 3 1 t2 (.int .i64 0)).bind fun t13 =>
 (ld1 h t13).bind fun t14 =>
 (aUnOp .neg t14).bind fun t15 =>
 (bldV [(.int .i64 0), (.int .i64 0), (.int .i64 0)] [(0, 1, t9), (1, 1, t12), (2, 1, t15)]).bind fun t16 =>
 (stN h 3 t2 t16).bind fun h1 =>
 (aBinOp P .add 3 t6 (.int .i64 1)).bind fun t17 =>
 some { e := .normal, vs := [t2, t4, t5, t17], h := h1, c := (((c + 1) + 1) + 1), df := df })
 (some { e := (.exit 0), vs := [t2, t4, t5, t6], h := h, c := (c + 1), df := df })
theorem f53_L53000_eq (o : Orc H) (rd : Option Nat) (t2 t4 t5 t6 : Value) (h : H) (c : Nat) (df : List Nat) : jx P o 19 rd f53_c53000 (tmOf [2, 4, 5, 6] [t2, t4, t5, t6]) h c df (Klp [2, 4, 5, 6]) = f53_L53000 o rd t2 t4 t5 t6 h c df := by kernel_rfl
/-- (sphenoid/lens.slopes).turned -/
noncomputable def f53_S (o : Orc H) (t0 t1 : Value) (h : H) (c : Nat) : Option (Rt H) :=
 (bif (t0 : Value).cells.toList.all isFlat then
 (o (f53_k53000 none) [(ptrTo (256 * c + 0)), (ptrTo (256 * c + 1)), t1, (.int .i64 0)] (newB (newB h (256 * c + 0) (t0 : Value).cells.toList) (256 * c + 1) [(.int .i64 0), (.int .i64 0), (.int .i64 0)]) ((c + 1) + 1) []).bind fun r0 =>
 cond (exIs r0.e (.exit 0))
 ((ldN r0.h 3 (r0.v 0)).bind fun t18 =>
 (stN r0.h 3 (r0.v 1) t18).bind fun h2 =>
 (takeAll h2 r0.df).bind fun h3 =>
 (ldN h3 3 (r0.v 1)).bind fun v4 =>
 some { e := .ret, vs := [v4], h := h3, c := (r0.c + 1), df := [] })
 (none)
 else none)
theorem f53_S_eq (o : Orc H) (t0 t1 : Value) (h : H) (c : Nat) : jx P o 19 none f53_c (tmOf (List.range 2) [t0, t1]) h c [] (Kfn P Try.f53.results.toList) = f53_S o t0 t1 h c := by kernel_rfl
theorem f53_go {t0 t1 : Value} {h : FH} {c : Nat} {df : List Nat} {r : Rt FH} (e : f53_S G t0 t1 h c = some r) : G (.fn 53) [t0, t1] h c df = some (gcR h c [] r) := runG_fn (a := f53_f) bk_53 rfl (fun args h c => by cases args <;> rfl) rfl ((f53_S_eq G t0 t1 h c).trans e)
theorem f53_N53000 {rd : Option Nat} {t2 t4 t5 t6 : Value} {h : FH} {c : Nat} {df : List Nat} {q r : Rt FH} (e : f53_L53000 G rd t2 t4 t5 t6 h c df = some q) (hq : q.e = .normal) (k : G (f53_k53000 rd) q.vs q.h q.c q.df = some r) : G (f53_k53000 rd) [t2, t4, t5, t6] h c df = some r := runG_lp_next ((f53_L53000_eq G rd t2 t4 t5 t6 h c df).trans e) hq k
theorem f53_Z53000 {rd : Option Nat} {t2 t4 t5 t6 : Value} {h : FH} {c : Nat} {df : List Nat} {q : Rt FH} (e : f53_L53000 G rd t2 t4 t5 t6 h c df = some q) (hq : q.e ≠ .normal) : G (f53_k53000 rd) [t2, t4, t5, t6] h c df = some q := runG_lp_last ((f53_L53000_eq G rd t2 t4 t5 t6 h c df).trans e) hq
/-- (sphenoid/lens.slopes).layered -/
noncomputable def f55_S (o : Orc H) (t0 : Value) (h : H) (c : Nat) : Option (Rt H) :=
 (bif (t0 : Value).cells.toList.all isFlat then
 (ixA 3 1 (ptrTo (256 * c + 0)) (.int .i64 0)).bind fun t3 =>
 (ld1 (newB (newB h (256 * c + 0) (t0 : Value).cells.toList) (256 * c + 1) [(.int .i64 0), (.int .i64 0), (.int .i64 0)]) t3).bind fun t4 =>
 (ixA 3 1 (ptrTo (256 * c + 0)) (.int .i64 1)).bind fun t5 =>
 (ld1 (newB (newB h (256 * c + 0) (t0 : Value).cells.toList) (256 * c + 1) [(.int .i64 0), (.int .i64 0), (.int .i64 0)]) t5).bind fun t6 =>
 (ixA 3 1 (ptrTo (256 * c + 0)) (.int .i64 0)).bind fun t7 =>
 (ld1 (newB (newB h (256 * c + 0) (t0 : Value).cells.toList) (256 * c + 1) [(.int .i64 0), (.int .i64 0), (.int .i64 0)]) t7).bind fun t8 =>
 (aBinOp P .sub 3 t6 t8).bind fun t9 =>
 (ixA 3 1 (ptrTo (256 * c + 0)) (.int .i64 1)).bind fun t10 =>
 (ld1 (newB (newB h (256 * c + 0) (t0 : Value).cells.toList) (256 * c + 1) [(.int .i64 0), (.int .i64 0), (.int .i64 0)]) t10).bind fun t11 =>
 (bldV [(.int .i64 0), (.int .i64 0), (.int .i64 0)] [(0, 1, t4), (1, 1, t9), (2, 1, t11)]).bind fun t12 =>
 (stN (newB (newB h (256 * c + 0) (t0 : Value).cells.toList) (256 * c + 1) [(.int .i64 0), (.int .i64 0), (.int .i64 0)]) 3 (ptrTo (256 * c + 1)) t12).bind fun h1 =>
 (ldN h1 3 (ptrTo (256 * c + 1))).bind fun v2 =>
 some { e := .ret, vs := [v2], h := h1, c := ((c + 1) + 1), df := [] }
 else none)
theorem f55_S_eq (o : Orc H) (t0 : Value) (h : H) (c : Nat) : jx P o 13 none f55_c (tmOf (List.range 1) [t0]) h c [] (Kfn P Try.f55.results.toList) = f55_S o t0 h c := by kernel_rfl
theorem f55_go {t0 : Value} {h : FH} {c : Nat} {df : List Nat} {r : Rt FH} (e : f55_S G t0 h c = some r) : G (.fn 55) [t0] h c df = some (gcR h c [] r) := runG_fn (a := f55_f) bk_55 rfl (fun args h c => by cases args <;> rfl) rfl ((f55_S_eq G t0 h c).trans e)
noncomputable def f59_L59000 (o : Orc H) (rd : Option Nat) (t1 t2 t3 t4 : Value) (h : H) (c : Nat) (df : List Nat) : Option (Rt H) :=
 (aBinOp P .lss 3 t4 (.int .i64 4)).bind fun t10 =>
 boolK t10
 ((ixA 4 1 t1 t4).bind fun t14 =>
 (ld1 h t14).bind fun t15 =>
 (ixA 4 1 t3 t15).bind fun t17 =>
 (stN h 1 t17 t4).bind fun h1 =>
 (aBinOp P .add 3 t4 (.int .i64 1)).bind fun t12 =>
 some { e := .normal, vs := [t1, t2, t3, t12], h := h1, c := (((c + 1) + 1) + 1), df := df })
 (some { e := (.exit 0), vs := [t1, t2, t3, t4], h := h, c := (c + 1), df := df })
theorem f59_L59000_eq (o : Orc H) (rd : Option Nat) (t1 t2 t3 t4 : Value) (h : H) (c : Nat) (df : List Nat) : jx P o 19 rd f59_c59000 (tmOf [1, 2, 3, 4] [t1, t2, t3, t4]) h c df (Klp [1, 2, 3, 4]) = f59_L59000 o rd t1 t2 t3 t4 h c df := by kernel_rfl
/-- sphenoid/sphenoidref01.Inverse -/
noncomputable def f59_S (o : Orc H) (t0 : Value) (h : H) (c : Nat) : Option (Rt H) :=
 (bif (t0 : Value).cells.toList.all isFlat then
 (ldN (newB (newB (newB h (256 * c + 0) (t0 : Value).cells.toList) (256 * c + 1) [(.int .i64 0), (.int .i64 0), (.int .i64 0), (.int .i64 0)]) (256 * (c + 1) + 0) [(.int .i64 0), (.int .i64 0), (.int .i64 0), (.int .i64 0)]) 4 (ptrTo (256 * c + 0))).bind fun t5 =>
 (callF o 64 [t5] (newB (newB (newB h (256 * c + 0) (t0 : Value).cells.toList) (256 * c + 1) [(.int .i64 0), (.int .i64 0), (.int .i64 0), (.int .i64 0)]) (256 * (c + 1) + 0) [(.int .i64 0), (.int .i64 0), (.int .i64 0), (.int .i64 0)]) (((c + 1) + 1) + 1)).bind fun r0 =>
 (aUnOp .not r0.1).bind fun t7 =>
 boolK t7
 ((ldN r0.2.1 4 (ptrTo (256 * (c + 1) + 0))).bind fun t8 =>
 (stN r0.2.1 4 (ptrTo (256 * c + 1)) t8).bind fun h2 =>
 (ldN h2 4 (ptrTo (256 * c + 1))).bind fun v3 =>
 some { e := .ret, vs := [v3], h := h2, c := (r0.2.2 + 1), df := [] })
 ((o (f59_k59000 none) [(ptrTo (256 * c + 0)), (ptrTo (256 * c + 1)), (ptrTo (256 * (c + 1) + 0)), (.int .i64 0)] r0.2.1 (r0.2.2 + 1) []).bind fun r4 =>
 cond (exIs r4.e (.exit 0))
  ((ldN r4.h 4 (r4.v 2)).bind fun t18 =>
  (stN r4.h 4 (r4.v 1) t18).bind fun h6 =>
  (takeAll h6 r4.df).bind fun h7 =>
  (ldN h7 4 (r4.v 1)).bind fun v8 =>
  some { e := .ret, vs := [v8], h := h7, c := (r4.c + 1), df := [] })
  (none))
 else none)
theorem f59_S_eq (o : Orc H) (t0 : Value) (h : H) (c : Nat) : jx P o 19 none f59_c (tmOf (List.range 1) [t0]) h c [] (Kfn P Try.f59.results.toList) = f59_S o t0 h c := by kernel_rfl
theorem f59_go {t0 : Value} {h : FH} {c : Nat} {df : List Nat} {r : Rt FH} (e : f59_S G t0 h c = some r) : G (.fn 59) [t0] h c df = some (gcR h c [] r) := runG_fn (a := f59_f) bk_59 rfl (fun args h c => by cases args <;> rfl) rfl ((f59_S_eq G t0 h c).trans e)
theorem f59_N59000 {rd : Option Nat} {t1 t2 t3 t4 : Value} {h : FH} {c : Nat} {df : List Nat} {q r : Rt FH} (e : f59_L59000 G rd t1 t2 t3 t4 h c df = some q) (hq : q.e = .normal) (k : G (f59_k59000 rd) q.vs q.h q.c q.df = some r) : G (f59_k59000 rd) [t1, t2, t3, t4] h c df = some r := runG_lp_next ((f59_L59000_eq G rd t1 t2 t3 t4 h c df).trans e) hq k
theorem f59_Z59000 {rd : Option Nat} {t1 t2 t3 t4 : Value} {h : FH} {c : Nat} {df : List Nat} {q : Rt FH} (e : f59_L59000 G rd t1 t2 t3 t4 h c df = some q) (hq : q.e ≠ .normal) : G (f59_k59000 rd) [t1, t2, t3, t4] h c df = some q := runG_lp_last ((f59_L59000_eq G rd t1 t2 t3 t4 h c df).trans e) hq
noncomputable def f60_L60000 (o : Orc H) (rd : Option Nat) (t0 t3 t4 t5 : Value) (h : H) (c : Nat) (df : List Nat) : Option (Rt H) :=
 (aLen P h 9 t0).bind fun t9 =>
 (aBinOp P .leq 3 t5 t9).bind fun t10 =>
 boolK t10
 ((aLen P h 9 t0).bind fun t15 =>
 (aBinOp P .eql 3 t5 t15).bind fun t16 =>
 ((gv t16 false).bind fun w => cond w (ret1 h ((c + 1) + 1) (some t0)) (some (undef, h, ((c + 1) + 1)))).bind fun r0 =>
 ((gv t16 false).bind fun w => cond w (ret1 r0.2.1 r0.2.2 (some t5)) (some (undef, r0.2.1, r0.2.2))).bind fun r1 =>
 ((gv t16 false).bind fun w => cond w (ret1 r1.2.1 r1.2.2 (ixStr r0.1 r1.1)) (some (undef, r1.2.1, r1.2.2))).bind fun r2 =>
 ((gv t16 false).bind fun w => cond w (ret1 r2.2.1 r2.2.2 (aBinOp P .eql 5 r2.1 (.int .u8 32))) (some (undef, r2.2.1, r2.2.2))).bind fun r3 =>
 (pickV t16 (.bool true) r3.1).bind fun t22 =>
 (aUnOp .not t22).bind fun t24 =>
 ((gv t24 true).bind fun w => cond w (ret1 r3.2.1 (r3.2.2 + 1) (some t4)) (some (undef, r3.2.1, (r3.2.2 + 1)))).bind fun r4 =>
 ((gv t24 true).bind fun w => cond w (ret1 r4.2.1 r4.2.2 (aBinOp P .lss 3 r4.1 (.int .i64 0))) (some (undef, r4.2.1, r4.2.2))).bind fun r5 =>
 (pickV t24 r5.1 (.bool false)).bind fun t28 =>
 (boolK t28
   (some { e := .normal, vs := [t0, t3, t5, t5, t22], h := r5.2.1, c := (r5.2.2 + 1), df := df })
   (some { e := .normal, vs := [t0, t3, t4, t5, t22], h := r5.2.1, c := r5.2.2, df := df }) : Option (Rt H)).bind fun r7 =>
 cond (exIs r7.e .normal)
  (((gv (r7.v 4) true).bind fun w => cond w (ret1 r7.h (r7.c + 1) (some (r7.v 2))) (some (undef, r7.h, (r7.c + 1)))).bind fun r8 =>
  ((gv (r7.v 4) true).bind fun w => cond w (ret1 r8.2.1 r8.2.2 (aBinOp P .geq 3 r8.1 (.int .i64 0))) (some (undef, r8.2.1, r8.2.2))).bind fun r9 =>
  (pickV (r7.v 4) r9.1 (.bool false)).bind fun t34 =>
  (boolK t34
    ((slStrV (r7.v 0) (some (r7.v 2)) (some (r7.v 3))).bind fun t39 =>
    (bldL [(.string (ByteArray.mk #[]))] [(0, 1, t39)]).bind fun r10 =>
    (appV (newB r9.2.1 (256 * r9.2.2 + 5) r10) (256 * r9.2.2 + 6) 1 16 (r7.v 1) (.slice (some ⟨(256 * r9.2.2 + 5), 0, none⟩) 1 1)).bind fun r11 =>
    some { e := .normal, vs := [(r7.v 0), r11.1, (.int .i64 (-1)), (r7.v 3)], h := r11.2, c := ((r9.2.2 + 1) + 1), df := r7.df })
    (some { e := .normal, vs := [(r7.v 0), (r7.v 1), (r7.v 2), (r7.v 3)], h := r9.2.1, c := r9.2.2, df := r7.df }) : Option (Rt H)).bind fun r14 =>
  cond (exIs r14.e .normal)
   ((aBinOp P .add 3 (r14.v 3) (.int .i64 1)).bind fun t12 =>
   some { e := .normal, vs := [(r14.v 0), (r14.v 1), (r14.v 2), t12], h := r14.h, c := (r14.c + 1), df := r14.df })
   (none))
  (none))
 (some { e := (.exit 0), vs := [t0, t3, t4, t5], h := h, c := (c + 1), df := df })
theorem f60_L60000_eq (o : Orc H) (rd : Option Nat) (t0 t3 t4 t5 : Value) (h : H) (c : Nat) (df : List Nat) : jx P o 43 rd f60_c60000 (tmOf [0, 3, 4, 5] [t0, t3, t4, t5]) h c df (Klp [0, 3, 4, 5]) = f60_L60000 o rd t0 t3 t4 t5 h c df := by kernel_rfl
/-- sphenoid/sphenoidref01.Words -/
noncomputable def f60_S (o : Orc H) (t0 : Value) (h : H) (c : Nat) : Option (Rt H) :=
 (o (f60_k60000 none) [t0, (.slice none 0 0), (.int .i64 (-1)), (.int .i64 0)] h ((((c + 1) + 1) + 1) + 1) []).bind fun r0 =>
 cond (exIs r0.e (.exit 0))
 ((takeAll r0.h r0.df).bind fun h1 =>
 some { e := .ret, vs := [(r0.v 1)], h := h1, c := (r0.c + 1), df := [] })
 (none)
theorem f60_S_eq (o : Orc H) (t0 : Value) (h : H) (c : Nat) : jx P o 43 none f60_c (tmOf (List.range 1) [t0]) h c [] (Kfn P Try.f60.results.toList) = f60_S o t0 h c := by kernel_rfl
theorem f60_go {t0 : Value} {h : FH} {c : Nat} {df : List Nat} {r : Rt FH} (e : f60_S G t0 h c = some r) : G (.fn 60) [t0] h c df = some (gcR h c [] r) := runG_fn (a := f60_f) bk_60 rfl (fun args h c => by cases args <;> rfl) rfl ((f60_S_eq G t0 h c).trans e)
theorem f60_N60000 {rd : Option Nat} {t0 t3 t4 t5 : Value} {h : FH} {c : Nat} {df : List Nat} {q r : Rt FH} (e : f60_L60000 G rd t0 t3 t4 t5 h c df = some q) (hq : q.e = .normal) (k : G (f60_k60000 rd) q.vs q.h q.c q.df = some r) : G (f60_k60000 rd) [t0, t3, t4, t5] h c df = some r := runG_lp_next ((f60_L60000_eq G rd t0 t3 t4 t5 h c df).trans e) hq k
theorem f60_Z60000 {rd : Option Nat} {t0 t3 t4 t5 : Value} {h : FH} {c : Nat} {df : List Nat} {q : Rt FH} (e : f60_L60000 G rd t0 t3 t4 t5 h c df = some q) (hq : q.e ≠ .normal) : G (f60_k60000 rd) [t0, t3, t4, t5] h c df = some q := runG_lp_last ((f60_L60000_eq G rd t0 t3 t4 t5 h c df).trans e) hq
noncomputable def f61_L61000 (o : Orc H) (rd : Option Nat) (t0 t2 t3 t4 t5 : Value) (h : H) (c : Nat) (df : List Nat) : Option (Rt H) :=
 (aLen P h 9 t0).bind fun t26 =>
 (aBinOp P .lss 3 t5 t26).bind fun t27 =>
 boolK t27
 ((ixStr t0 t5).bind fun t32 =>
 (aBinOp P .lss 5 t32 (.int .u8 48)).bind fun t33 =>
 ((gv t33 false).bind fun w => cond w (ret1 h ((c + 1) + 1) (some t0)) (some (undef, h, ((c + 1) + 1)))).bind fun r0 =>
 ((gv t33 false).bind fun w => cond w (ret1 r0.2.1 r0.2.2 (some t5)) (some (undef, r0.2.1, r0.2.2))).bind fun r1 =>
 ((gv t33 false).bind fun w => cond w (ret1 r1.2.1 r1.2.2 (ixStr r0.1 r1.1)) (some (undef, r1.2.1, r1.2.2))).bind fun r2 =>
 ((gv t33 false).bind fun w => cond w (ret1 r2.2.1 r2.2.2 (aBinOp P .gtr 5 r2.1 (.int .u8 57))) (some (undef, r2.2.1, r2.2.2))).bind fun r3 =>
 (pickV t33 (.bool true) r3.1).bind fun t39 =>
 boolK t39
  (some { e := .ret, vs := [t0, (.int .i64 0), (.bool false), t4, t5], h := r3.2.1, c := (r3.2.2 + 1), df := df })
  ((aBinOp P .mul 3 (.int .i64 10) t4).bind fun t41 =>
  (ixStr t0 t5).bind fun t44 =>
  (aBinOp P .sub 5 t44 (.int .u8 48)).bind fun t45 =>
  (cnvI .i64 t45).bind fun t46 =>
  (aBinOp P .add 3 t41 t46).bind fun t47 =>
  (aBinOp P .add 3 t5 (.int .i64 1)).bind fun t29 =>
  some { e := .normal, vs := [t0, t2, t3, t47, t29], h := r3.2.1, c := ((r3.2.2 + 1) + 1), df := df }))
 (some { e := (.exit 0), vs := [t0, t2, t3, t4, t5], h := h, c := (c + 1), df := df })
theorem f61_L61000_eq (o : Orc H) (rd : Option Nat) (t0 t2 t3 t4 t5 : Value) (h : H) (c : Nat) (df : List Nat) : jx P o 51 rd f61_c61000 (tmOf [0, 2, 3, 4, 5] [t0, t2, t3, t4, t5]) h c df (Klp [0, 2, 3, 4, 5]) = f61_L61000 o rd t0 t2 t3 t4 t5 h c df := by kernel_rfl
/-- sphenoid/sphenoidref01.number -/
noncomputable def f61_S (o : Orc H) (t0 : Value) (h : H) (c : Nat) : Option (Rt H) :=
 (aLen P h 9 t0).bind fun t7 =>
 (aBinOp P .lss 3 t7 (.int .i64 1)).bind fun t8 =>
 ((gv t8 false).bind fun w => cond w (ret1 h ((c + 1) + 1) (some t0)) (some (undef, h, ((c + 1) + 1)))).bind fun r0 =>
 ((gv t8 false).bind fun w => cond w (((aLen P r0.2.1 9 r0.1).bind fun v => some (v, r0.2.1)).bind fun r => some (r.1, r.2, r0.2.2)) (some (undef, r0.2.1, r0.2.2))).bind fun r1 =>
 ((gv t8 false).bind fun w => cond w (ret1 r1.2.1 r1.2.2 (aBinOp P .gtr 3 r1.1 (.int .i64 4))) (some (undef, r1.2.1, r1.2.2))).bind fun r2 =>
 (pickV t8 (.bool true) r2.1).bind fun t13 =>
 ((gv t13 false).bind fun w => cond w (ret1 r2.2.1 r2.2.2 (some t0)) (some (undef, r2.2.1, r2.2.2))).bind fun r3 =>
 ((gv t13 false).bind fun w => cond w (((aLen P r3.2.1 9 r3.1).bind fun v => some (v, r3.2.1)).bind fun r => some (r.1, r.2, r3.2.2)) (some (undef, r3.2.1, r3.2.2))).bind fun r4 =>
 ((gv t13 false).bind fun w => cond w (ret1 r4.2.1 r4.2.2 (aBinOp P .gtr 3 r4.1 (.int .i64 1))) (some (undef, r4.2.1, r4.2.2))).bind fun r5 =>
 ((gv t13 false).bind fun w => cond w (ret1 r5.2.1 r5.2.2 (some r5.1)) (some (undef, r5.2.1, r5.2.2))).bind fun r6 =>
 ((gv r6.1 true).bind fun w => cond w (ret1 r6.2.1 r6.2.2 (some t0)) (some (undef, r6.2.1, r6.2.2))).bind fun r7 =>
 ((gv r6.1 true).bind fun w => cond w (ret1 r7.2.1 r7.2.2 (ixStr r7.1 (.int .i64 0))) (some (undef, r7.2.1, r7.2.2))).bind fun r8 =>
 ((gv r6.1 true).bind fun w => cond w (ret1 r8.2.1 r8.2.2 (aBinOp P .eql 5 r8.1 (.int .u8 48))) (some (undef, r8.2.1, r8.2.2))).bind fun r9 =>
 ((gv t13 false).bind fun w => cond w (pickR r9.2.1 r9.2.2 r6.1 r9.1 (.bool false)) (some (undef, r9.2.1, r9.2.2))).bind fun r10 =>
 (pickV t13 (.bool true) r10.1).bind fun t23 =>
 boolK t23
 (some { e := .ret, vs := [.tuple #[(.int .i64 0), (.bool false)]], h := r10.2.1, c := (r10.2.2 + 1), df := [] })
 ((o (f61_k61000 none) [t0, (.int .i64 0), (.bool false), (.int .i64 0), (.int .i64 0)] r10.2.1 ((r10.2.2 + 1) + 1) []).bind fun r11 =>
 cond (exIs r11.e (.exit 0))
  ((aBinOp P .leq 3 (r11.v 3) (.int .i64 1000)).bind fun t50 =>
  (takeAll r11.h r11.df).bind fun h13 =>
  some { e := .ret, vs := [.tuple #[(r11.v 3), t50]], h := h13, c := (r11.c + 1), df := [] })
  (cond (exIs r11.e .ret)
   ((takeAll r11.h r11.df).bind fun h12 =>
   some { e := .ret, vs := [.tuple #[(r11.v 1), (r11.v 2)]], h := h12, c := r11.c, df := [] })
   (none)))
theorem f61_S_eq (o : Orc H) (t0 : Value) (h : H) (c : Nat) : jx P o 51 none f61_c (tmOf (List.range 1) [t0]) h c [] (Kfn P Try.f61.results.toList) = f61_S o t0 h c := by kernel_rfl
theorem f61_go {t0 : Value} {h : FH} {c : Nat} {df : List Nat} {r : Rt FH} (e : f61_S G t0 h c = some r) : G (.fn 61) [t0] h c df = some (gcR h c [] r) := runG_fn (a := f61_f) bk_61 rfl (fun args h c => by cases args <;> rfl) rfl ((f61_S_eq G t0 h c).trans e)
theorem f61_N61000 {rd : Option Nat} {t0 t2 t3 t4 t5 : Value} {h : FH} {c : Nat} {df : List Nat} {q r : Rt FH} (e : f61_L61000 G rd t0 t2 t3 t4 t5 h c df = some q) (hq : q.e = .normal) (k : G (f61_k61000 rd) q.vs q.h q.c q.df = some r) : G (f61_k61000 rd) [t0, t2, t3, t4, t5] h c df = some r := runG_lp_next ((f61_L61000_eq G rd t0 t2 t3 t4 t5 h c df).trans e) hq k
theorem f61_Z61000 {rd : Option Nat} {t0 t2 t3 t4 t5 : Value} {h : FH} {c : Nat} {df : List Nat} {q : Rt FH} (e : f61_L61000 G rd t0 t2 t3 t4 t5 h c df = some q) (hq : q.e ≠ .normal) : G (f61_k61000 rd) [t0, t2, t3, t4, t5] h c df = some q := runG_lp_last ((f61_L61000_eq G rd t0 t2 t3 t4 t5 h c df).trans e) hq
noncomputable def f62_L62000 (o : Orc H) (rd : Option Nat) (t0 t4 t5 : Value) (h : H) (c : Nat) (df : List Nat) : Option (Rt H) :=
 (aBinOp P .lss 3 t5 t4).bind fun t6 =>
 boolK t6
 ((aNilCheck t0).bind fun t9 =>
 (addOff t9 1).bind fun t10 =>
 (ldN h 8 t10).bind fun t11 =>
 (callF o 79 [t11] h ((c + 1) + 1)).bind fun r0 =>
 (aNilCheck t0).bind fun t13 =>
 (addOff t13 1).bind fun t14 =>
 (stN r0.2.1 8 t14 r0.1).bind fun h2 =>
 (aBinOp P .add 3 t5 (.int .i64 1)).bind fun t15 =>
 some { e := .normal, vs := [t0, t4, t15], h := h2, c := (r0.2.2 + 1), df := df })
 (some { e := (.exit 0), vs := [t0, t4, t5], h := h, c := (c + 1), df := df })
theorem f62_L62000_eq (o : Orc H) (rd : Option Nat) (t0 t4 t5 : Value) (h : H) (c : Nat) (df : List Nat) : jx P o 16 rd f62_c62000 (tmOf [0, 4, 5] [t0, t4, t5]) h c df (Klp [0, 4, 5]) = f62_L62000 o rd t0 t4 t5 h c df := by kernel_rfl
/-- (*sphenoid/lens.builder).turn -/
noncomputable def f62_S (o : Orc H) (t0 t1 : Value) (h : H) (c : Nat) : Option (Rt H) :=
 (o (f62_k62000 none) [t0, t1, (.int .i64 0)] h (c + 1) []).bind fun r0 =>
 cond (exIs r0.e (.exit 0))
 ((takeAll r0.h r0.df).bind fun h1 =>
 some { e := .ret, vs := [.tuple #[]], h := h1, c := r0.c, df := [] })
 (none)
theorem f62_S_eq (o : Orc H) (t0 t1 : Value) (h : H) (c : Nat) : jx P o 16 none f62_c (tmOf (List.range 2) [t0, t1]) h c [] (Kfn P Try.f62.results.toList) = f62_S o t0 t1 h c := by kernel_rfl
theorem f62_go {t0 t1 : Value} {h : FH} {c : Nat} {df : List Nat} {r : Rt FH} (e : f62_S G t0 t1 h c = some r) : G (.fn 62) [t0, t1] h c df = some (gcR h c [] r) := runG_fn (a := f62_f) bk_62 rfl (fun args h c => by cases args <;> rfl) rfl ((f62_S_eq G t0 t1 h c).trans e)
theorem f62_N62000 {rd : Option Nat} {t0 t4 t5 : Value} {h : FH} {c : Nat} {df : List Nat} {q r : Rt FH} (e : f62_L62000 G rd t0 t4 t5 h c df = some q) (hq : q.e = .normal) (k : G (f62_k62000 rd) q.vs q.h q.c q.df = some r) : G (f62_k62000 rd) [t0, t4, t5] h c df = some r := runG_lp_next ((f62_L62000_eq G rd t0 t4 t5 h c df).trans e) hq k
theorem f62_Z62000 {rd : Option Nat} {t0 t4 t5 : Value} {h : FH} {c : Nat} {df : List Nat} {q : Rt FH} (e : f62_L62000 G rd t0 t4 t5 h c df = some q) (hq : q.e ≠ .normal) : G (f62_k62000 rd) [t0, t4, t5] h c df = some q := runG_lp_last ((f62_L62000_eq G rd t0 t4 t5 h c df).trans e) hq
noncomputable def f63_L63000 (o : Orc H) (rd : Option Nat) (t0 t4 t5 t6 t10 t11 : Value) (h : H) (c : Nat) (df : List Nat) : Option (Rt H) :=
 (aBinOp P .lss 3 t11 (.int .i64 3)).bind fun t12 =>
 boolK t12
 ((ixV 3 false 1 t10 t11).bind fun t14 =>
 (addOff t5 1).bind fun t17 =>
 (ixA 3 1 t17 t11).bind fun t18 =>
 (ld1 h t18).bind fun t19 =>
 (ixA 4 1 t6 t14).bind fun t20 =>
 (stN h 1 t20 t19).bind fun h1 =>
 (aBinOp P .add 3 t11 (.int .i64 1)).bind fun t21 =>
 some { e := .normal, vs := [t0, t4, t5, t6, t10, t21], h := h1, c := ((((c + 1) + 1) + 1) + 1), df := df })
 (some { e := (.exit 0), vs := [t0, t4, t5, t6, t10, t11], h := h, c := (c + 1), df := df })
theorem f63_L63000_eq (o : Orc H) (rd : Option Nat) (t0 t4 t5 t6 t10 t11 : Value) (h : H) (c : Nat) (df : List Nat) : jx P o 58 rd f63_c63000 (tmOf [0, 4, 5, 6, 10, 11] [t0, t4, t5, t6, t10, t11]) h c df (Klp [0, 4, 5, 6, 10, 11]) = f63_L63000 o rd t0 t4 t5 t6 t10 t11 h c df := by kernel_rfl
/-- (*sphenoid/lens.builder).join -/
noncomputable def f63_S (o : Orc H) (t0 t1 t2 : Value) (h : H) (c : Nat) : Option (Rt H) :=
 (bif (t1 : Value).cells.toList.all isFlat then
 (bif (t2 : Value).cells.toList.all isFlat then
 (addOff (ptrTo (256 * c + 0)) 1).bind fun t9 =>
 (ldN (newB (newB (newB h (256 * c + 0) (t1 : Value).cells.toList) (256 * c + 1) (t2 : Value).cells.toList) (256 * (c + 1) + 0) [(.int .i64 0), (.int .i64 0), (.int .i64 0), (.int .i64 0)]) 3 t9).bind fun t10 =>
 (o (f63_k63000 none) [t0, (ptrTo (256 * c + 0)), (ptrTo (256 * c + 1)), (ptrTo (256 * (c + 1) + 0)), t10, (.int .i64 0)] (newB (newB (newB h (256 * c + 0) (t1 : Value).cells.toList) (256 * c + 1) (t2 : Value).cells.toList) (256 * (c + 1) + 0) [(.int .i64 0), (.int .i64 0), (.int .i64 0), (.int .i64 0)]) (((c + 1) + 1) + 1) []).bind fun r0 =>
 cond (exIs r0.e (.exit 0))
 ((ldN r0.h 4 (r0.v 1)).bind fun t22 =>
 (callF o 80 [t22] r0.h (r0.c + 1)).bind fun r1 =>
 (ldN r1.2.1 4 (r0.v 2)).bind fun t24 =>
 (callF o 80 [t24] r1.2.1 r1.2.2).bind fun r2 =>
 (ixA 4 1 (r0.v 3) r1.1).bind fun t26 =>
 (stN r2.2.1 1 t26 r2.1).bind fun h4 =>
 (bif (sameB (ridV (r0.v 2)) r0.h r1.2.1 && true) then
 (aNilCheck (r0.v 0)).bind fun t28 =>
 (addOff t28 0).bind fun t29 =>
 (addOff t29 0).bind fun t30 =>
 (ld1 h4 t30).bind fun t31 =>
 (addOff (r0.v 1) 0).bind fun t32 =>
 (ld1 h4 t32).bind fun t33 =>
 (ldN h4 4 (r0.v 1)).bind fun t34 =>
 (callF o 80 [t34] h4 (r2.2.2 + 1)).bind fun r5 =>
 (addOff (r0.v 2) 0).bind fun t36 =>
 (ld1 r5.2.1 t36).bind fun t37 =>
 (ldN r5.2.1 4 (r0.v 3)).bind fun t38 =>
 (bldV [(.int .i64 0), (.int .i64 0), (.int .i64 0), (.int .i64 0), (.int .i64 0)] [(0, 1, t37), (1, 4, t38)]).bind fun t39 =>
 (ixS 20 t31 t33).bind fun t40 =>
 (ixA 4 5 t40 r5.1).bind fun t41 =>
 (stN r5.2.1 5 t41 t39).bind fun h7 =>
 (bif (sameB (ridV t30) h4 r5.2.1 && (sameB (ridV t32) h4 r5.2.1 && (sameB (ridV t36) h4 r5.2.1 && (sameB (ridV (r0.v 3)) h4 r5.2.1 && true)))) then
 (aNilCheck (r0.v 0)).bind fun t43 =>
 (addOff t43 0).bind fun t44 =>
 (addOff t44 0).bind fun t45 =>
 (ld1 h7 t45).bind fun t46 =>
 (addOff (r0.v 2) 0).bind fun t47 =>
 (ld1 h7 t47).bind fun t48 =>
 (ldN h7 4 (r0.v 2)).bind fun t49 =>
 (callF o 80 [t49] h7 (r5.2.2 + 1)).bind fun r8 =>
 (addOff (r0.v 1) 0).bind fun t51 =>
 (ld1 r8.2.1 t51).bind fun t52 =>
 (ldN r8.2.1 4 (r0.v 3)).bind fun t53 =>
 (callF o 81 [t53] r8.2.1 r8.2.2).bind fun r9 =>
 (bldV [(.int .i64 0), (.int .i64 0), (.int .i64 0), (.int .i64 0), (.int .i64 0)] [(0, 1, t52), (1, 4, r9.1)]).bind fun t55 =>
 (ixS 20 t46 t48).bind fun t56 =>
 (ixA 4 5 t56 r8.1).bind fun t57 =>
 (stN r9.2.1 5 t57 t55).bind fun h11 =>
 (bif (sameB (ridV t45) h7 r8.2.1 && (sameB (ridV t45) r8.2.1 r9.2.1 && (sameB (ridV t47) h7 r8.2.1 && (sameB (ridV t47) r8.2.1 r9.2.1 && (sameB (ridV t51) h7 r8.2.1 && (sameB (ridV t51) r8.2.1 r9.2.1 && (sameB (ridV (r0.v 3)) h7 r8.2.1 && true))))))) then
 (takeAll h11 r0.df).bind fun h12 =>
 some { e := .ret, vs := [.tuple #[]], h := h12, c := r9.2.2, df := [] }
 else none)
 else none)
 else none))
 (none)
 else none)
 else none)
theorem f63_S_eq (o : Orc H) (t0 t1 t2 : Value) (h : H) (c : Nat) : jx P o 58 none f63_c (tmOf (List.range 3) [t0, t1, t2]) h c [] (Kfn P Try.f63.results.toList) = f63_S o t0 t1 t2 h c := by kernel_rfl
theorem f63_go {t0 t1 t2 : Value} {h : FH} {c : Nat} {df : List Nat} {r : Rt FH} (e : f63_S G t0 t1 t2 h c = some r) : G (.fn 63) [t0, t1, t2] h c df = some (gcR h c [] r) := runG_fn (a := f63_f) bk_63 rfl (fun args h c => by cases args <;> rfl) rfl ((f63_S_eq G t0 t1 t2 h c).trans e)
theorem f63_N63000 {rd : Option Nat} {t0 t4 t5 t6 t10 t11 : Value} {h : FH} {c : Nat} {df : List Nat} {q r : Rt FH} (e : f63_L63000 G rd t0 t4 t5 t6 t10 t11 h c df = some q) (hq : q.e = .normal) (k : G (f63_k63000 rd) q.vs q.h q.c q.df = some r) : G (f63_k63000 rd) [t0, t4, t5, t6, t10, t11] h c df = some r := runG_lp_next ((f63_L63000_eq G rd t0 t4 t5 t6 t10 t11 h c df).trans e) hq k
theorem f63_Z63000 {rd : Option Nat} {t0 t4 t5 t6 t10 t11 : Value} {h : FH} {c : Nat} {df : List Nat} {q : Rt FH} (e : f63_L63000 G rd t0 t4 t5 t6 t10 t11 h c df = some q) (hq : q.e ≠ .normal) : G (f63_k63000 rd) [t0, t4, t5, t6, t10, t11] h c df = some q := runG_lp_last ((f63_L63000_eq G rd t0 t4 t5 t6 t10 t11 h c df).trans e) hq
noncomputable def f64_L64000 (o : Orc H) (rd : Option Nat) (t1 t2 t3 t4 : Value) (h : H) (c : Nat) (df : List Nat) : Option (Rt H) :=
 (aBinOp P .lss 3 t4 (.int .i64 4)).bind fun t6 =>
 boolK t6
 ((ixA 4 1 t1 t4).bind fun t10 =>
 (ld1 h t10).bind fun t11 =>
 (aBinOp P .lss 3 t11 (.int .i64 0)).bind fun t12 =>
 ((gv t12 false).bind fun w => cond w (ret1 h ((c + 1) + 1) (some t4)) (some (undef, h, ((c + 1) + 1)))).bind fun r0 =>
 ((gv t12 false).bind fun w => cond w (ret1 r0.2.1 r0.2.2 (ixA 4 1 t1 r0.1)) (some (undef, r0.2.1, r0.2.2))).bind fun r1 =>
 ((gv t12 false).bind fun w => cond w (ret1 r1.2.1 r1.2.2 (ld1 r1.2.1 r1.1)) (some (undef, r1.2.1, r1.2.2))).bind fun r2 =>
 ((gv t12 false).bind fun w => cond w (ret1 r2.2.1 r2.2.2 (aBinOp P .gtr 3 r2.1 (.int .i64 3))) (some (undef, r2.2.1, r2.2.2))).bind fun r3 =>
 (pickV t12 (.bool true) r3.1).bind fun t18 =>
 ((gv t18 false).bind fun w => cond w (ret1 r3.2.1 r3.2.2 (some t4)) (some (undef, r3.2.1, r3.2.2))).bind fun r4 =>
 ((gv t18 false).bind fun w => cond w (ret1 r4.2.1 r4.2.2 (ixA 4 1 t1 r4.1)) (some (undef, r4.2.1, r4.2.2))).bind fun r5 =>
 ((gv t18 false).bind fun w => cond w (ret1 r5.2.1 r5.2.2 (ld1 r5.2.1 r5.1)) (some (undef, r5.2.1, r5.2.2))).bind fun r6 =>
 ((gv t18 false).bind fun w => cond w (ret1 r6.2.1 r6.2.2 (ixA 4 1 t3 r6.1)) (some (undef, r6.2.1, r6.2.2))).bind fun r7 =>
 ((gv t18 false).bind fun w => cond w (ret1 r7.2.1 r7.2.2 (ld1 r7.2.1 r7.1)) (some (undef, r7.2.1, r7.2.2))).bind fun r8 =>
 (pickV t18 (.bool true) r8.1).bind fun t25 =>
 boolK t25
  (some { e := .ret, vs := [t1, (.bool false), t3, t4], h := r8.2.1, c := (r8.2.2 + 1), df := df })
  ((ixA 4 1 t1 t4).bind fun t27 =>
  (ld1 r8.2.1 t27).bind fun t28 =>
  (ixA 4 1 t3 t28).bind fun t29 =>
  (stN r8.2.1 1 t29 (.bool true)).bind fun h11 =>
  (aBinOp P .add 3 t4 (.int .i64 1)).bind fun t8 =>
  some { e := .normal, vs := [t1, t2, t3, t8], h := h11, c := ((r8.2.2 + 1) + 1), df := df }))
 (some { e := (.exit 0), vs := [t1, t2, t3, t4], h := h, c := (c + 1), df := df })
theorem f64_L64000_eq (o : Orc H) (rd : Option Nat) (t1 t2 t3 t4 : Value) (h : H) (c : Nat) (df : List Nat) : jx P o 30 rd f64_c64000 (tmOf [1, 2, 3, 4] [t1, t2, t3, t4]) h c df (Klp [1, 2, 3, 4]) = f64_L64000 o rd t1 t2 t3 t4 h c df := by kernel_rfl
/-- sphenoid/sphenoidref01.Valid -/
noncomputable def f64_S (o : Orc H) (t0 : Value) (h : H) (c : Nat) : Option (Rt H) :=
 (bif (t0 : Value).cells.toList.all isFlat then
 (o (f64_k64000 none) [(ptrTo (256 * c + 0)), (.bool false), (ptrTo (256 * (c + 1) + 0)), (.int .i64 0)] (newB (newB h (256 * c + 0) (t0 : Value).cells.toList) (256 * (c + 1) + 0) [(.bool false), (.bool false), (.bool false), (.bool false)]) (((c + 1) + 1) + 1) []).bind fun r0 =>
 cond (exIs r0.e (.exit 0))
 ((takeAll r0.h r0.df).bind fun h2 =>
 some { e := .ret, vs := [(.bool true)], h := h2, c := (r0.c + 1), df := [] })
 (cond (exIs r0.e .ret)
  ((takeAll r0.h r0.df).bind fun h1 =>
  some { e := .ret, vs := [(r0.v 1)], h := h1, c := r0.c, df := [] })
  (none))
 else none)
theorem f64_S_eq (o : Orc H) (t0 : Value) (h : H) (c : Nat) : jx P o 30 none f64_c (tmOf (List.range 1) [t0]) h c [] (Kfn P Try.f64.results.toList) = f64_S o t0 h c := by kernel_rfl
theorem f64_go {t0 : Value} {h : FH} {c : Nat} {df : List Nat} {r : Rt FH} (e : f64_S G t0 h c = some r) : G (.fn 64) [t0] h c df = some (gcR h c [] r) := runG_fn (a := f64_f) bk_64 rfl (fun args h c => by cases args <;> rfl) rfl ((f64_S_eq G t0 h c).trans e)
theorem f64_N64000 {rd : Option Nat} {t1 t2 t3 t4 : Value} {h : FH} {c : Nat} {df : List Nat} {q r : Rt FH} (e : f64_L64000 G rd t1 t2 t3 t4 h c df = some q) (hq : q.e = .normal) (k : G (f64_k64000 rd) q.vs q.h q.c q.df = some r) : G (f64_k64000 rd) [t1, t2, t3, t4] h c df = some r := runG_lp_next ((f64_L64000_eq G rd t1 t2 t3 t4 h c df).trans e) hq k
theorem f64_Z64000 {rd : Option Nat} {t1 t2 t3 t4 : Value} {h : FH} {c : Nat} {df : List Nat} {q : Rt FH} (e : f64_L64000 G rd t1 t2 t3 t4 h c df = some q) (hq : q.e ≠ .normal) : G (f64_k64000 rd) [t1, t2, t3, t4] h c df = some q := runG_lp_last ((f64_L64000_eq G rd t1 t2 t3 t4 h c df).trans e) hq
/-- sphenoid/lens.positive -/
noncomputable def f67_S (o : Orc H) (t0 t1 : Value) (h : H) (c : Nat) : Option (Rt H) :=
 (aBinOp P .rem 3 t0 t1).bind fun t7 =>
 (aBinOp P .add 3 t7 t1).bind fun t9 =>
 (aBinOp P .rem 3 t9 t1).bind fun t11 =>
 some { e := .ret, vs := [t11], h := h, c := ((c + 1) + 1), df := [] }
theorem f67_S_eq (o : Orc H) (t0 t1 : Value) (h : H) (c : Nat) : jx P o 12 none f67_c (tmOf (List.range 2) [t0, t1]) h c [] (Kfn P Try.f67.results.toList) = f67_S o t0 t1 h c := by kernel_rfl
theorem f67_go {t0 t1 : Value} {h : FH} {c : Nat} {df : List Nat} {r : Rt FH} (e : f67_S G t0 t1 h c = some r) : G (.fn 67) [t0, t1] h c df = some (gcR h c [] r) := runG_fn (a := f67_f) bk_67 rfl (fun args h c => by cases args <;> rfl) rfl ((f67_S_eq G t0 t1 h c).trans e)
/-- sphenoid/lens.first -/
noncomputable def f69_S (o : Orc H) (h : H) (c : Nat) : Option (Rt H) :=
 (bldV [(.slice none 0 0), (.int .i64 0), (.int .i64 0), (.int .i64 0), (.int .i64 0), (.int .i64 0), (.int .i64 0), (.int .i64 0), (.int .i64 0)] []).bind fun t2 =>
 (bif (t2 : Value).cells.toList.all isFlat then
 (bldV [(.int .i64 0), (.int .i64 0), (.int .i64 0), (.int .i64 0), (.int .i64 0)] [(0, 1, (.int .i64 (-1)))]).bind fun t5 =>
 (bldV [(.int .i64 0), (.int .i64 0), (.int .i64 0), (.int .i64 0), (.int .i64 0)] [(0, 1, (.int .i64 (-1)))]).bind fun t6 =>
 (bldV [(.int .i64 0), (.int .i64 0), (.int .i64 0), (.int .i64 0), (.int .i64 0)] [(0, 1, (.int .i64 (-1)))]).bind fun t7 =>
 (bldV [(.int .i64 0), (.int .i64 0), (.int .i64 0), (.int .i64 0), (.int .i64 0)] [(0, 1, (.int .i64 (-1)))]).bind fun t8 =>
 (bldV [(.int .i64 0), (.int .i64 0), (.int .i64 0), (.int .i64 0), (.int .i64 0), (.int .i64 0), (.int .i64 0), (.int .i64 0), (.int .i64 0), (.int .i64 0), (.int .i64 0), (.int .i64 0), (.int .i64 0), (.int .i64 0), (.int .i64 0), (.int .i64 0), (.int .i64 0), (.int .i64 0), (.int .i64 0), (.int .i64 0)] [(0, 5, t5), (5, 5, t6), (10, 5, t7), (15, 5, t8)]).bind fun t9 =>
 (bldL [(.int .i64 0), (.int .i64 0), (.int .i64 0), (.int .i64 0), (.int .i64 0), (.int .i64 0), (.int .i64 0), (.int .i64 0), (.int .i64 0), (.int .i64 0), (.int .i64 0), (.int .i64 0), (.int .i64 0), (.int .i64 0), (.int .i64 0), (.int .i64 0), (.int .i64 0), (.int .i64 0), (.int .i64 0), (.int .i64 0)] [(0, 20, t9)]).bind fun r0 =>
 (aNilCheck (ptrTo (256 * (c + 1) + 1))).bind fun t11 =>
 (addOff t11 0).bind fun t12 =>
 (addOff t12 0).bind fun t13 =>
 (stN (newB (newB h (256 * (c + 1) + 1) (t2 : Value).cells.toList) (256 * ((c + 1) + 1) + 6) r0) 1 t13 (.slice (some ⟨(256 * ((c + 1) + 1) + 6), 0, none⟩) 1 1)).bind fun h2 =>
 (bldV [(.int .i64 0), (.int .i64 0), (.int .i64 0)] [(0, 1, (.int .i64 1)), (1, 1, (.int .i64 2)), (2, 1, (.int .i64 3))]).bind fun t15 =>
 (bldV [(.int .i64 0), (.int .i64 0), (.int .i64 0), (.int .i64 0)] [(0, 1, (.int .i64 0)), (1, 3, t15)]).bind fun t16 =>
 (bldV [(.int .i64 0), (.int .i64 0), (.int .i64 0)] [(0, 1, (.int .i64 0)), (1, 1, (.int .i64 1)), (2, 1, (.int .i64 2))]).bind fun t17 =>
 (bldV [(.int .i64 0), (.int .i64 0), (.int .i64 0), (.int .i64 0)] [(0, 1, (.int .i64 0)), (1, 3, t17)]).bind fun t18 =>
 (callF o 63 [(ptrTo (256 * (c + 1) + 1)), t16, t18] h2 ((((c + 1) + 1) + 1) + 1)).bind fun r3 =>
 (bldV [(.int .i64 0), (.int .i64 0), (.int .i64 0)] [(0, 1, (.int .i64 0)), (1, 1, (.int .i64 1)), (2, 1, (.int .i64 3))]).bind fun t21 =>
 (bldV [(.int .i64 0), (.int .i64 0), (.int .i64 0), (.int .i64 0)] [(0, 1, (.int .i64 0)), (1, 3, t21)]).bind fun t22 =>
 (bldV [(.int .i64 0), (.int .i64 0), (.int .i64 0)] [(0, 1, (.int .i64 0)), (1, 1, (.int .i64 2)), (2, 1, (.int .i64 3))]).bind fun t23 =>
 (bldV [(.int .i64 0), (.int .i64 0), (.int .i64 0), (.int .i64 0)] [(0, 1, (.int .i64 0)), (1, 3, t23)]).bind fun t24 =>
 (bldV [(.int .i64 0), (.int .i64 0), (.int .i64 0), (.int .i64 0), (.int .i64 0), (.int .i64 0), (.int .i64 0), (.int .i64 0)] [(0, 4, t22), (4, 4, t24)]).bind fun t25 =>
 (aNilCheck (ptrTo (256 * (c + 1) + 1))).bind fun t26 =>
 (addOff t26 1).bind fun t27 =>
 (stN r3.2.1 8 t27 t25).bind fun h5 =>
 some { e := .ret, vs := [(ptrTo (256 * (c + 1) + 1))], h := h5, c := ((r3.2.2 + 1) + 1), df := [] }
 else none)
theorem f69_S_eq (o : Orc H) (h : H) (c : Nat) : jx P o 29 none f69_c (tmOf (List.range 0) []) h c [] (Kfn P Try.f69.results.toList) = f69_S o h c := by kernel_rfl
theorem f69_go {h : FH} {c : Nat} {df : List Nat} {r : Rt FH} (e : f69_S G h c = some r) : G (.fn 69) [] h c df = some (gcR h c [] r) := runG_fn (a := f69_f) bk_69 rfl (fun args h c => by cases args <;> rfl) rfl ((f69_S_eq G h c).trans e)
end Go.Proofs.Ytdbiilapiloaiaa
