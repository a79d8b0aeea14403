/- The shallow texts of the functions, with their equations. Printed by a program. -/
import Derived.Test.YtdbiilapiloaiaaK
set_option linter.all false
namespace Go.Proofs.Ytdbiilapiloaiaa
open Go Go.Ab Go.Proofs
set_option maxRecDepth 100000
set_option linter.unusedVariables false
variable {H : Type} [HeapC H]
/-- (*sphenoid/lens.builder).layer -/
noncomputable def f70_S (o : Orc H) (t0 : Value) (h : H) (c : Nat) : Option (Rt H) :=
 (aNilCheck t0).bind fun t4 =>
 (addOff t4 0).bind fun t5 =>
 (addOff t5 0).bind fun t6 =>
 (ld1 h t6).bind fun t7 =>
 (lenS t7).bind fun t8 =>
 (aNilCheck t0).bind fun t11 =>
 (addOff t11 0).bind fun t12 =>
 (addOff t12 0).bind fun t13 =>
 (ld1 h t13).bind fun t14 =>
 (bldV [(.int .i64 0), (.int .i64 0), (.int .i64 0), (.int .i64 0), (.int .i64 0)] [(0, 1, (.int .i64 (-1)))]).bind fun t15 =>
 (bldV [(.int .i64 0), (.int .i64 0), (.int .i64 0), (.int .i64 0), (.int .i64 0)] [(0, 1, (.int .i64 (-1)))]).bind fun t16 =>
 (bldV [(.int .i64 0), (.int .i64 0), (.int .i64 0), (.int .i64 0), (.int .i64 0)] [(0, 1, (.int .i64 (-1)))]).bind fun t17 =>
 (bldV [(.int .i64 0), (.int .i64 0), (.int .i64 0), (.int .i64 0), (.int .i64 0)] [(0, 1, (.int .i64 (-1)))]).bind fun t18 =>
 (bldV [(.int .i64 0), (.int .i64 0), (.int .i64 0), (.int .i64 0), (.int .i64 0), (.int .i64 0), (.int .i64 0), (.int .i64 0), (.int .i64 0), (.int .i64 0), (.int .i64 0), (.int .i64 0), (.int .i64 0), (.int .i64 0), (.int .i64 0), (.int .i64 0), (.int .i64 0), (.int .i64 0), (.int .i64 0), (.int .i64 0)] [(0, 5, t15), (5, 5, t16), (10, 5, t17), (15, 5, t18)]).bind fun t19 =>
 (bldL [(.int .i64 0), (.int .i64 0), (.int .i64 0), (.int .i64 0), (.int .i64 0), (.int .i64 0), (.int .i64 0), (.int .i64 0), (.int .i64 0), (.int .i64 0), (.int .i64 0), (.int .i64 0), (.int .i64 0), (.int .i64 0), (.int .i64 0), (.int .i64 0), (.int .i64 0), (.int .i64 0), (.int .i64 0), (.int .i64 0)] [(0, 20, t19)]).bind fun r0 =>
 (appV (newB h (256 * (c + 1) + 11) r0) (256 * (c + 1) + 12) 20 160 t14 (.slice (some ⟨(256 * (c + 1) + 11), 0, none⟩) 1 1)).bind fun r1 =>
 (aNilCheck t0).bind fun t22 =>
 (addOff t22 0).bind fun t23 =>
 (addOff t23 0).bind fun t24 =>
 (stN r1.2 1 t24 r1.1).bind fun h3 =>
 (bldV [(.int .i64 0), (.int .i64 0), (.int .i64 0)] [(0, 1, (.int .i64 0)), (1, 1, (.int .i64 1)), (2, 1, (.int .i64 2))]).bind fun t27 =>
 (bldV [(.int .i64 0), (.int .i64 0), (.int .i64 0), (.int .i64 0)] [(0, 1, t8), (1, 3, t27)]).bind fun t28 =>
 (aNilCheck t0).bind fun t30 =>
 (addOff t30 1).bind fun t31 =>
 (addOff t31 0).bind fun t32 =>
 (ldN h3 4 t32).bind fun t33 =>
 (callF o 63 [t0, t28, t33] h3 (((c + 1) + 1) + 1)).bind fun r4 =>
 (bldV [(.int .i64 0), (.int .i64 0), (.int .i64 0)] [(0, 1, (.int .i64 0)), (1, 1, (.int .i64 3)), (2, 1, (.int .i64 2))]).bind fun t37 =>
 (bldV [(.int .i64 0), (.int .i64 0), (.int .i64 0), (.int .i64 0)] [(0, 1, t8), (1, 3, t37)]).bind fun t38 =>
 (aNilCheck t0).bind fun t40 =>
 (addOff t40 1).bind fun t41 =>
 (addOff t41 4).bind fun t42 =>
 (ldN r4.2.1 4 t42).bind fun t43 =>
 (callF o 63 [t0, t38, t43] r4.2.1 (r4.2.2 + 1)).bind fun r5 =>
 (bldV [(.int .i64 0), (.int .i64 0), (.int .i64 0)] [(0, 1, (.int .i64 0)), (1, 1, (.int .i64 1)), (2, 1, (.int .i64 3))]).bind fun t47 =>
 (bldV [(.int .i64 0), (.int .i64 0), (.int .i64 0), (.int .i64 0)] [(0, 1, t8), (1, 3, t47)]).bind fun t48 =>
 (bldV [(.int .i64 0), (.int .i64 0), (.int .i64 0)] [(0, 1, (.int .i64 1)), (1, 1, (.int .i64 3)), (2, 1, (.int .i64 2))]).bind fun t50 =>
 (bldV [(.int .i64 0), (.int .i64 0), (.int .i64 0), (.int .i64 0)] [(0, 1, t8), (1, 3, t50)]).bind fun t51 =>
 (bldV [(.int .i64 0), (.int .i64 0), (.int .i64 0), (.int .i64 0), (.int .i64 0), (.int .i64 0), (.int .i64 0), (.int .i64 0)] [(0, 4, t48), (4, 4, t51)]).bind fun t52 =>
 (aNilCheck t0).bind fun t53 =>
 (addOff t53 1).bind fun t54 =>
 (stN r5.2.1 8 t54 t52).bind fun h7 =>
 some { e := .ret, vs := [.tuple #[]], h := h7, c := (r5.2.2 + 1), df := [] }
theorem f70_S_eq (o : Orc H) (t0 : Value) (h : H) (c : Nat) : jx P o 55 none f70_c (tmOf (List.range 1) [t0]) h c [] (Kfn P Try.f70.results.toList) = f70_S o t0 h c := by kernel_rfl
theorem f70_go {t0 : Value} {h : FH} {c : Nat} {df : List Nat} {r : Rt FH} (e : f70_S G t0 h c = some r) : G (.fn 70) [t0] h c df = some (gcR h c [] r) := runG_fn (a := f70_f) bk_70 rfl (fun args h c => by cases args <;> rfl) rfl ((f70_S_eq G t0 h c).trans e)
/-- sphenoid/glue.faces -/
noncomputable def f71_S (o : Orc H) (t0 : Value) (h : H) (c : Nat) : Option (Rt H) :=
 (bif (t0 : Value).cells.toList.all isFlat then
 some { e := .ret, vs := [(.func (.func 86) [].toArray [(ptrTo (256 * c + 0))].toArray)], h := (newB h (256 * c + 0) (t0 : Value).cells.toList), c := ((c + 1) + 1), df := [] }
 else none)
theorem f71_S_eq (o : Orc H) (t0 : Value) (h : H) (c : Nat) : jx P o 4 none f71_c (tmOf (List.range 1) [t0]) h c [] (Kfn P Try.f71.results.toList) = f71_S o t0 h c := by kernel_rfl
theorem f71_go {t0 : Value} {h : FH} {c : Nat} {df : List Nat} {r : Rt FH} (e : f71_S G t0 h c = some r) : G (.fn 71) [t0] h c df = some (gcR h c [] r) := runG_fn (a := f71_f) bk_71 rfl (fun args h c => by cases args <;> rfl) rfl ((f71_S_eq G t0 h c).trans e)
noncomputable def f72_L72000 (o : Orc H) (rd : Option Nat) (t2 t3 t6 t7 : Value) (h : H) (c : Nat) (df : List Nat) : Option (Rt H) :=
 (aBinOp P .lss 3 t7 (.int .i64 4)).bind fun t8 =>
 boolK t8
 ((ixV 4 false 1 t6 t7).bind fun t9 =>
 (aBinOp P .lss 3 t9 (.int .i64 0)).bind fun t11 =>
 ((gv t11 false).bind fun w => cond w (ret1 h (((c + 1) + 1) + 1) (some t9)) (some (undef, h, (((c + 1) + 1) + 1)))).bind fun r0 =>
 ((gv t11 false).bind fun w => cond w (ret1 r0.2.1 r0.2.2 (aBinOp P .gtr 3 r0.1 (.int .i64 3))) (some (undef, r0.2.1, r0.2.2))).bind fun r1 =>
 (pickV t11 (.bool true) r1.1).bind fun t15 =>
 boolK t15
  (some { e := .ret, vs := [(.bool false), t3, t6, t7], h := r1.2.1, c := (r1.2.2 + 1), df := df })
  ((aBinOp P .shl 3 (.int .i64 1) t9).bind fun t18 =>
  (aBinOp P .or 3 t3 t18).bind fun t19 =>
  (aBinOp P .add 3 t7 (.int .i64 1)).bind fun t20 =>
  some { e := .normal, vs := [t2, t19, t6, t20], h := r1.2.1, c := ((r1.2.2 + 1) + 1), df := df }))
 (some { e := (.exit 0), vs := [t2, t3, t6, t7], h := h, c := (c + 1), df := df })
theorem f72_L72000_eq (o : Orc H) (rd : Option Nat) (t2 t3 t6 t7 : Value) (h : H) (c : Nat) (df : List Nat) : jx P o 23 rd f72_c72000 (tmOf [2, 3, 6, 7] [t2, t3, t6, t7]) h c df (Klp [2, 3, 6, 7]) = f72_L72000 o rd t2 t3 t6 t7 h c df := by kernel_rfl
/-- sphenoid/glue.Valid -/
noncomputable def f72_S (o : Orc H) (t0 : Value) (h : H) (c : Nat) : Option (Rt H) :=
 (bif (t0 : Value).cells.toList.all isFlat then
 (ldN (newB h (256 * c + 0) (t0 : Value).cells.toList) 4 (ptrTo (256 * c + 0))).bind fun t6 =>
 (o (f72_k72000 none) [(.bool false), (.int .i64 0), t6, (.int .i64 0)] (newB h (256 * c + 0) (t0 : Value).cells.toList) (((c + 1) + 1) + 1) []).bind fun r0 =>
 cond (exIs r0.e (.exit 0))
 ((aBinOp P .eql 3 (r0.v 1) (.int .i64 15)).bind fun t22 =>
 (takeAll r0.h r0.df).bind fun h2 =>
 some { e := .ret, vs := [t22], h := h2, c := (r0.c + 1), df := [] })
 (cond (exIs r0.e .ret)
  ((takeAll r0.h r0.df).bind fun h1 =>
  some { e := .ret, vs := [(r0.v 0)], h := h1, c := r0.c, df := [] })
  (none))
 else none)
theorem f72_S_eq (o : Orc H) (t0 : Value) (h : H) (c : Nat) : jx P o 23 none f72_c (tmOf (List.range 1) [t0]) h c [] (Kfn P Try.f72.results.toList) = f72_S o t0 h c := by kernel_rfl
theorem f72_go {t0 : Value} {h : FH} {c : Nat} {df : List Nat} {r : Rt FH} (e : f72_S G t0 h c = some r) : G (.fn 72) [t0] h c df = some (gcR h c [] r) := runG_fn (a := f72_f) bk_72 rfl (fun args h c => by cases args <;> rfl) rfl ((f72_S_eq G t0 h c).trans e)
theorem f72_N72000 {rd : Option Nat} {t2 t3 t6 t7 : Value} {h : FH} {c : Nat} {df : List Nat} {q r : Rt FH} (e : f72_L72000 G rd t2 t3 t6 t7 h c df = some q) (hq : q.e = .normal) (k : G (f72_k72000 rd) q.vs q.h q.c q.df = some r) : G (f72_k72000 rd) [t2, t3, t6, t7] h c df = some r := runG_lp_next ((f72_L72000_eq G rd t2 t3 t6 t7 h c df).trans e) hq k
theorem f72_Z72000 {rd : Option Nat} {t2 t3 t6 t7 : Value} {h : FH} {c : Nat} {df : List Nat} {q : Rt FH} (e : f72_L72000 G rd t2 t3 t6 t7 h c df = some q) (hq : q.e ≠ .normal) : G (f72_k72000 rd) [t2, t3, t6, t7] h c df = some q := runG_lp_last ((f72_L72000_eq G rd t2 t3 t6 t7 h c df).trans e) hq
noncomputable def f73_L73000 (o : Orc H) (rd : Option Nat) (t2 t3 t6 t7 : Value) (h : H) (c : Nat) (df : List Nat) : Option (Rt H) :=
 (aBinOp P .lss 3 t7 (.int .i64 4)).bind fun t8 =>
 boolK t8
 ((ixV 4 false 1 t6 t7).bind fun t10 =>
 (ixA 4 1 t3 t10).bind fun t13 =>
 (stN h 1 t13 t7).bind fun h1 =>
 (aBinOp P .add 3 t7 (.int .i64 1)).bind fun t14 =>
 some { e := .normal, vs := [t2, t3, t6, t14], h := h1, c := ((((c + 1) + 1) + 1) + 1), df := df })
 (some { e := (.exit 0), vs := [t2, t3, t6, t7], h := h, c := (c + 1), df := df })
theorem f73_L73000_eq (o : Orc H) (rd : Option Nat) (t2 t3 t6 t7 : Value) (h : H) (c : Nat) (df : List Nat) : jx P o 16 rd f73_c73000 (tmOf [2, 3, 6, 7] [t2, t3, t6, t7]) h c df (Klp [2, 3, 6, 7]) = f73_L73000 o rd t2 t3 t6 t7 h c df := by kernel_rfl
/-- sphenoid/glue.inverse -/
noncomputable def f73_S (o : Orc H) (t0 : Value) (h : H) (c : Nat) : Option (Rt H) :=
 (bif (t0 : Value).cells.toList.all isFlat then
 (ldN (newB (newB (newB h (256 * c + 0) (t0 : Value).cells.toList) (256 * c + 1) [(.int .i64 0), (.int .i64 0), (.int .i64 0), (.int .i64 0)]) (256 * (c + 1) + 0) [(.int .i64 0), (.int .i64 0), (.int .i64 0), (.int .i64 0)]) 4 (ptrTo (256 * c + 0))).bind fun t6 =>
 (o (f73_k73000 none) [(ptrTo (256 * c + 1)), (ptrTo (256 * (c + 1) + 0)), t6, (.int .i64 0)] (newB (newB (newB h (256 * c + 0) (t0 : Value).cells.toList) (256 * c + 1) [(.int .i64 0), (.int .i64 0), (.int .i64 0), (.int .i64 0)]) (256 * (c + 1) + 0) [(.int .i64 0), (.int .i64 0), (.int .i64 0), (.int .i64 0)]) (((c + 1) + 1) + 1) []).bind fun r0 =>
 cond (exIs r0.e (.exit 0))
 ((ldN r0.h 4 (r0.v 1)).bind fun t15 =>
 (stN r0.h 4 (r0.v 0) t15).bind fun h2 =>
 (takeAll h2 r0.df).bind fun h3 =>
 (ldN h3 4 (r0.v 0)).bind fun v4 =>
 some { e := .ret, vs := [v4], h := h3, c := (r0.c + 1), df := [] })
 (none)
 else none)
theorem f73_S_eq (o : Orc H) (t0 : Value) (h : H) (c : Nat) : jx P o 16 none f73_c (tmOf (List.range 1) [t0]) h c [] (Kfn P Try.f73.results.toList) = f73_S o t0 h c := by kernel_rfl
theorem f73_go {t0 : Value} {h : FH} {c : Nat} {df : List Nat} {r : Rt FH} (e : f73_S G t0 h c = some r) : G (.fn 73) [t0] h c df = some (gcR h c [] r) := runG_fn (a := f73_f) bk_73 rfl (fun args h c => by cases args <;> rfl) rfl ((f73_S_eq G t0 h c).trans e)
theorem f73_N73000 {rd : Option Nat} {t2 t3 t6 t7 : Value} {h : FH} {c : Nat} {df : List Nat} {q r : Rt FH} (e : f73_L73000 G rd t2 t3 t6 t7 h c df = some q) (hq : q.e = .normal) (k : G (f73_k73000 rd) q.vs q.h q.c q.df = some r) : G (f73_k73000 rd) [t2, t3, t6, t7] h c df = some r := runG_lp_next ((f73_L73000_eq G rd t2 t3 t6 t7 h c df).trans e) hq k
theorem f73_Z73000 {rd : Option Nat} {t2 t3 t6 t7 : Value} {h : FH} {c : Nat} {df : List Nat} {q : Rt FH} (e : f73_L73000 G rd t2 t3 t6 t7 h c df = some q) (hq : q.e ≠ .normal) : G (f73_k73000 rd) [t2, t3, t6, t7] h c df = some q := runG_lp_last ((f73_L73000_eq G rd t2 t3 t6 t7 h c df).trans e) hq
noncomputable def f74_L74000 (o : Orc H) (rd : Option Nat) (t2 t6 t7 t8 : Value) (h : H) (c : Nat) (df : List Nat) : Option (Rt H) :=
 (aBinOp P .lss 3 t8 t7).bind fun t9 =>
 boolK t9
 ((ixS 1 t6 t8).bind fun t10 =>
 (ldN h 1 t10).bind fun t11 =>
 (stN (newB h (256 * (c + 1) + 2) [(.slice none 0 0)]) 1 (ptrTo (256 * (c + 1) + 2)) t11).bind fun h1 =>
 (ldN h1 1 (ptrTo (256 * (c + 1) + 2))).bind fun t12 =>
 (callF o 48 [t12] h1 (((c + 1) + 1) + 1)).bind fun r2 =>
 (aBinOp P .neq 31 r2.1 (.int .i64 0)).bind fun t15 =>
 boolK t15
  (some { e := .ret, vs := [r2.1, t6, t7, t8], h := r2.2.1, c := ((r2.2.2 + 1) + 1), df := df })
  ((aBinOp P .add 3 t8 (.int .i64 1)).bind fun t17 =>
  some { e := .normal, vs := [t2, t6, t7, t17], h := r2.2.1, c := ((r2.2.2 + 1) + 1), df := df }))
 (some { e := (.exit 0), vs := [t2, t6, t7, t8], h := h, c := (c + 1), df := df })
theorem f74_L74000_eq (o : Orc H) (rd : Option Nat) (t2 t6 t7 t8 : Value) (h : H) (c : Nat) (df : List Nat) : jx P o 18 rd f74_c74000 (tmOf [2, 6, 7, 8] [t2, t6, t7, t8]) h c df (Klp [2, 6, 7, 8]) = f74_L74000 o rd t2 t6 t7 t8 h c df := by kernel_rfl
/-- sphenoid/iso.checked -/
noncomputable def f74_S (o : Orc H) (t0 : Value) (h : H) (c : Nat) : Option (Rt H) :=
 (lenS t0).bind fun t7 =>
 (o (f74_k74000 none) [(.int .i64 0), t0, t7, (.int .i64 0)] h ((c + 1) + 1) []).bind fun r0 =>
 cond (exIs r0.e (.exit 0))
 ((takeAll r0.h r0.df).bind fun h2 =>
 some { e := .ret, vs := [(.int .i64 0)], h := h2, c := (r0.c + 1), df := [] })
 (cond (exIs r0.e .ret)
  ((takeAll r0.h r0.df).bind fun h1 =>
  some { e := .ret, vs := [(r0.v 0)], h := h1, c := r0.c, df := [] })
  (none))
theorem f74_S_eq (o : Orc H) (t0 : Value) (h : H) (c : Nat) : jx P o 18 none f74_c (tmOf (List.range 1) [t0]) h c [] (Kfn P Try.f74.results.toList) = f74_S o t0 h c := by kernel_rfl
theorem f74_go {t0 : Value} {h : FH} {c : Nat} {df : List Nat} {r : Rt FH} (e : f74_S G t0 h c = some r) : G (.fn 74) [t0] h c df = some (gcR h c [] r) := runG_fn (a := f74_f) bk_74 rfl (fun args h c => by cases args <;> rfl) rfl ((f74_S_eq G t0 h c).trans e)
theorem f74_N74000 {rd : Option Nat} {t2 t6 t7 t8 : Value} {h : FH} {c : Nat} {df : List Nat} {q r : Rt FH} (e : f74_L74000 G rd t2 t6 t7 t8 h c df = some q) (hq : q.e = .normal) (k : G (f74_k74000 rd) q.vs q.h q.c q.df = some r) : G (f74_k74000 rd) [t2, t6, t7, t8] h c df = some r := runG_lp_next ((f74_L74000_eq G rd t2 t6 t7 t8 h c df).trans e) hq k
theorem f74_Z74000 {rd : Option Nat} {t2 t6 t7 t8 : Value} {h : FH} {c : Nat} {df : List Nat} {q : Rt FH} (e : f74_L74000 G rd t2 t6 t7 t8 h c df = some q) (hq : q.e ≠ .normal) : G (f74_k74000 rd) [t2, t6, t7, t8] h c df = some q := runG_lp_last ((f74_L74000_eq G rd t2 t6 t7 t8 h c df).trans e) hq
noncomputable def f75_L75002 (o : Orc H) (rd : Option Nat) (t2 t3 t4 t5 t7 t8 t10 t13 t14 t15 t25 t26 t27 t31 : Value) (h : H) (c : Nat) (df : List Nat) : Option (Rt H) :=
 (aBinOp P .lss 3 t31 (.int .i64 4)).bind fun t32 =>
 boolK t32
 ((ixA 4 5 t10 t31).bind fun t35 =>
 (addOff t35 0).bind fun t36 =>
 (ld1 h t36).bind fun t37 =>
 (aBinOp P .geq 3 t37 (.int .i64 0)).bind fun t38 =>
 (boolK t38
   ((ixA 4 5 t10 t31).bind fun t40 =>
   (addOff t40 0).bind fun t41 =>
   (ld1 h t41).bind fun t42 =>
   (aBinOp P .add 3 t42 t8).bind fun t44 =>
   (ixA 4 5 t10 t31).bind fun t45 =>
   (addOff t45 0).bind fun t46 =>
   (stN h 1 t46 t44).bind fun h1 =>
   some { e := .normal, vs := [t2, t3, t4, t5, t7, t8, t10, t13, t14, t15, t25, t26, t27, t31], h := h1, c := ((((c + 1) + 1) + 1) + 1), df := df })
   (some { e := .normal, vs := [t2, t3, t4, t5, t7, t8, t10, t13, t14, t15, t25, t26, t27, t31], h := h, c := (((c + 1) + 1) + 1), df := df }) : Option (Rt H)).bind fun r2 =>
 cond (exIs r2.e .normal)
  ((aBinOp P .add 3 (r2.v 13) (.int .i64 1)).bind fun t47 =>
  some { e := .normal, vs := [(r2.v 0), (r2.v 1), (r2.v 2), (r2.v 3), (r2.v 4), (r2.v 5), (r2.v 6), (r2.v 7), (r2.v 8), (r2.v 9), (r2.v 10), (r2.v 11), (r2.v 12), t47], h := r2.h, c := (r2.c + 1), df := r2.df })
  (none))
 (some { e := (.exit 4), vs := [t2, t3, t4, t5, t7, t8, t10, t13, t14, t15, t25, t26, t27, t31], h := h, c := (c + 1), df := df })
theorem f75_L75002_eq (o : Orc H) (rd : Option Nat) (t2 t3 t4 t5 t7 t8 t10 t13 t14 t15 t25 t26 t27 t31 : Value) (h : H) (c : Nat) (df : List Nat) : jx P o 76 rd f75_c75002 (tmOf [2, 3, 4, 5, 7, 8, 10, 13, 14, 15, 25, 26, 27, 31] [t2, t3, t4, t5, t7, t8, t10, t13, t14, t15, t25, t26, t27, t31]) h c df (Klp [2, 3, 4, 5, 7, 8, 10, 13, 14, 15, 25, 26, 27, 31]) = f75_L75002 o rd t2 t3 t4 t5 t7 t8 t10 t13 t14 t15 t25 t26 t27 t31 h c df := by kernel_rfl
noncomputable def f75_L75001 (o : Orc H) (rd : Option Nat) (t2 t3 t4 t5 t7 t8 t13 t14 t15 t25 t26 t27 : Value) (h : H) (c : Nat) (df : List Nat) : Option (Rt H) :=
 (aBinOp P .lss 3 t27 t26).bind fun t28 =>
 boolK t28
 ((ixS 20 t25 t27).bind fun t29 =>
 (ldN h 20 t29).bind fun t30 =>
 (stN (newB h (256 * (c + 1) + 2) [(.int .i64 0), (.int .i64 0), (.int .i64 0), (.int .i64 0), (.int .i64 0), (.int .i64 0), (.int .i64 0), (.int .i64 0), (.int .i64 0), (.int .i64 0), (.int .i64 0), (.int .i64 0), (.int .i64 0), (.int .i64 0), (.int .i64 0), (.int .i64 0), (.int .i64 0), (.int .i64 0), (.int .i64 0), (.int .i64 0)]) 20 (ptrTo (256 * (c + 1) + 2)) t30).bind fun h1 =>
 (o (f75_k75002 rd) [t2, t3, t4, t5, t7, t8, (ptrTo (256 * (c + 1) + 2)), t13, t14, t15, t25, t26, t27, (.int .i64 0)] h1 (((c + 1) + 1) + 1) df).bind fun r2 =>
 cond (exIs r2.e (.exit 4))
  ((addOff (r2.v 2) 0).bind fun t48 =>
  (ld1 r2.h t48).bind fun t49 =>
  (ldN r2.h 20 (r2.v 6)).bind fun t50 =>
  (bldL [(.int .i64 0), (.int .i64 0), (.int .i64 0), (.int .i64 0), (.int .i64 0), (.int .i64 0), (.int .i64 0), (.int .i64 0), (.int .i64 0), (.int .i64 0), (.int .i64 0), (.int .i64 0), (.int .i64 0), (.int .i64 0), (.int .i64 0), (.int .i64 0), (.int .i64 0), (.int .i64 0), (.int .i64 0), (.int .i64 0)] [(0, 20, t50)]).bind fun r3 =>
  (appV (newB r2.h (256 * r2.c + 3) r3) (256 * r2.c + 4) 20 160 t49 (.slice (some ⟨(256 * r2.c + 3), 0, none⟩) 1 1)).bind fun r4 =>
  (addOff (r2.v 2) 0).bind fun t53 =>
  (stN r4.2 1 t53 r4.1).bind fun h6 =>
  (aBinOp P .add 3 (r2.v 12) (.int .i64 1)).bind fun t54 =>
  some { e := .normal, vs := [(r2.v 0), (r2.v 1), (r2.v 2), (r2.v 3), (r2.v 4), (r2.v 5), (r2.v 7), (r2.v 8), (r2.v 9), (r2.v 10), (r2.v 11), t54], h := h6, c := ((r2.c + 1) + 1), df := r2.df })
  (none))
 (some { e := (.exit 2), vs := [t2, t3, t4, t5, t7, t8, t13, t14, t15, t25, t26, t27], h := h, c := (c + 1), df := df })
theorem f75_L75001_eq (o : Orc H) (rd : Option Nat) (t2 t3 t4 t5 t7 t8 t13 t14 t15 t25 t26 t27 : Value) (h : H) (c : Nat) (df : List Nat) : jx P o 76 rd f75_c75001 (tmOf [2, 3, 4, 5, 7, 8, 13, 14, 15, 25, 26, 27] [t2, t3, t4, t5, t7, t8, t13, t14, t15, t25, t26, t27]) h c df (Klp [2, 3, 4, 5, 7, 8, 13, 14, 15, 25, 26, 27]) = f75_L75001 o rd t2 t3 t4 t5 t7 t8 t13 t14 t15 t25 t26 t27 h c df := by kernel_rfl
noncomputable def f75_L75000 (o : Orc H) (rd : Option Nat) (t2 t3 t4 t5 t13 t14 t15 : Value) (h : H) (c : Nat) (df : List Nat) : Option (Rt H) :=
 (aBinOp P .lss 3 t15 t14).bind fun t16 =>
 boolK t16
 ((ixS 1 t13 t15).bind fun t17 =>
 (ld1 h t17).bind fun t18 =>
 (addOff t4 0).bind fun t19 =>
 (ld1 h t19).bind fun t20 =>
 (lenS t20).bind fun t21 =>
 (aNilCheck t18).bind fun t23 =>
 (addOff t23 4).bind fun t24 =>
 (ld1 h t24).bind fun t25 =>
 (lenS t25).bind fun t26 =>
 (o (f75_k75001 rd) [t2, t3, t4, t5, t18, t21, t13, t14, t15, t25, t26, (.int .i64 0)] h ((((c + 1) + 1) + 1) + 1) df).bind fun r0 =>
 cond (exIs r0.e (.exit 2))
  ((addOff (r0.v 3) 0).bind fun t55 =>
  (ld1 r0.h t55).bind fun t56 =>
  (aNilCheck (r0.v 4)).bind fun t58 =>
  (addOff t58 1).bind fun t59 =>
  (addOff t59 0).bind fun t60 =>
  (ld1 r0.h t60).bind fun t61 =>
  (appV r0.h (256 * r0.c + 7) 1 8 t56 t61).bind fun r1 =>
  (addOff (r0.v 3) 0).bind fun t63 =>
  (stN r1.2 1 t63 r1.1).bind fun h3 =>
  (addOff (r0.v 3) 1).bind fun t64 =>
  (ld1 h3 t64).bind fun t65 =>
  (aNilCheck (r0.v 4)).bind fun t67 =>
  (addOff t67 1).bind fun t68 =>
  (addOff t68 1).bind fun t69 =>
  (ld1 h3 t69).bind fun t70 =>
  (appV h3 (256 * (r0.c + 1) + 7) 4 32 t65 t70).bind fun r4 =>
  (addOff (r0.v 3) 1).bind fun t72 =>
  (stN r4.2 1 t72 r4.1).bind fun h6 =>
  (aBinOp P .add 3 (r0.v 8) (.int .i64 1)).bind fun t73 =>
  some { e := .normal, vs := [(r0.v 0), (r0.v 1), (r0.v 2), (r0.v 3), (r0.v 6), (r0.v 7), t73], h := h6, c := (((r0.c + 1) + 1) + 1), df := r0.df })
  (none))
 (some { e := (.exit 0), vs := [t2, t3, t4, t5, t13, t14, t15], h := h, c := (c + 1), df := df })
theorem f75_L75000_eq (o : Orc H) (rd : Option Nat) (t2 t3 t4 t5 t13 t14 t15 : Value) (h : H) (c : Nat) (df : List Nat) : jx P o 76 rd f75_c75000 (tmOf [2, 3, 4, 5, 13, 14, 15] [t2, t3, t4, t5, t13, t14, t15]) h c df (Klp [2, 3, 4, 5, 13, 14, 15]) = f75_L75000 o rd t2 t3 t4 t5 t13 t14 t15 h c df := by kernel_rfl
/-- sphenoid/iso.canonical -/
noncomputable def f75_S (o : Orc H) (t0 : Value) (h : H) (c : Nat) : Option (Rt H) :=
 (bif (t0 : Value).cells.toList.all isFlat then
 (ldN (newB (newB (newB (newB (newB h (256 * c + 0) (t0 : Value).cells.toList) (256 * c + 1) [(.slice none 0 0)]) (256 * c + 2) [(.slice none 0 0), (.slice none 0 0)]) (256 * (c + 1) + 0) [(.slice none 0 0)]) (256 * ((c + 1) + 1) + 0) [(.slice none 0 0), (.slice none 0 0)]) 1 (ptrTo (256 * c + 0))).bind fun t12 =>
 (callF o 87 [t12] (newB (newB (newB (newB (newB h (256 * c + 0) (t0 : Value).cells.toList) (256 * c + 1) [(.slice none 0 0)]) (256 * c + 2) [(.slice none 0 0), (.slice none 0 0)]) (256 * (c + 1) + 0) [(.slice none 0 0)]) (256 * ((c + 1) + 1) + 0) [(.slice none 0 0), (.slice none 0 0)]) ((((c + 1) + 1) + 1) + 1)).bind fun r0 =>
 (lenS r0.1).bind fun t14 =>
 (o (f75_k75000 none) [(ptrTo (256 * c + 1)), (ptrTo (256 * c + 2)), (ptrTo (256 * (c + 1) + 0)), (ptrTo (256 * ((c + 1) + 1) + 0)), r0.1, t14, (.int .i64 0)] r0.2.1 r0.2.2 []).bind fun r1 =>
 cond (exIs r1.e (.exit 0))
 ((ldN r1.h 1 (r1.v 2)).bind fun t74 =>
 (ldN r1.h 2 (r1.v 3)).bind fun t75 =>
 (stN r1.h 1 (r1.v 0) t74).bind fun h3 =>
 (stN h3 2 (r1.v 1) t75).bind fun h5 =>
 (bif (sameB (ridV (r1.v 3)) r1.h h3 && true) then
 (takeAll h5 r1.df).bind fun h6 =>
 (ldN h6 1 (r1.v 0)).bind fun v7 =>
 (ldN h6 2 (r1.v 1)).bind fun v8 =>
 some { e := .ret, vs := [.tuple #[v7, v8]], h := h6, c := (r1.c + 1), df := [] }
 else none))
 (none)
 else none)
theorem f75_S_eq (o : Orc H) (t0 : Value) (h : H) (c : Nat) : jx P o 76 none f75_c (tmOf (List.range 1) [t0]) h c [] (Kfn P Try.f75.results.toList) = f75_S o t0 h c := by kernel_rfl
theorem f75_go {t0 : Value} {h : FH} {c : Nat} {df : List Nat} {r : Rt FH} (e : f75_S G t0 h c = some r) : G (.fn 75) [t0] h c df = some (gcR h c [] r) := runG_fn (a := f75_f) bk_75 rfl (fun args h c => by cases args <;> rfl) rfl ((f75_S_eq G t0 h c).trans e)
theorem f75_N75002 {rd : Option Nat} {t2 t3 t4 t5 t7 t8 t10 t13 t14 t15 t25 t26 t27 t31 : Value} {h : FH} {c : Nat} {df : List Nat} {q r : Rt FH} (e : f75_L75002 G rd t2 t3 t4 t5 t7 t8 t10 t13 t14 t15 t25 t26 t27 t31 h c df = some q) (hq : q.e = .normal) (k : G (f75_k75002 rd) q.vs q.h q.c q.df = some r) : G (f75_k75002 rd) [t2, t3, t4, t5, t7, t8, t10, t13, t14, t15, t25, t26, t27, t31] h c df = some r := runG_lp_next ((f75_L75002_eq G rd t2 t3 t4 t5 t7 t8 t10 t13 t14 t15 t25 t26 t27 t31 h c df).trans e) hq k
theorem f75_Z75002 {rd : Option Nat} {t2 t3 t4 t5 t7 t8 t10 t13 t14 t15 t25 t26 t27 t31 : Value} {h : FH} {c : Nat} {df : List Nat} {q : Rt FH} (e : f75_L75002 G rd t2 t3 t4 t5 t7 t8 t10 t13 t14 t15 t25 t26 t27 t31 h c df = some q) (hq : q.e ≠ .normal) : G (f75_k75002 rd) [t2, t3, t4, t5, t7, t8, t10, t13, t14, t15, t25, t26, t27, t31] h c df = some q := runG_lp_last ((f75_L75002_eq G rd t2 t3 t4 t5 t7 t8 t10 t13 t14 t15 t25 t26 t27 t31 h c df).trans e) hq
theorem f75_N75001 {rd : Option Nat} {t2 t3 t4 t5 t7 t8 t13 t14 t15 t25 t26 t27 : Value} {h : FH} {c : Nat} {df : List Nat} {q r : Rt FH} (e : f75_L75001 G rd t2 t3 t4 t5 t7 t8 t13 t14 t15 t25 t26 t27 h c df = some q) (hq : q.e = .normal) (k : G (f75_k75001 rd) q.vs q.h q.c q.df = some r) : G (f75_k75001 rd) [t2, t3, t4, t5, t7, t8, t13, t14, t15, t25, t26, t27] h c df = some r := runG_lp_next ((f75_L75001_eq G rd t2 t3 t4 t5 t7 t8 t13 t14 t15 t25 t26 t27 h c df).trans e) hq k
theorem f75_Z75001 {rd : Option Nat} {t2 t3 t4 t5 t7 t8 t13 t14 t15 t25 t26 t27 : Value} {h : FH} {c : Nat} {df : List Nat} {q : Rt FH} (e : f75_L75001 G rd t2 t3 t4 t5 t7 t8 t13 t14 t15 t25 t26 t27 h c df = some q) (hq : q.e ≠ .normal) : G (f75_k75001 rd) [t2, t3, t4, t5, t7, t8, t13, t14, t15, t25, t26, t27] h c df = some q := runG_lp_last ((f75_L75001_eq G rd t2 t3 t4 t5 t7 t8 t13 t14 t15 t25 t26 t27 h c df).trans e) hq
theorem f75_N75000 {rd : Option Nat} {t2 t3 t4 t5 t13 t14 t15 : Value} {h : FH} {c : Nat} {df : List Nat} {q r : Rt FH} (e : f75_L75000 G rd t2 t3 t4 t5 t13 t14 t15 h c df = some q) (hq : q.e = .normal) (k : G (f75_k75000 rd) q.vs q.h q.c q.df = some r) : G (f75_k75000 rd) [t2, t3, t4, t5, t13, t14, t15] h c df = some r := runG_lp_next ((f75_L75000_eq G rd t2 t3 t4 t5 t13 t14 t15 h c df).trans e) hq k
theorem f75_Z75000 {rd : Option Nat} {t2 t3 t4 t5 t13 t14 t15 : Value} {h : FH} {c : Nat} {df : List Nat} {q : Rt FH} (e : f75_L75000 G rd t2 t3 t4 t5 t13 t14 t15 h c df = some q) (hq : q.e ≠ .normal) : G (f75_k75000 rd) [t2, t3, t4, t5, t13, t14, t15] h c df = some q := runG_lp_last ((f75_L75000_eq G rd t2 t3 t4 t5 t13 t14 t15 h c df).trans e) hq
noncomputable def f76_L76000 (o : Orc H) (rd : Option Nat) (t0 t1 t3 t8 t9 : Value) (h : H) (c : Nat) (df : List Nat) : Option (Rt H) :=
 (aBinOp P .lss 3 t9 t8).bind fun t10 =>
 boolK t10
 ((aBinOp P .mul 3 t3 (.int .i64 3)).bind fun t12 =>
 (aBinOp P .add 3 t9 (.int .i64 1)).bind fun t13 =>
 some { e := .normal, vs := [t0, t1, t12, t8, t13], h := h, c := (((c + 1) + 1) + 1), df := df })
 (some { e := (.exit 0), vs := [t0, t1, t3, t8, t9], h := h, c := (c + 1), df := df })
theorem f76_L76000_eq (o : Orc H) (rd : Option Nat) (t0 t1 t3 t8 t9 : Value) (h : H) (c : Nat) (df : List Nat) : jx P o 45 rd f76_c76000 (tmOf [0, 1, 3, 8, 9] [t0, t1, t3, t8, t9]) h c df (Klp [0, 1, 3, 8, 9]) = f76_L76000 o rd t0 t1 t3 t8 t9 h c df := by kernel_rfl
noncomputable def f76_L76002 (o : Orc H) (rd : Option Nat) (t0 t1 t5 t6 t7 t14 t15 : Value) (h : H) (c : Nat) (df : List Nat) : Option (Rt H) :=
 (ld1 h t1).bind fun t24 =>
 (aBinOp P .lss 3 t6 t24).bind fun t25 =>
 boolK t25
 ((addOff t5 0).bind fun t30 =>
 (ld1 h t30).bind fun t31 =>
 (aBinOp P .rem 3 t7 (.int .i64 3)).bind fun t33 =>
 (bldL [(.int .i64 0)] [(0, 1, t33)]).bind fun r0 =>
 (appV (newB h (256 * (c + 1) + 4) r0) (256 * (c + 1) + 5) 1 8 t31 (.slice (some ⟨(256 * (c + 1) + 4), 0, none⟩) 1 1)).bind fun r1 =>
 (addOff t5 0).bind fun t36 =>
 (stN r1.2 1 t36 r1.1).bind fun h3 =>
 (aBinOp P .add 3 t6 (.int .i64 1)).bind fun t27 =>
 (aBinOp P .quo 3 t7 (.int .i64 3)).bind fun t29 =>
 some { e := .normal, vs := [t0, t1, t5, t27, t29, t14, t15], h := h3, c := (((c + 1) + 1) + 1), df := df })
 (some { e := (.exit 4), vs := [t0, t1, t5, t6, t7, t14, t15], h := h, c := (c + 1), df := df })
theorem f76_L76002_eq (o : Orc H) (rd : Option Nat) (t0 t1 t5 t6 t7 t14 t15 : Value) (h : H) (c : Nat) (df : List Nat) : jx P o 45 rd f76_c76002 (tmOf [0, 1, 5, 6, 7, 14, 15] [t0, t1, t5, t6, t7, t14, t15]) h c df (Klp [0, 1, 5, 6, 7, 14, 15]) = f76_L76002 o rd t0 t1 t5 t6 t7 t14 t15 h c df := by kernel_rfl
noncomputable def f76_L76001 (o : Orc H) (rd : Option Nat) (t0 t1 t14 t15 : Value) (h : H) (c : Nat) (df : List Nat) : Option (Rt H) :=
 (aBinOp P .lss 3 t15 t14).bind fun t16 =>
 boolK t16
 ((aBinOp P .rem 3 t15 (.int .i64 3)).bind fun t19 =>
 (bldV [(.slice none 0 0), (.int .i64 0)] [(1, 1, t19)]).bind fun t20 =>
 (stN (newB h (256 * ((c + 1) + 1) + 3) [(.slice none 0 0), (.int .i64 0)]) 2 (ptrTo (256 * ((c + 1) + 1) + 3)) t20).bind fun h1 =>
 (aBinOp P .quo 3 t15 (.int .i64 3)).bind fun t22 =>
 (o (f76_k76002 rd) [t0, t1, (ptrTo (256 * ((c + 1) + 1) + 3)), (.int .i64 0), t22, t14, t15] h1 ((((c + 1) + 1) + 1) + 1) df).bind fun r2 =>
 cond (exIs r2.e (.exit 4))
  ((addOff (r2.v 2) 0).bind fun t37 =>
  (ld1 r2.h t37).bind fun t38 =>
  (callF o 77 [t38] r2.h (r2.c + 1)).bind fun r3 =>
  (ldN r3.2.1 2 (r2.v 2)).bind fun t41 =>
  (callV o r3.2.1 (r3.2.2 + 1) (r2.v 0) [t41]).bind fun r4 =>
  (aUnOp .not r4.1).bind fun t43 =>
  boolK t43
   (some { e := .ret, vs := [(r2.v 0), (r2.v 1), (r2.v 5), (r2.v 6)], h := r4.2.1, c := r4.2.2, df := r2.df })
   ((aBinOp P .add 3 (r2.v 6) (.int .i64 1)).bind fun t44 =>
   some { e := .normal, vs := [(r2.v 0), (r2.v 1), (r2.v 5), t44], h := r4.2.1, c := (r4.2.2 + 1), df := r2.df }))
  (none))
 (some { e := (.exit 2), vs := [t0, t1, t14, t15], h := h, c := (c + 1), df := df })
theorem f76_L76001_eq (o : Orc H) (rd : Option Nat) (t0 t1 t14 t15 : Value) (h : H) (c : Nat) (df : List Nat) : jx P o 45 rd f76_c76001 (tmOf [0, 1, 14, 15] [t0, t1, t14, t15]) h c df (Klp [0, 1, 14, 15]) = f76_L76001 o rd t0 t1 t14 t15 h c df := by kernel_rfl
/-- sphenoid/lens.descriptions$1 -/
noncomputable def f76_S (o : Orc H) (t0 t1 : Value) (h : H) (c : Nat) : Option (Rt H) :=
 (ld1 h t1).bind fun t8 =>
 (o (f76_k76000 none) [t0, t1, (.int .i64 3), t8, (.int .i64 0)] h ((c + 1) + 1) []).bind fun r0 =>
 cond (exIs r0.e (.exit 0))
 ((o (f76_k76001 none) [(r0.v 0), (r0.v 1), (r0.v 2), (.int .i64 0)] r0.h (r0.c + 1) r0.df).bind fun r1 =>
 cond (exIs r1.e (.exit 2))
  ((takeAll r1.h r1.df).bind fun h3 =>
  some { e := .ret, vs := [.tuple #[]], h := h3, c := r1.c, df := [] })
  (cond (exIs r1.e .ret)
   ((takeAll r1.h r1.df).bind fun h2 =>
   some { e := .ret, vs := [.tuple #[]], h := h2, c := r1.c, df := [] })
   (none)))
 (none)
theorem f76_S_eq (o : Orc H) (t0 t1 : Value) (h : H) (c : Nat) : jx P o 45 none f76_c (tmOf (List.range 2) [t0, t1]) h c [] (Kfn P Try.f76.results.toList) = f76_S o t0 t1 h c := by kernel_rfl
theorem f76_go {t0 t1 : Value} {h : FH} {c : Nat} {df : List Nat} {r : Rt FH} (e : f76_S G t0 t1 h c = some r) : G (.fn 76) [t0, t1] h c df = some (gcR h c [] r) := runG_fn (a := f76_f) bk_76 rfl (fun args h c => by cases args <;> rfl) rfl ((f76_S_eq G t0 t1 h c).trans e)
theorem f76_N76000 {rd : Option Nat} {t0 t1 t3 t8 t9 : Value} {h : FH} {c : Nat} {df : List Nat} {q r : Rt FH} (e : f76_L76000 G rd t0 t1 t3 t8 t9 h c df = some q) (hq : q.e = .normal) (k : G (f76_k76000 rd) q.vs q.h q.c q.df = some r) : G (f76_k76000 rd) [t0, t1, t3, t8, t9] h c df = some r := runG_lp_next ((f76_L76000_eq G rd t0 t1 t3 t8 t9 h c df).trans e) hq k
theorem f76_Z76000 {rd : Option Nat} {t0 t1 t3 t8 t9 : Value} {h : FH} {c : Nat} {df : List Nat} {q : Rt FH} (e : f76_L76000 G rd t0 t1 t3 t8 t9 h c df = some q) (hq : q.e ≠ .normal) : G (f76_k76000 rd) [t0, t1, t3, t8, t9] h c df = some q := runG_lp_last ((f76_L76000_eq G rd t0 t1 t3 t8 t9 h c df).trans e) hq
theorem f76_N76002 {rd : Option Nat} {t0 t1 t5 t6 t7 t14 t15 : Value} {h : FH} {c : Nat} {df : List Nat} {q r : Rt FH} (e : f76_L76002 G rd t0 t1 t5 t6 t7 t14 t15 h c df = some q) (hq : q.e = .normal) (k : G (f76_k76002 rd) q.vs q.h q.c q.df = some r) : G (f76_k76002 rd) [t0, t1, t5, t6, t7, t14, t15] h c df = some r := runG_lp_next ((f76_L76002_eq G rd t0 t1 t5 t6 t7 t14 t15 h c df).trans e) hq k
theorem f76_Z76002 {rd : Option Nat} {t0 t1 t5 t6 t7 t14 t15 : Value} {h : FH} {c : Nat} {df : List Nat} {q : Rt FH} (e : f76_L76002 G rd t0 t1 t5 t6 t7 t14 t15 h c df = some q) (hq : q.e ≠ .normal) : G (f76_k76002 rd) [t0, t1, t5, t6, t7, t14, t15] h c df = some q := runG_lp_last ((f76_L76002_eq G rd t0 t1 t5 t6 t7 t14 t15 h c df).trans e) hq
theorem f76_N76001 {rd : Option Nat} {t0 t1 t14 t15 : Value} {h : FH} {c : Nat} {df : List Nat} {q r : Rt FH} (e : f76_L76001 G rd t0 t1 t14 t15 h c df = some q) (hq : q.e = .normal) (k : G (f76_k76001 rd) q.vs q.h q.c q.df = some r) : G (f76_k76001 rd) [t0, t1, t14, t15] h c df = some r := runG_lp_next ((f76_L76001_eq G rd t0 t1 t14 t15 h c df).trans e) hq k
theorem f76_Z76001 {rd : Option Nat} {t0 t1 t14 t15 : Value} {h : FH} {c : Nat} {df : List Nat} {q : Rt FH} (e : f76_L76001 G rd t0 t1 t14 t15 h c df = some q) (hq : q.e ≠ .normal) : G (f76_k76001 rd) [t0, t1, t14, t15] h c df = some q := runG_lp_last ((f76_L76001_eq G rd t0 t1 t14 t15 h c df).trans e) hq
noncomputable def f77_L77000 (o : Orc H) (rd : Option Nat) (t0 t2 t3 : Value) (h : H) (c : Nat) (df : List Nat) : Option (Rt H) :=
 (aBinOp P .lss 3 t2 t3).bind fun t9 =>
 boolK t9
 ((ixS 1 t0 t3).bind fun t20 =>
 (ld1 h t20).bind fun t21 =>
 (ixS 1 t0 t2).bind fun t24 =>
 (ld1 h t24).bind fun t25 =>
 (ixS 1 t0 t2).bind fun t26 =>
 (stN h 1 t26 t21).bind fun h1 =>
 (ixS 1 t0 t3).bind fun t27 =>
 (stN h1 1 t27 t25).bind fun h3 =>
 (aBinOp P .add 3 t2 (.int .i64 1)).bind fun t11 =>
 (aBinOp P .sub 3 t3 (.int .i64 1)).bind fun t13 =>
 some { e := .normal, vs := [t0, t11, t13], h := h3, c := (((c + 1) + 1) + 1), df := df })
 (some { e := (.exit 0), vs := [t0, t2, t3], h := h, c := (c + 1), df := df })
theorem f77_L77000_eq (o : Orc H) (rd : Option Nat) (t0 t2 t3 : Value) (h : H) (c : Nat) (df : List Nat) : jx P o 28 rd f77_c77000 (tmOf [0, 2, 3] [t0, t2, t3]) h c df (Klp [0, 2, 3]) = f77_L77000 o rd t0 t2 t3 h c df := by kernel_rfl
/-- slices.Reverse[[]int,int] -/
noncomputable def f77_S (o : Orc H) (t0 : Value) (h : H) (c : Nat) : Option (Rt H) :=
 (lenS t0).bind fun t5 =>
 (aBinOp P .sub 3 t5 (.int .i64 1)).bind fun t6 =>
 (o (f77_k77000 none) [t0, (.int .i64 0), t6] h (c + 1) []).bind fun r0 =>
 cond (exIs r0.e (.exit 0))
 ((takeAll r0.h r0.df).bind fun h1 =>
 some { e := .ret, vs := [.tuple #[]], h := h1, c := r0.c, df := [] })
 (none)
theorem f77_S_eq (o : Orc H) (t0 : Value) (h : H) (c : Nat) : jx P o 28 none f77_c (tmOf (List.range 1) [t0]) h c [] (Kfn P Try.f77.results.toList) = f77_S o t0 h c := by kernel_rfl
theorem f77_go {t0 : Value} {h : FH} {c : Nat} {df : List Nat} {r : Rt FH} (e : f77_S G t0 h c = some r) : G (.fn 77) [t0] h c df = some (gcR h c [] r) := runG_fn (a := f77_f) bk_77 rfl (fun args h c => by cases args <;> rfl) rfl ((f77_S_eq G t0 h c).trans e)
theorem f77_N77000 {rd : Option Nat} {t0 t2 t3 : Value} {h : FH} {c : Nat} {df : List Nat} {q r : Rt FH} (e : f77_L77000 G rd t0 t2 t3 h c df = some q) (hq : q.e = .normal) (k : G (f77_k77000 rd) q.vs q.h q.c q.df = some r) : G (f77_k77000 rd) [t0, t2, t3] h c df = some r := runG_lp_next ((f77_L77000_eq G rd t0 t2 t3 h c df).trans e) hq k
theorem f77_Z77000 {rd : Option Nat} {t0 t2 t3 : Value} {h : FH} {c : Nat} {df : List Nat} {q : Rt FH} (e : f77_L77000 G rd t0 t2 t3 h c df = some q) (hq : q.e ≠ .normal) : G (f77_k77000 rd) [t0, t2, t3] h c df = some q := runG_lp_last ((f77_L77000_eq G rd t0 t2 t3 h c df).trans e) hq
noncomputable def f78_L78000 (o : Orc H) (rd : Option Nat) (t0 t1 t4 t12 t13 : Value) (h : H) (c : Nat) (df : List Nat) : Option (Rt H) :=
 (aBinOp P .lss 3 t13 t12).bind fun t14 =>
 boolK t14
 ((ixS 20 t0 t13).bind fun t18 =>
 (ldN h 20 t18).bind fun t19 =>
 (ixS 20 t1 t13).bind fun t22 =>
 (ldN h 20 t22).bind fun t23 =>
 (aBinOp P .neq 90 t19 t23).bind fun t24 =>
 boolK t24
  (some { e := .ret, vs := [t0, t1, (.bool false), t12, t13], h := h, c := ((((c + 1) + 1) + 1) + 1), df := df })
  ((aBinOp P .add 3 t13 (.int .i64 1)).bind fun t25 =>
  some { e := .normal, vs := [t0, t1, t4, t12, t25], h := h, c := ((((c + 1) + 1) + 1) + 1), df := df }))
 (some { e := (.exit 0), vs := [t0, t1, t4, t12, t13], h := h, c := (c + 1), df := df })
theorem f78_L78000_eq (o : Orc H) (rd : Option Nat) (t0 t1 t4 t12 t13 : Value) (h : H) (c : Nat) (df : List Nat) : jx P o 26 rd f78_c78000 (tmOf [0, 1, 4, 12, 13] [t0, t1, t4, t12, t13]) h c df (Klp [0, 1, 4, 12, 13]) = f78_L78000 o rd t0 t1 t4 t12 t13 h c df := by kernel_rfl
/-- slices.Equal[[][4]sphenoid/api.Face,[4]sphenoid/api.Face] -/
noncomputable def f78_S (o : Orc H) (t0 t1 : Value) (h : H) (c : Nat) : Option (Rt H) :=
 (lenS t0).bind fun t7 =>
 (lenS t1).bind fun t9 =>
 (aBinOp P .neq 3 t7 t9).bind fun t10 =>
 boolK t10
 (some { e := .ret, vs := [(.bool false)], h := h, c := (((c + 1) + 1) + 1), df := [] })
 ((lenS t0).bind fun t12 =>
 (o (f78_k78000 none) [t0, t1, (.bool false), t12, (.int .i64 0)] h (((c + 1) + 1) + 1) []).bind fun r0 =>
 cond (exIs r0.e (.exit 0))
  ((takeAll r0.h r0.df).bind fun h2 =>
  some { e := .ret, vs := [(.bool true)], h := h2, c := (r0.c + 1), df := [] })
  (cond (exIs r0.e .ret)
   ((takeAll r0.h r0.df).bind fun h1 =>
   some { e := .ret, vs := [(r0.v 2)], h := h1, c := r0.c, df := [] })
   (none)))
theorem f78_S_eq (o : Orc H) (t0 t1 : Value) (h : H) (c : Nat) : jx P o 26 none f78_c (tmOf (List.range 2) [t0, t1]) h c [] (Kfn P Try.f78.results.toList) = f78_S o t0 t1 h c := by kernel_rfl
theorem f78_go {t0 t1 : Value} {h : FH} {c : Nat} {df : List Nat} {r : Rt FH} (e : f78_S G t0 t1 h c = some r) : G (.fn 78) [t0, t1] h c df = some (gcR h c [] r) := runG_fn (a := f78_f) bk_78 rfl (fun args h c => by cases args <;> rfl) rfl ((f78_S_eq G t0 t1 h c).trans e)
theorem f78_N78000 {rd : Option Nat} {t0 t1 t4 t12 t13 : Value} {h : FH} {c : Nat} {df : List Nat} {q r : Rt FH} (e : f78_L78000 G rd t0 t1 t4 t12 t13 h c df = some q) (hq : q.e = .normal) (k : G (f78_k78000 rd) q.vs q.h q.c q.df = some r) : G (f78_k78000 rd) [t0, t1, t4, t12, t13] h c df = some r := runG_lp_next ((f78_L78000_eq G rd t0 t1 t4 t12 t13 h c df).trans e) hq k
theorem f78_Z78000 {rd : Option Nat} {t0 t1 t4 t12 t13 : Value} {h : FH} {c : Nat} {df : List Nat} {q : Rt FH} (e : f78_L78000 G rd t0 t1 t4 t12 t13 h c df = some q) (hq : q.e ≠ .normal) : G (f78_k78000 rd) [t0, t1, t4, t12, t13] h c df = some q := runG_lp_last ((f78_L78000_eq G rd t0 t1 t4 t12 t13 h c df).trans e) hq
/-- (sphenoid/lens.frame).turned -/
noncomputable def f79_S (o : Orc H) (t0 : Value) (h : H) (c : Nat) : Option (Rt H) :=
 (bif (t0 : Value).cells.toList.all isFlat then
 (addOff (ptrTo (256 * c + 0)) 0).bind fun t5 =>
 (addOff t5 1).bind fun t6 =>
 (ldN (newB (newB h (256 * c + 0) (t0 : Value).cells.toList) (256 * c + 1) [(.int .i64 0), (.int .i64 0), (.int .i64 0), (.int .i64 0), (.int .i64 0), (.int .i64 0), (.int .i64 0), (.int .i64 0)]) 3 t6).bind fun t7 =>
 (addOff (ptrTo (256 * c + 0)) 4).bind fun t8 =>
 (addOff t8 1).bind fun t9 =>
 (ldN (newB (newB h (256 * c + 0) (t0 : Value).cells.toList) (256 * c + 1) [(.int .i64 0), (.int .i64 0), (.int .i64 0), (.int .i64 0), (.int .i64 0), (.int .i64 0), (.int .i64 0), (.int .i64 0)]) 3 t9).bind fun t10 =>
 (stN (newB (newB (newB (newB h (256 * c + 0) (t0 : Value).cells.toList) (256 * c + 1) [(.int .i64 0), (.int .i64 0), (.int .i64 0), (.int .i64 0), (.int .i64 0), (.int .i64 0), (.int .i64 0), (.int .i64 0)]) (256 * (c + 1) + 6) [(.int .i64 0), (.int .i64 0), (.int .i64 0)]) (256 * (c + 1) + 7) [(.int .i64 0), (.int .i64 0), (.int .i64 0)]) 3 (ptrTo (256 * (c + 1) + 6)) t7).bind fun h1 =>
 (stN h1 3 (ptrTo (256 * (c + 1) + 7)) t10).bind fun h3 =>
 (bif (sameB (ridV t9) (newB (newB (newB (newB h (256 * c + 0) (t0 : Value).cells.toList) (256 * c + 1) [(.int .i64 0), (.int .i64 0), (.int .i64 0), (.int .i64 0), (.int .i64 0), (.int .i64 0), (.int .i64 0), (.int .i64 0)]) (256 * (c + 1) + 6) [(.int .i64 0), (.int .i64 0), (.int .i64 0)]) (256 * (c + 1) + 7) [(.int .i64 0), (.int .i64 0), (.int .i64 0)]) h1 && true) then
 (ixA 3 1 (ptrTo (256 * (c + 1) + 6)) (.int .i64 1)).bind fun t11 =>
 (ld1 h3 t11).bind fun t12 =>
 (ixA 3 1 (ptrTo (256 * (c + 1) + 6)) (.int .i64 2)).bind fun t13 =>
 (ld1 h3 t13).bind fun t14 =>
 (ixA 3 1 (ptrTo (256 * (c + 1) + 6)) (.int .i64 0)).bind fun t15 =>
 (ld1 h3 t15).bind fun t16 =>
 (bldV [(.int .i64 0), (.int .i64 0), (.int .i64 0)] [(0, 1, t12), (1, 1, t14), (2, 1, t16)]).bind fun t17 =>
 (addOff (ptrTo (256 * c + 0)) 0).bind fun t18 =>
 (addOff t18 1).bind fun t19 =>
 (stN h3 3 t19 t17).bind fun h5 =>
 (ixA 3 1 (ptrTo (256 * (c + 1) + 7)) (.int .i64 2)).bind fun t20 =>
 (ld1 h5 t20).bind fun t21 =>
 (ixA 3 1 (ptrTo (256 * (c + 1) + 7)) (.int .i64 0)).bind fun t22 =>
 (ld1 h5 t22).bind fun t23 =>
 (ixA 3 1 (ptrTo (256 * (c + 1) + 7)) (.int .i64 1)).bind fun t24 =>
 (ld1 h5 t24).bind fun t25 =>
 (bldV [(.int .i64 0), (.int .i64 0), (.int .i64 0)] [(0, 1, t21), (1, 1, t23), (2, 1, t25)]).bind fun t26 =>
 (addOff (ptrTo (256 * c + 0)) 4).bind fun t27 =>
 (addOff t27 1).bind fun t28 =>
 (stN h5 3 t28 t26).bind fun h7 =>
 (ldN h7 8 (ptrTo (256 * c + 0))).bind fun t29 =>
 (stN h7 8 (ptrTo (256 * c + 1)) t29).bind fun h9 =>
 (ldN h9 8 (ptrTo (256 * c + 1))).bind fun v10 =>
 some { e := .ret, vs := [v10], h := h9, c := (((((c + 1) + 1) + 1) + 1) + 1), df := [] }
 else none)
 else none)
theorem f79_S_eq (o : Orc H) (t0 : Value) (h : H) (c : Nat) : jx P o 30 none f79_c (tmOf (List.range 1) [t0]) h c [] (Kfn P Try.f79.results.toList) = f79_S o t0 h c := by kernel_rfl
theorem f79_go {t0 : Value} {h : FH} {c : Nat} {df : List Nat} {r : Rt FH} (e : f79_S G t0 h c = some r) : G (.fn 79) [t0] h c df = some (gcR h c [] r) := runG_fn (a := f79_f) bk_79 rfl (fun args h c => by cases args <;> rfl) rfl ((f79_S_eq G t0 h c).trans e)
end Go.Proofs.Ytdbiilapiloaiaa
