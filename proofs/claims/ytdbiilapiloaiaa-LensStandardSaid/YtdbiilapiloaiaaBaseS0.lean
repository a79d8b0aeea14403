/- The shallow texts of the functions, with their equations. Printed by a program. -/
import Derived.Test.YtdbiilapiloaiaaBaseK
set_option linter.all false
namespace Go.Proofs.Ytdbiilapiloaiaa.Base
open Go Go.Ab Go.Proofs
set_option maxRecDepth 100000
set_option linter.unusedVariables false
variable {H : Type} [HeapC H]
noncomputable def f72_L72000 (o : Orc H) (rd : Option Nat) (t2 t3 t6 t7 : Value) (h : H) (c : Nat) (df : List Nat) : Option (Rt H) :=
 (aBinOp P .lss 3 t7 (.int .i64 4)).bind fun t8 =>
 boolK t8
 ((ixV 4 false 1 t6 t7).bind fun t9 =>
 (aBinOp P .lss 3 t9 (.int .i64 0)).bind fun t11 =>
 ((gv t11 false).bind fun w => cond w (ret1 h (((c + 1) + 1) + 1) (some t9)) (some (undef, h, (((c + 1) + 1) + 1)))).bind fun r0 =>
 ((gv t11 false).bind fun w => cond w (ret1 r0.2.1 r0.2.2 (aBinOp P .gtr 3 r0.1 (.int .i64 3))) (some (undef, r0.2.1, r0.2.2))).bind fun r1 =>
 (pickV t11 (.bool true) r1.1).bind fun t15 =>
 boolK t15
  (some { e := .ret, vs := [(.bool false), t3, t6, t7], h := r1.2.1, c := (r1.2.2 + 1), df := df })
  ((aBinOp P .shl 3 (.int .i64 1) t9).bind fun t18 =>
  (aBinOp P .or 3 t3 t18).bind fun t19 =>
  (aBinOp P .add 3 t7 (.int .i64 1)).bind fun t20 =>
  some { e := .normal, vs := [t2, t19, t6, t20], h := r1.2.1, c := ((r1.2.2 + 1) + 1), df := df }))
 (some { e := (.exit 0), vs := [t2, t3, t6, t7], h := h, c := (c + 1), df := df })
theorem f72_L72000_eq (o : Orc H) (rd : Option Nat) (t2 t3 t6 t7 : Value) (h : H) (c : Nat) (df : List Nat) : jx P o 23 rd f72_c72000 (tmOf [2, 3, 6, 7] [t2, t3, t6, t7]) h c df (Klp [2, 3, 6, 7]) = f72_L72000 o rd t2 t3 t6 t7 h c df := by kernel_rfl
/-- sphenoid/glue.Valid -/
noncomputable def f72_S (o : Orc H) (t0 : Value) (h : H) (c : Nat) : Option (Rt H) :=
 (bif (t0 : Value).cells.toList.all isFlat then
 (ldN (newB h (256 * c + 0) (t0 : Value).cells.toList) 4 (ptrTo (256 * c + 0))).bind fun t6 =>
 (o (f72_k72000 none) [(.bool false), (.int .i64 0), t6, (.int .i64 0)] (newB h (256 * c + 0) (t0 : Value).cells.toList) (((c + 1) + 1) + 1) []).bind fun r0 =>
 cond (exIs r0.e (.exit 0))
 ((aBinOp P .eql 3 (r0.v 1) (.int .i64 15)).bind fun t22 =>
 (takeAll r0.h r0.df).bind fun h2 =>
 some { e := .ret, vs := [t22], h := h2, c := (r0.c + 1), df := [] })
 (cond (exIs r0.e .ret)
  ((takeAll r0.h r0.df).bind fun h1 =>
  some { e := .ret, vs := [(r0.v 0)], h := h1, c := r0.c, df := [] })
  (none))
 else none)
theorem f72_S_eq (o : Orc H) (t0 : Value) (h : H) (c : Nat) : jx P o 23 none f72_c (tmOf (List.range 1) [t0]) h c [] (Kfn P Try.f72.results.toList) = f72_S o t0 h c := by kernel_rfl
theorem f72_go {t0 : Value} {h : FH} {c : Nat} {df : List Nat} {r : Rt FH} (e : f72_S G t0 h c = some r) : G (.fn 72) [t0] h c df = some (gcR h c [] r) := runG_fn (a := f72_f) bk_72 rfl (fun args h c => by cases args <;> rfl) rfl ((f72_S_eq G t0 h c).trans e)
theorem f72_N72000 {rd : Option Nat} {t2 t3 t6 t7 : Value} {h : FH} {c : Nat} {df : List Nat} {q r : Rt FH} (e : f72_L72000 G rd t2 t3 t6 t7 h c df = some q) (hq : q.e = .normal) (k : G (f72_k72000 rd) q.vs (gcR h c df q).h (gcR h c df q).c q.df = some r) : G (f72_k72000 rd) [t2, t3, t6, t7] h c df = some r := runG_lp_next ((f72_L72000_eq G rd t2 t3 t6 t7 h c df).trans e) hq k
theorem f72_Z72000 {rd : Option Nat} {t2 t3 t6 t7 : Value} {h : FH} {c : Nat} {df : List Nat} {q : Rt FH} (e : f72_L72000 G rd t2 t3 t6 t7 h c df = some q) (hq : q.e ≠ .normal) : G (f72_k72000 rd) [t2, t3, t6, t7] h c df = some (gcR h c df q) := runG_lp_last ((f72_L72000_eq G rd t2 t3 t6 t7 h c df).trans e) hq
noncomputable def f73_L73000 (o : Orc H) (rd : Option Nat) (t2 t3 t6 t7 : Value) (h : H) (c : Nat) (df : List Nat) : Option (Rt H) :=
 (aBinOp P .lss 3 t7 (.int .i64 4)).bind fun t8 =>
 boolK t8
 ((ixV 4 false 1 t6 t7).bind fun t10 =>
 (ixA 4 1 t3 t10).bind fun t13 =>
 (stN h 1 t13 t7).bind fun h1 =>
 (aBinOp P .add 3 t7 (.int .i64 1)).bind fun t14 =>
 some { e := .normal, vs := [t2, t3, t6, t14], h := h1, c := ((((c + 1) + 1) + 1) + 1), df := df })
 (some { e := (.exit 0), vs := [t2, t3, t6, t7], h := h, c := (c + 1), df := df })
theorem f73_L73000_eq (o : Orc H) (rd : Option Nat) (t2 t3 t6 t7 : Value) (h : H) (c : Nat) (df : List Nat) : jx P o 16 rd f73_c73000 (tmOf [2, 3, 6, 7] [t2, t3, t6, t7]) h c df (Klp [2, 3, 6, 7]) = f73_L73000 o rd t2 t3 t6 t7 h c df := by kernel_rfl
/-- sphenoid/glue.inverse -/
noncomputable def f73_S (o : Orc H) (t0 : Value) (h : H) (c : Nat) : Option (Rt H) :=
 (bif (t0 : Value).cells.toList.all isFlat then
 (ldN (newB (newB (newB h (256 * c + 0) (t0 : Value).cells.toList) (256 * c + 1) [(.int .i64 0), (.int .i64 0), (.int .i64 0), (.int .i64 0)]) (256 * (c + 1) + 0) [(.int .i64 0), (.int .i64 0), (.int .i64 0), (.int .i64 0)]) 4 (ptrTo (256 * c + 0))).bind fun t6 =>
 (o (f73_k73000 none) [(ptrTo (256 * c + 1)), (ptrTo (256 * (c + 1) + 0)), t6, (.int .i64 0)] (newB (newB (newB h (256 * c + 0) (t0 : Value).cells.toList) (256 * c + 1) [(.int .i64 0), (.int .i64 0), (.int .i64 0), (.int .i64 0)]) (256 * (c + 1) + 0) [(.int .i64 0), (.int .i64 0), (.int .i64 0), (.int .i64 0)]) (((c + 1) + 1) + 1) []).bind fun r0 =>
 cond (exIs r0.e (.exit 0))
 ((ldN r0.h 4 (r0.v 1)).bind fun t15 =>
 (stN r0.h 4 (r0.v 0) t15).bind fun h2 =>
 (takeAll h2 r0.df).bind fun h3 =>
 (ldN h3 4 (r0.v 0)).bind fun v4 =>
 some { e := .ret, vs := [v4], h := h3, c := (r0.c + 1), df := [] })
 (none)
 else none)
theorem f73_S_eq (o : Orc H) (t0 : Value) (h : H) (c : Nat) : jx P o 16 none f73_c (tmOf (List.range 1) [t0]) h c [] (Kfn P Try.f73.results.toList) = f73_S o t0 h c := by kernel_rfl
theorem f73_go {t0 : Value} {h : FH} {c : Nat} {df : List Nat} {r : Rt FH} (e : f73_S G t0 h c = some r) : G (.fn 73) [t0] h c df = some (gcR h c [] r) := runG_fn (a := f73_f) bk_73 rfl (fun args h c => by cases args <;> rfl) rfl ((f73_S_eq G t0 h c).trans e)
theorem f73_N73000 {rd : Option Nat} {t2 t3 t6 t7 : Value} {h : FH} {c : Nat} {df : List Nat} {q r : Rt FH} (e : f73_L73000 G rd t2 t3 t6 t7 h c df = some q) (hq : q.e = .normal) (k : G (f73_k73000 rd) q.vs (gcR h c df q).h (gcR h c df q).c q.df = some r) : G (f73_k73000 rd) [t2, t3, t6, t7] h c df = some r := runG_lp_next ((f73_L73000_eq G rd t2 t3 t6 t7 h c df).trans e) hq k
theorem f73_Z73000 {rd : Option Nat} {t2 t3 t6 t7 : Value} {h : FH} {c : Nat} {df : List Nat} {q : Rt FH} (e : f73_L73000 G rd t2 t3 t6 t7 h c df = some q) (hq : q.e ≠ .normal) : G (f73_k73000 rd) [t2, t3, t6, t7] h c df = some (gcR h c df q) := runG_lp_last ((f73_L73000_eq G rd t2 t3 t6 t7 h c df).trans e) hq
/-- sphenoid/glue.compose -/
noncomputable def f110_S (o : Orc H) (t0 t1 : Value) (h : H) (c : Nat) : Option (Rt H) :=
 (bif (t0 : Value).cells.toList.all isFlat then
 (bif (t1 : Value).cells.toList.all isFlat then
 (ixA 4 1 (ptrTo (256 * c + 1)) (.int .i64 0)).bind fun t5 =>
 (ld1 (newB (newB (newB h (256 * c + 0) (t0 : Value).cells.toList) (256 * c + 1) (t1 : Value).cells.toList) (256 * c + 2) [(.int .i64 0), (.int .i64 0), (.int .i64 0), (.int .i64 0)]) t5).bind fun t6 =>
 (ixA 4 1 (ptrTo (256 * c + 0)) t6).bind fun t7 =>
 (ld1 (newB (newB (newB h (256 * c + 0) (t0 : Value).cells.toList) (256 * c + 1) (t1 : Value).cells.toList) (256 * c + 2) [(.int .i64 0), (.int .i64 0), (.int .i64 0), (.int .i64 0)]) t7).bind fun t8 =>
 (ixA 4 1 (ptrTo (256 * c + 1)) (.int .i64 1)).bind fun t9 =>
 (ld1 (newB (newB (newB h (256 * c + 0) (t0 : Value).cells.toList) (256 * c + 1) (t1 : Value).cells.toList) (256 * c + 2) [(.int .i64 0), (.int .i64 0), (.int .i64 0), (.int .i64 0)]) t9).bind fun t10 =>
 (ixA 4 1 (ptrTo (256 * c + 0)) t10).bind fun t11 =>
 (ld1 (newB (newB (newB h (256 * c + 0) (t0 : Value).cells.toList) (256 * c + 1) (t1 : Value).cells.toList) (256 * c + 2) [(.int .i64 0), (.int .i64 0), (.int .i64 0), (.int .i64 0)]) t11).bind fun t12 =>
 (ixA 4 1 (ptrTo (256 * c + 1)) (.int .i64 2)).bind fun t13 =>
 (ld1 (newB (newB (newB h (256 * c + 0) (t0 : Value).cells.toList) (256 * c + 1) (t1 : Value).cells.toList) (256 * c + 2) [(.int .i64 0), (.int .i64 0), (.int .i64 0), (.int .i64 0)]) t13).bind fun t14 =>
 (ixA 4 1 (ptrTo (256 * c + 0)) t14).bind fun t15 =>
 (ld1 (newB (newB (newB h (256 * c + 0) (t0 : Value).cells.toList) (256 * c + 1) (t1 : Value).cells.toList) (256 * c + 2) [(.int .i64 0), (.int .i64 0), (.int .i64 0), (.int .i64 0)]) t15).bind fun t16 =>
 (ixA 4 1 (ptrTo (256 * c + 1)) (.int .i64 3)).bind fun t17 =>
 (ld1 (newB (newB (newB h (256 * c + 0) (t0 : Value).cells.toList) (256 * c + 1) (t1 : Value).cells.toList) (256 * c + 2) [(.int .i64 0), (.int .i64 0), (.int .i64 0), (.int .i64 0)]) t17).bind fun t18 =>
 (ixA 4 1 (ptrTo (256 * c + 0)) t18).bind fun t19 =>
 (ld1 (newB (newB (newB h (256 * c + 0) (t0 : Value).cells.toList) (256 * c + 1) (t1 : Value).cells.toList) (256 * c + 2) [(.int .i64 0), (.int .i64 0), (.int .i64 0), (.int .i64 0)]) t19).bind fun t20 =>
 (bldV [(.int .i64 0), (.int .i64 0), (.int .i64 0), (.int .i64 0)] [(0, 1, t8), (1, 1, t12), (2, 1, t16), (3, 1, t20)]).bind fun t21 =>
 (stN (newB (newB (newB h (256 * c + 0) (t0 : Value).cells.toList) (256 * c + 1) (t1 : Value).cells.toList) (256 * c + 2) [(.int .i64 0), (.int .i64 0), (.int .i64 0), (.int .i64 0)]) 4 (ptrTo (256 * c + 2)) t21).bind fun h1 =>
 (ldN h1 4 (ptrTo (256 * c + 2))).bind fun v2 =>
 some { e := .ret, vs := [v2], h := h1, c := ((c + 1) + 1), df := [] }
 else none)
 else none)
theorem f110_S_eq (o : Orc H) (t0 t1 : Value) (h : H) (c : Nat) : jx P o 22 none f110_c (tmOf (List.range 2) [t0, t1]) h c [] (Kfn P Try.f110.results.toList) = f110_S o t0 t1 h c := by kernel_rfl
theorem f110_go {t0 t1 : Value} {h : FH} {c : Nat} {df : List Nat} {r : Rt FH} (e : f110_S G t0 t1 h c = some r) : G (.fn 110) [t0, t1] h c df = some (gcR h c [] r) := runG_fn (a := f110_f) bk_110 rfl (fun args h c => by cases args <;> rfl) rfl ((f110_S_eq G t0 t1 h c).trans e)
end Go.Proofs.Ytdbiilapiloaiaa.Base
