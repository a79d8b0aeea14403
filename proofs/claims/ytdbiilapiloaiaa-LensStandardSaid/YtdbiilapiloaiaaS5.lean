/- The shallow texts of the functions, with their equations. Printed by a program. -/
import Derived.Test.YtdbiilapiloaiaaK
set_option linter.all false
namespace Go.Proofs.Ytdbiilapiloaiaa
open Go Go.Ab Go.Proofs
set_option maxRecDepth 100000
set_option linter.unusedVariables false
variable {H : Type} [HeapC H]
/-- (sphenoid/lens.corner).face -/
noncomputable def f80_S (o : Orc H) (t0 : Value) (h : H) (c : Nat) : Option (Rt H) :=
 (bif (t0 : Value).cells.toList.all isFlat then
 (addOff (ptrTo (256 * c + 0)) 1).bind fun t3 =>
 (ixA 3 1 t3 (.int .i64 0)).bind fun t4 =>
 (ld1 (newB h (256 * c + 0) (t0 : Value).cells.toList) t4).bind fun t5 =>
 (aBinOp P .sub 3 (.int .i64 6) t5).bind fun t6 =>
 (addOff (ptrTo (256 * c + 0)) 1).bind fun t7 =>
 (ixA 3 1 t7 (.int .i64 1)).bind fun t8 =>
 (ld1 (newB h (256 * c + 0) (t0 : Value).cells.toList) t8).bind fun t9 =>
 (aBinOp P .sub 3 t6 t9).bind fun t10 =>
 (addOff (ptrTo (256 * c + 0)) 1).bind fun t11 =>
 (ixA 3 1 t11 (.int .i64 2)).bind fun t12 =>
 (ld1 (newB h (256 * c + 0) (t0 : Value).cells.toList) t12).bind fun t13 =>
 (aBinOp P .sub 3 t10 t13).bind fun t14 =>
 some { e := .ret, vs := [t14], h := (newB h (256 * c + 0) (t0 : Value).cells.toList), c := ((c + 1) + 1), df := [] }
 else none)
theorem f80_S_eq (o : Orc H) (t0 : Value) (h : H) (c : Nat) : jx P o 15 none f80_c (tmOf (List.range 1) [t0]) h c [] (Kfn P Try.f80.results.toList) = f80_S o t0 h c := by kernel_rfl
theorem f80_go {t0 : Value} {h : FH} {c : Nat} {df : List Nat} {r : Rt FH} (e : f80_S G t0 h c = some r) : G (.fn 80) [t0] h c df = some (gcR h c [] r) := runG_fn (a := f80_f) bk_80 rfl (fun args h c => by cases args <;> rfl) rfl ((f80_S_eq G t0 h c).trans e)
/-- sphenoid/glue.Inverse -/
noncomputable def f81_S (o : Orc H) (t0 : Value) (h : H) (c : Nat) : Option (Rt H) :=
 (bif (t0 : Value).cells.toList.all isFlat then
 (ldN (newB (newB h (256 * c + 0) (t0 : Value).cells.toList) (256 * c + 1) [(.int .i64 0), (.int .i64 0), (.int .i64 0), (.int .i64 0)]) 4 (ptrTo (256 * c + 0))).bind fun t3 =>
 (callF o 72 [t3] (newB (newB h (256 * c + 0) (t0 : Value).cells.toList) (256 * c + 1) [(.int .i64 0), (.int .i64 0), (.int .i64 0), (.int .i64 0)]) ((c + 1) + 1)).bind fun r0 =>
 (aUnOp .not r0.1).bind fun t5 =>
 boolK t5
 ((bldV [(.int .i64 0), (.int .i64 0), (.int .i64 0), (.int .i64 0)] []).bind fun t6 =>
 (stN r0.2.1 4 (ptrTo (256 * c + 1)) t6).bind fun h2 =>
 (ldN h2 4 (ptrTo (256 * c + 1))).bind fun v3 =>
 some { e := .ret, vs := [v3], h := h2, c := (r0.2.2 + 1), df := [] })
 ((ldN r0.2.1 4 (ptrTo (256 * c + 0))).bind fun t7 =>
 (callF o 73 [t7] r0.2.1 (r0.2.2 + 1)).bind fun r4 =>
 (stN r4.2.1 4 (ptrTo (256 * c + 1)) r4.1).bind fun h6 =>
 (ldN h6 4 (ptrTo (256 * c + 1))).bind fun v7 =>
 some { e := .ret, vs := [v7], h := h6, c := r4.2.2, df := [] })
 else none)
theorem f81_S_eq (o : Orc H) (t0 : Value) (h : H) (c : Nat) : jx P o 9 none f81_c (tmOf (List.range 1) [t0]) h c [] (Kfn P Try.f81.results.toList) = f81_S o t0 h c := by kernel_rfl
theorem f81_go {t0 : Value} {h : FH} {c : Nat} {df : List Nat} {r : Rt FH} (e : f81_S G t0 h c = some r) : G (.fn 81) [t0] h c df = some (gcR h c [] r) := runG_fn (a := f81_f) bk_81 rfl (fun args h c => by cases args <;> rfl) rfl ((f81_S_eq G t0 h c).trans e)
noncomputable def f86_L86001 (o : Orc H) (rd : Option Nat) (t0 t1 t3 t8 t9 t16 t17 : Value) (h : H) (c : Nat) (df : List Nat) : Option (Rt H) :=
 (aBinOp P .lss 3 t17 (.int .i64 4)).bind fun t18 =>
 boolK t18
 ((ixV 4 true 5 t16 t17).bind fun t20 =>
 (stN (newB h (256 * (c + 1) + 2) [(.int .i64 0), (.int .i64 0), (.int .i64 0), (.int .i64 0), (.int .i64 0)]) 5 (ptrTo (256 * (c + 1) + 2)) t20).bind fun h1 =>
 (bldV [(.int .i64 0), (.int .i64 0)] [(0, 1, t3), (1, 1, t17)]).bind fun t24 =>
 (ldN h1 5 (ptrTo (256 * (c + 1) + 2))).bind fun t25 =>
 (callV o h1 (((c + 1) + 1) + 1) t0 [t24, t25]).bind fun r2 =>
 (aUnOp .not r2.1).bind fun t27 =>
 boolK t27
  (some { e := .ret, vs := [t0, t1, t3, t8, t9, t16, t17], h := r2.2.1, c := r2.2.2, df := df })
  ((aBinOp P .add 3 t17 (.int .i64 1)).bind fun t28 =>
  some { e := .normal, vs := [t0, t1, t3, t8, t9, t16, t28], h := r2.2.1, c := (r2.2.2 + 1), df := df }))
 (some { e := (.exit 2), vs := [t0, t1, t3, t8, t9, t16, t17], h := h, c := (c + 1), df := df })
theorem f86_L86001_eq (o : Orc H) (rd : Option Nat) (t0 t1 t3 t8 t9 t16 t17 : Value) (h : H) (c : Nat) (df : List Nat) : jx P o 30 rd f86_c86001 (tmOf [0, 1, 3, 8, 9, 16, 17] [t0, t1, t3, t8, t9, t16, t17]) h c df (Klp [0, 1, 3, 8, 9, 16, 17]) = f86_L86001 o rd t0 t1 t3 t8 t9 t16 t17 h c df := by kernel_rfl
noncomputable def f86_L86000 (o : Orc H) (rd : Option Nat) (t0 t1 t8 t9 : Value) (h : H) (c : Nat) (df : List Nat) : Option (Rt H) :=
 (aBinOp P .lss 3 t9 t8).bind fun t10 =>
 boolK t10
 ((addOff t1 0).bind fun t12 =>
 (ld1 h t12).bind fun t13 =>
 (ixS 20 t13 t9).bind fun t15 =>
 (ldN h 20 t15).bind fun t16 =>
 (o (f86_k86001 rd) [t0, t1, t9, t8, t9, t16, (.int .i64 0)] h (((c + 1) + 1) + 1) df).bind fun r0 =>
 cond (exIs r0.e (.exit 2))
  ((aBinOp P .add 3 (r0.v 4) (.int .i64 1)).bind fun t29 =>
  some { e := .normal, vs := [(r0.v 0), (r0.v 1), (r0.v 3), t29], h := r0.h, c := (r0.c + 1), df := r0.df })
  (cond (exIs r0.e .ret)
   (some { e := .ret, vs := [(r0.v 0), (r0.v 1), (r0.v 3), (r0.v 4)], h := r0.h, c := r0.c, df := r0.df })
   (none)))
 (some { e := (.exit 0), vs := [t0, t1, t8, t9], h := h, c := (c + 1), df := df })
theorem f86_L86000_eq (o : Orc H) (rd : Option Nat) (t0 t1 t8 t9 : Value) (h : H) (c : Nat) (df : List Nat) : jx P o 30 rd f86_c86000 (tmOf [0, 1, 8, 9] [t0, t1, t8, t9]) h c df (Klp [0, 1, 8, 9]) = f86_L86000 o rd t0 t1 t8 t9 h c df := by kernel_rfl
/-- sphenoid/glue.faces$1 -/
noncomputable def f86_S (o : Orc H) (t0 t1 : Value) (h : H) (c : Nat) : Option (Rt H) :=
 (addOff t1 0).bind fun t6 =>
 (ld1 h t6).bind fun t7 =>
 (lenS t7).bind fun t8 =>
 (o (f86_k86000 none) [t0, t1, t8, (.int .i64 0)] h (c + 1) []).bind fun r0 =>
 cond (exIs r0.e (.exit 0))
 ((takeAll r0.h r0.df).bind fun h2 =>
 some { e := .ret, vs := [.tuple #[]], h := h2, c := r0.c, df := [] })
 (cond (exIs r0.e .ret)
  ((takeAll r0.h r0.df).bind fun h1 =>
  some { e := .ret, vs := [.tuple #[]], h := h1, c := r0.c, df := [] })
  (none))
theorem f86_S_eq (o : Orc H) (t0 t1 : Value) (h : H) (c : Nat) : jx P o 30 none f86_c (tmOf (List.range 2) [t0, t1]) h c [] (Kfn P Try.f86.results.toList) = f86_S o t0 t1 h c := by kernel_rfl
theorem f86_go {t0 t1 : Value} {h : FH} {c : Nat} {df : List Nat} {r : Rt FH} (e : f86_S G t0 t1 h c = some r) : G (.fn 86) [t0, t1] h c df = some (gcR h c [] r) := runG_fn (a := f86_f) bk_86 rfl (fun args h c => by cases args <;> rfl) rfl ((f86_S_eq G t0 t1 h c).trans e)
theorem f86_N86001 {rd : Option Nat} {t0 t1 t3 t8 t9 t16 t17 : Value} {h : FH} {c : Nat} {df : List Nat} {q r : Rt FH} (e : f86_L86001 G rd t0 t1 t3 t8 t9 t16 t17 h c df = some q) (hq : q.e = .normal) (k : G (f86_k86001 rd) q.vs q.h q.c q.df = some r) : G (f86_k86001 rd) [t0, t1, t3, t8, t9, t16, t17] h c df = some r := runG_lp_next ((f86_L86001_eq G rd t0 t1 t3 t8 t9 t16 t17 h c df).trans e) hq k
theorem f86_Z86001 {rd : Option Nat} {t0 t1 t3 t8 t9 t16 t17 : Value} {h : FH} {c : Nat} {df : List Nat} {q : Rt FH} (e : f86_L86001 G rd t0 t1 t3 t8 t9 t16 t17 h c df = some q) (hq : q.e ≠ .normal) : G (f86_k86001 rd) [t0, t1, t3, t8, t9, t16, t17] h c df = some q := runG_lp_last ((f86_L86001_eq G rd t0 t1 t3 t8 t9 t16 t17 h c df).trans e) hq
theorem f86_N86000 {rd : Option Nat} {t0 t1 t8 t9 : Value} {h : FH} {c : Nat} {df : List Nat} {q r : Rt FH} (e : f86_L86000 G rd t0 t1 t8 t9 h c df = some q) (hq : q.e = .normal) (k : G (f86_k86000 rd) q.vs q.h q.c q.df = some r) : G (f86_k86000 rd) [t0, t1, t8, t9] h c df = some r := runG_lp_next ((f86_L86000_eq G rd t0 t1 t8 t9 h c df).trans e) hq k
theorem f86_Z86000 {rd : Option Nat} {t0 t1 t8 t9 : Value} {h : FH} {c : Nat} {df : List Nat} {q : Rt FH} (e : f86_L86000 G rd t0 t1 t8 t9 h c df = some q) (hq : q.e ≠ .normal) : G (f86_k86000 rd) [t0, t1, t8, t9] h c df = some q := runG_lp_last ((f86_L86000_eq G rd t0 t1 t8 t9 h c df).trans e) hq
noncomputable def f87_R87001 (o : Orc H) (l : Nat) (t30 t1 t5 t6 t7 : Value) (h : H) (c : Nat) : Option (Rt H) :=
 (stN (newB h (256 * c + 0) [(.int .i64 0), (.int .i64 0), (.int .i64 0), (.int .i64 0)]) 4 (ptrTo (256 * c + 0)) t30).bind fun h1 =>
 (beginSt h1 l).bind fun h2 =>
 (ldN h2 1 t1).bind fun t31 =>
 (ld1 h2 t6).bind fun t32 =>
 (ldN h2 4 (ptrTo (256 * c + 0))).bind fun t33 =>
 (ld1 h2 t5).bind fun t34 =>
 (ld1 h2 t7).bind fun t35 =>
 (ixS 1 t34 t35).bind fun t36 =>
 (ld1 h2 t36).bind fun t37 =>
 (callF o 97 [t31, t32, t33, t37] h2 ((c + 1) + 1)).bind fun r3 =>
 (aBinOp P .neq 155 r3.1 (.pointer none)).bind fun t40 =>
 (boolK t40
  ((ld1 r3.2.1 t5).bind fun t41 =>
  (ld1 r3.2.1 t7).bind fun t42 =>
  (ixS 1 t41 t42).bind fun t44 =>
  (stN r3.2.1 1 t44 r3.1).bind fun h5 =>
  some { e := .normal, vs := [], h := h5, c := ((r3.2.2 + 1) + 1), df := [] })
  (some { e := .normal, vs := [], h := r3.2.1, c := (r3.2.2 + 1), df := [] }) : Option (Rt H)).bind fun r6 =>
 cond (exIs r6.e .normal)
 ((setState r6.h l .ready none).bind fun h7 =>
 cond (List.isEmpty (r6.df : List Nat)) (some { e := .ret, vs := [.bool true], h := h7, c := r6.c, df := [] }) none)
 (none)
theorem f87_R87001_eq (o : Orc H) (l : Nat) (t30 t1 t5 t6 t7 : Value) (h : H) (c : Nat) : jx P o 49 (some l) f87_a87001 (tmOf ([30] ++ [1, 5, 6, 7]) [t30, t1, t5, t6, t7]) h c [] (rndK P o 49 l f87_c87001) = f87_R87001 o l t30 t1 t5 t6 t7 h c := by kernel_rfl
noncomputable def f87_L87000 (o : Orc H) (rd : Option Nat) (t1 t5 t15 t16 t17 : Value) (h : H) (c : Nat) (df : List Nat) : Option (Rt H) :=
 (aBinOp P .lss 3 t17 t16).bind fun t18 =>
 boolK t18
 ((ixS 1 t15 t17).bind fun t20 =>
 (ld1 h t20).bind fun t21 =>
 (stN (newB (newB h (256 * (c + 1) + 3) [(.int .i64 0)]) (256 * (c + 1) + 4) [(.int .i64 0)]) 1 (ptrTo (256 * (c + 1) + 3)) t17).bind fun h1 =>
 (stN h1 1 (ptrTo (256 * (c + 1) + 4)) t21).bind fun h3 =>
 (ld1 h3 (ptrTo (256 * (c + 1) + 4))).bind fun t22 =>
 (ld1 h3 t5).bind fun t23 =>
 (lenS t23).bind fun t24 =>
 (aBinOp P .eql 3 t22 t24).bind fun t25 =>
 (boolK t25
   ((ld1 h3 t5).bind fun t26 =>
   (bldL [(.pointer none)] [(0, 1, (.pointer none))]).bind fun r4 =>
   (appV (newB h3 (256 * (((c + 1) + 1) + 1) + 1) r4) (256 * (((c + 1) + 1) + 1) + 2) 1 8 t26 (.slice (some ⟨(256 * (((c + 1) + 1) + 1) + 1), 0, none⟩) 1 1)).bind fun r5 =>
   (stN r5.2 1 t5 r5.1).bind fun h7 =>
   some { e := .normal, vs := [t1, t5, (ptrTo (256 * (c + 1) + 3)), (ptrTo (256 * (c + 1) + 4)), t15, t16, t17], h := h7, c := ((((c + 1) + 1) + 1) + 1), df := df })
   (some { e := .normal, vs := [t1, t5, (ptrTo (256 * (c + 1) + 3)), (ptrTo (256 * (c + 1) + 4)), t15, t16, t17], h := h3, c := (((c + 1) + 1) + 1), df := df }) : Option (Rt H)).bind fun r8 =>
 cond (exIs r8.e .normal)
  ((callF o 96 [] r8.h (r8.c + 1)).bind fun r9 =>
  (rangeV o 49 rd [1, 5, 6, 7] [] #[30] f87_a87001 f87_c87001 r9.1 [(r8.v 0), (r8.v 1), (r8.v 2), (r8.v 3)] r9.2.1 r9.2.2 r8.df).bind fun q10 =>
  cond (exIs q10.1 .normal)
   ((aBinOp P .add 3 (r8.v 6) (.int .i64 1)).bind fun t45 =>
   some { e := .normal, vs := [(r8.v 0), (r8.v 1), (r8.v 4), (r8.v 5), t45], h := q10.2.1, c := (q10.2.2.1 + 1), df := q10.2.2.2 })
   (none))
  (none))
 (some { e := (.exit 0), vs := [t1, t5, t15, t16, t17], h := h, c := (c + 1), df := df })
theorem f87_L87000_eq (o : Orc H) (rd : Option Nat) (t1 t5 t15 t16 t17 : Value) (h : H) (c : Nat) (df : List Nat) : jx P o 49 rd f87_c87000 (tmOf [1, 5, 15, 16, 17] [t1, t5, t15, t16, t17]) h c df (Klp [1, 5, 15, 16, 17]) = f87_L87000 o rd t1 t5 t15 t16 t17 h c df := by kernel_rfl
/-- sphenoid/iso.parts -/
noncomputable def f87_S (o : Orc H) (t0 : Value) (h : H) (c : Nat) : Option (Rt H) :=
 (bif (t0 : Value).cells.toList.all isFlat then
 (ldN (newB h (256 * c + 0) (t0 : Value).cells.toList) 1 (ptrTo (256 * c + 0))).bind fun t11 =>
 (callF o 95 [t11] (newB h (256 * c + 0) (t0 : Value).cells.toList) ((c + 1) + 1)).bind fun r0 =>
 (extV r0.1 0).bind fun t13 =>
 (extV r0.1 1).bind fun t14 =>
 (lenS t13).bind fun t16 =>
 (o (f87_k87000 none) [(ptrTo (256 * c + 0)), (ptrTo (256 * r0.2.2 + 0)), t13, t16, (.int .i64 0)] (newB r0.2.1 (256 * r0.2.2 + 0) [(.slice none 0 0)]) ((r0.2.2 + 1) + 1) []).bind fun r1 =>
 cond (exIs r1.e (.exit 0))
 ((ld1 r1.h (r1.v 1)).bind fun t46 =>
 (callF o 98 [t46, (.func (.func 99) #[] #[])] r1.h (r1.c + 1)).bind fun r2 =>
 (ld1 r2.2.1 (r1.v 1)).bind fun t48 =>
 (takeAll r2.2.1 r1.df).bind fun h3 =>
 some { e := .ret, vs := [t48], h := h3, c := (r2.2.2 + 1), df := [] })
 (none)
 else none)
theorem f87_S_eq (o : Orc H) (t0 : Value) (h : H) (c : Nat) : jx P o 49 none f87_c (tmOf (List.range 1) [t0]) h c [] (Kfn P Try.f87.results.toList) = f87_S o t0 h c := by kernel_rfl
theorem f87_go {t0 : Value} {h : FH} {c : Nat} {df : List Nat} {r : Rt FH} (e : f87_S G t0 h c = some r) : G (.fn 87) [t0] h c df = some (gcR h c [] r) := runG_fn (a := f87_f) bk_87 rfl (fun args h c => by cases args <;> rfl) rfl ((f87_S_eq G t0 h c).trans e)
theorem f87_N87000 {rd : Option Nat} {t1 t5 t15 t16 t17 : Value} {h : FH} {c : Nat} {df : List Nat} {q r : Rt FH} (e : f87_L87000 G rd t1 t5 t15 t16 t17 h c df = some q) (hq : q.e = .normal) (k : G (f87_k87000 rd) q.vs q.h q.c q.df = some r) : G (f87_k87000 rd) [t1, t5, t15, t16, t17] h c df = some r := runG_lp_next ((f87_L87000_eq G rd t1 t5 t15 t16 t17 h c df).trans e) hq k
theorem f87_Z87000 {rd : Option Nat} {t1 t5 t15 t16 t17 : Value} {h : FH} {c : Nat} {df : List Nat} {q : Rt FH} (e : f87_L87000 G rd t1 t5 t15 t16 t17 h c df = some q) (hq : q.e ≠ .normal) : G (f87_k87000 rd) [t1, t5, t15, t16, t17] h c df = some q := runG_lp_last ((f87_L87000_eq G rd t1 t5 t15 t16 t17 h c df).trans e) hq
theorem f87_G87001 {t30 t1 t5 t6 t7 : Value} {l : Nat} {h : FH} {c : Nat} {df : List Nat} {r : Rt FH} (e : f87_R87001 G l t30 t1 t5 t6 t7 h c = some r) : G (.rnd 49 [1, 5, 6, 7] [] [30] l f87_a87001 f87_c87001) [t30, t1, t5, t6, t7] h c df = some r := runG_rnd ((f87_R87001_eq G l t30 t1 t5 t6 t7 h c).trans e)
/-- sphenoid/glue.Parts -/
noncomputable def f95_S (o : Orc H) (t0 : Value) (h : H) (c : Nat) : Option (Rt H) :=
 (bif (t0 : Value).cells.toList.all isFlat then
 (ldN (newB h (256 * c + 0) (t0 : Value).cells.toList) 1 (ptrTo (256 * c + 0))).bind fun t7 =>
 (callF o 48 [t7] (newB h (256 * c + 0) (t0 : Value).cells.toList) ((c + 1) + 1)).bind fun r0 =>
 (aBinOp P .neq 31 r0.1 (.int .i64 0)).bind fun t10 =>
 boolK t10
 (some { e := .ret, vs := [.tuple #[(.slice none 0 0), r0.1]], h := r0.2.1, c := ((r0.2.2 + 1) + 1), df := [] })
 ((ldN r0.2.1 1 (ptrTo (256 * c + 0))).bind fun t13 =>
 (callF o 102 [t13] r0.2.1 ((r0.2.2 + 1) + 1)).bind fun r1 =>
 (extV r1.1 0).bind fun t15 =>
 (extV r1.1 1).bind fun t16 =>
 some { e := .ret, vs := [.tuple #[t15, (.int .i64 0)]], h := r1.2.1, c := (r1.2.2 + 1), df := [] })
 else none)
theorem f95_S_eq (o : Orc H) (t0 : Value) (h : H) (c : Nat) : jx P o 18 none f95_c (tmOf (List.range 1) [t0]) h c [] (Kfn P Try.f95.results.toList) = f95_S o t0 h c := by kernel_rfl
theorem f95_go {t0 : Value} {h : FH} {c : Nat} {df : List Nat} {r : Rt FH} (e : f95_S G t0 h c = some r) : G (.fn 95) [t0] h c df = some (gcR h c [] r) := runG_fn (a := f95_f) bk_95 rfl (fun args h c => by cases args <;> rfl) rfl ((f95_S_eq G t0 h c).trans e)
/-- sphenoid/iso.perms -/
noncomputable def f96_S (o : Orc H) (h : H) (c : Nat) : Option (Rt H) :=
 some { e := .ret, vs := [(.func (.func 103) #[] #[])], h := h, c := ((c + 1) + 1), df := [] }
theorem f96_S_eq (o : Orc H) (h : H) (c : Nat) : jx P o 1 none f96_c (tmOf (List.range 0) []) h c [] (Kfn P Try.f96.results.toList) = f96_S o h c := by kernel_rfl
theorem f96_go {h : FH} {c : Nat} {df : List Nat} {r : Rt FH} (e : f96_S G h c = some r) : G (.fn 96) [] h c df = some (gcR h c [] r) := runG_fn (a := f96_f) bk_96 rfl (fun args h c => by cases args <;> rfl) rfl ((f96_S_eq G h c).trans e)
noncomputable def f97_L97000 (o : Orc H) (rd : Option Nat) (t3 t8 t9 t10 t11 : Value) (h : H) (c : Nat) (df : List Nat) : Option (Rt H) :=
 (aNilCheck t9).bind fun t26 =>
 (addOff t26 1).bind fun t27 =>
 (addOff t27 0).bind fun t28 =>
 (ld1 h t28).bind fun t29 =>
 (lenS t29).bind fun t30 =>
 (aBinOp P .lss 3 t11 t30).bind fun t31 =>
 boolK t31
 ((callF o 105 [t9, t11] h ((c + 1) + 1)).bind fun r0 =>
 (stN (newB r0.2.1 (256 * (c + 1) + 3) [(.int .i64 0), (.int .i64 0), (.int .i64 0), (.int .i64 0), (.int .i64 0), (.int .i64 0), (.int .i64 0), (.int .i64 0), (.int .i64 0), (.int .i64 0), (.int .i64 0), (.int .i64 0), (.int .i64 0), (.int .i64 0), (.int .i64 0), (.int .i64 0), (.int .i64 0), (.int .i64 0), (.int .i64 0), (.int .i64 0)]) 20 (ptrTo (256 * (c + 1) + 3)) r0.1).bind fun h2 =>
 (aUnOp .not t10).bind fun t38 =>
 (boolK t38
   ((ldN h2 20 (ptrTo (256 * (c + 1) + 3))).bind fun t39 =>
   (aNilCheck t3).bind fun t41 =>
   (addOff t41 4).bind fun t42 =>
   (ld1 h2 t42).bind fun t43 =>
   (ixS 20 t43 t11).bind fun t45 =>
   (ldN h2 20 t45).bind fun t46 =>
   (callF o 101 [t39, t46] h2 ((r0.2.2 + 1) + 1)).bind fun r3 =>
   (aBinOp P .gtr 3 r3.1 (.int .i64 0)).bind fun t50 =>
   boolK t50
    (some { e := .ret, vs := [t3, (.pointer none), t9, t10, t11], h := r3.2.1, c := ((r3.2.2 + 1) + 1), df := df })
    ((aBinOp P .lss 3 r3.1 (.int .i64 0)).bind fun t53 =>
    (boolK t53
      (some { e := .normal, vs := [t3, t8, t9, (.bool true), t11, (ptrTo (256 * (c + 1) + 3))], h := r3.2.1, c := (((r3.2.2 + 1) + 1) + 1), df := df })
      (some { e := .normal, vs := [t3, t8, t9, t10, t11, (ptrTo (256 * (c + 1) + 3))], h := r3.2.1, c := ((r3.2.2 + 1) + 1), df := df }) : Option (Rt H)).bind fun r6 =>
    cond (exIs r6.e .normal)
     (some { e := .normal, vs := [(r6.v 0), (r6.v 1), (r6.v 2), (r6.v 3), (r6.v 4), (r6.v 5)], h := r6.h, c := r6.c, df := r6.df })
     (none)))
   (some { e := .normal, vs := [t3, t8, t9, t10, t11, (ptrTo (256 * (c + 1) + 3))], h := h2, c := (r0.2.2 + 1), df := df }) : Option (Rt H)).bind fun r7 =>
 cond (exIs r7.e .ret)
  (some { e := .ret, vs := [(r7.v 0), (r7.v 1), (r7.v 2), (r7.v 3), (r7.v 4)], h := r7.h, c := r7.c, df := r7.df })
  (cond (exIs r7.e .normal)
   ((aNilCheck (r7.v 2)).bind fun t56 =>
   (addOff t56 4).bind fun t57 =>
   (ld1 r7.h t57).bind fun t58 =>
   (ldN r7.h 20 (r7.v 5)).bind fun t59 =>
   (bldL [(.int .i64 0), (.int .i64 0), (.int .i64 0), (.int .i64 0), (.int .i64 0), (.int .i64 0), (.int .i64 0), (.int .i64 0), (.int .i64 0), (.int .i64 0), (.int .i64 0), (.int .i64 0), (.int .i64 0), (.int .i64 0), (.int .i64 0), (.int .i64 0), (.int .i64 0), (.int .i64 0), (.int .i64 0), (.int .i64 0)] [(0, 20, t59)]).bind fun r8 =>
   (appV (newB r7.h (256 * r7.c + 6) r8) (256 * r7.c + 7) 20 160 t58 (.slice (some ⟨(256 * r7.c + 6), 0, none⟩) 1 1)).bind fun r9 =>
   (aNilCheck (r7.v 2)).bind fun t62 =>
   (addOff t62 4).bind fun t63 =>
   (stN r9.2 1 t63 r9.1).bind fun h11 =>
   (aBinOp P .add 3 (r7.v 4) (.int .i64 1)).bind fun t33 =>
   some { e := .normal, vs := [(r7.v 0), (r7.v 1), (r7.v 2), (r7.v 3), t33], h := h11, c := ((r7.c + 1) + 1), df := r7.df })
   (none)))
 (some { e := (.exit 0), vs := [t3, t8, t9, t10, t11], h := h, c := (c + 1), df := df })
theorem f97_L97000_eq (o : Orc H) (rd : Option Nat) (t3 t8 t9 t10 t11 : Value) (h : H) (c : Nat) (df : List Nat) : jx P o 67 rd f97_c97000 (tmOf [3, 8, 9, 10, 11] [t3, t8, t9, t10, t11]) h c df (Klp [3, 8, 9, 10, 11]) = f97_L97000 o rd t3 t8 t9 t10 t11 h c df := by kernel_rfl
/-- sphenoid/iso.standard -/
noncomputable def f97_S (o : Orc H) (t0 t1 t2 t3 : Value) (h : H) (c : Nat) : Option (Rt H) :=
 (bif (t0 : Value).cells.toList.all isFlat then
 (bif (t2 : Value).cells.toList.all isFlat then
 (ldN (newB (newB h (256 * c + 0) (t0 : Value).cells.toList) (256 * c + 1) (t2 : Value).cells.toList) 1 (ptrTo (256 * c + 0))).bind fun t14 =>
 (bldV [(.slice none 0 0), (.slice none 0 0), (.slice none 0 0), (.map none), (.slice none 0 0)] [(0, 1, t14), (3, 1, (.map (some (256 * (c + 1) + 1))))]).bind fun t16 =>
 (bif (t16 : Value).cells.toList.all isFlat then
 (ldN (newB (HeapC.set (newB (newB h (256 * c + 0) (t0 : Value).cells.toList) (256 * c + 1) (t2 : Value).cells.toList) (256 * (c + 1) + 1) (.map [])) (256 * (c + 1) + 3) (t16 : Value).cells.toList) 4 (ptrTo (256 * c + 1))).bind fun t20 =>
 (callF o 104 [(ptrTo (256 * (c + 1) + 3)), t1, t20] (newB (HeapC.set (newB (newB h (256 * c + 0) (t0 : Value).cells.toList) (256 * c + 1) (t2 : Value).cells.toList) (256 * (c + 1) + 1) (.map [])) (256 * (c + 1) + 3) (t16 : Value).cells.toList) (((c + 1) + 1) + 1)).bind fun r0 =>
 (aBinOp P .eql 155 t3 (.pointer none)).bind fun t23 =>
 (o (f97_k97000 none) [t3, (.pointer none), (ptrTo (256 * (c + 1) + 3)), t23, (.int .i64 0)] r0.2.1 ((r0.2.2 + 1) + 1) []).bind fun r1 =>
 cond (exIs r1.e (.exit 0))
 ((aUnOp .not (r1.v 3)).bind fun t65 =>
 boolK t65
  ((takeAll r1.h r1.df).bind fun h3 =>
  some { e := .ret, vs := [(.pointer none)], h := h3, c := ((r1.c + 1) + 1), df := [] })
  ((takeAll r1.h r1.df).bind fun h4 =>
  some { e := .ret, vs := [(r1.v 2)], h := h4, c := ((r1.c + 1) + 1), df := [] }))
 (cond (exIs r1.e .ret)
  ((takeAll r1.h r1.df).bind fun h2 =>
  some { e := .ret, vs := [(r1.v 1)], h := h2, c := r1.c, df := [] })
  (none))
 else none)
 else none)
 else none)
theorem f97_S_eq (o : Orc H) (t0 t1 t2 t3 : Value) (h : H) (c : Nat) : jx P o 67 none f97_c (tmOf (List.range 4) [t0, t1, t2, t3]) h c [] (Kfn P Try.f97.results.toList) = f97_S o t0 t1 t2 t3 h c := by kernel_rfl
theorem f97_go {t0 t1 t2 t3 : Value} {h : FH} {c : Nat} {df : List Nat} {r : Rt FH} (e : f97_S G t0 t1 t2 t3 h c = some r) : G (.fn 97) [t0, t1, t2, t3] h c df = some (gcR h c [] r) := runG_fn (a := f97_f) bk_97 rfl (fun args h c => by cases args <;> rfl) rfl ((f97_S_eq G t0 t1 t2 t3 h c).trans e)
theorem f97_N97000 {rd : Option Nat} {t3 t8 t9 t10 t11 : Value} {h : FH} {c : Nat} {df : List Nat} {q r : Rt FH} (e : f97_L97000 G rd t3 t8 t9 t10 t11 h c df = some q) (hq : q.e = .normal) (k : G (f97_k97000 rd) q.vs q.h q.c q.df = some r) : G (f97_k97000 rd) [t3, t8, t9, t10, t11] h c df = some r := runG_lp_next ((f97_L97000_eq G rd t3 t8 t9 t10 t11 h c df).trans e) hq k
theorem f97_Z97000 {rd : Option Nat} {t3 t8 t9 t10 t11 : Value} {h : FH} {c : Nat} {df : List Nat} {q : Rt FH} (e : f97_L97000 G rd t3 t8 t9 t10 t11 h c df = some q) (hq : q.e ≠ .normal) : G (f97_k97000 rd) [t3, t8, t9, t10, t11] h c df = some q := runG_lp_last ((f97_L97000_eq G rd t3 t8 t9 t10 t11 h c df).trans e) hq
/-- slices.SortStableFunc[[]*sphenoid/iso.numbering,*sphenoid/iso.numbering] -/
noncomputable def f98_S (o : Orc H) (t0 t1 : Value) (h : H) (c : Nat) : Option (Rt H) :=
 (lenS t0).bind fun t6 =>
 (callF o 106 [t0, t6, t1] h (c + 1)).bind fun r0 =>
 some { e := .ret, vs := [.tuple #[]], h := r0.2.1, c := r0.2.2, df := [] }
theorem f98_S_eq (o : Orc H) (t0 t1 : Value) (h : H) (c : Nat) : jx P o 9 none f98_c (tmOf (List.range 2) [t0, t1]) h c [] (Kfn P Try.f98.results.toList) = f98_S o t0 t1 h c := by kernel_rfl
theorem f98_go {t0 t1 : Value} {h : FH} {c : Nat} {df : List Nat} {r : Rt FH} (e : f98_S G t0 t1 h c = some r) : G (.fn 98) [t0, t1] h c df = some (gcR h c [] r) := runG_fn (a := f98_f) bk_98 rfl (fun args h c => by cases args <;> rfl) rfl ((f98_S_eq G t0 t1 h c).trans e)
/-- sphenoid/iso.parts$1 -/
noncomputable def f99_S (o : Orc H) (t0 t1 : Value) (h : H) (c : Nat) : Option (Rt H) :=
 (aNilCheck t0).bind fun t6 =>
 (addOff t6 4).bind fun t7 =>
 (ld1 h t7).bind fun t8 =>
 (lenS t8).bind fun t9 =>
 (aNilCheck t1).bind fun t11 =>
 (addOff t11 4).bind fun t12 =>
 (ld1 h t12).bind fun t13 =>
 (lenS t13).bind fun t14 =>
 (aBinOp P .neq 3 t9 t14).bind fun t15 =>
 boolK t15
 ((aNilCheck t0).bind fun t17 =>
 (addOff t17 4).bind fun t18 =>
 (ld1 h t18).bind fun t19 =>
 (lenS t19).bind fun t20 =>
 (aNilCheck t1).bind fun t22 =>
 (addOff t22 4).bind fun t23 =>
 (ld1 h t23).bind fun t24 =>
 (lenS t24).bind fun t25 =>
 (aBinOp P .sub 3 t20 t25).bind fun t26 =>
 some { e := .ret, vs := [t26], h := h, c := (((c + 1) + 1) + 1), df := [] })
 ((aNilCheck t0).bind fun t28 =>
 (addOff t28 4).bind fun t29 =>
 (ld1 h t29).bind fun t30 =>
 (aNilCheck t1).bind fun t32 =>
 (addOff t32 4).bind fun t33 =>
 (ld1 h t33).bind fun t34 =>
 (callF o 100 [t30, t34, (.func (.func 101) #[] #[])] h (((c + 1) + 1) + 1)).bind fun r0 =>
 some { e := .ret, vs := [r0.1], h := r0.2.1, c := r0.2.2, df := [] })
theorem f99_S_eq (o : Orc H) (t0 t1 : Value) (h : H) (c : Nat) : jx P o 36 none f99_c (tmOf (List.range 2) [t0, t1]) h c [] (Kfn P Try.f99.results.toList) = f99_S o t0 t1 h c := by kernel_rfl
theorem f99_go {t0 t1 : Value} {h : FH} {c : Nat} {df : List Nat} {r : Rt FH} (e : f99_S G t0 t1 h c = some r) : G (.fn 99) [t0, t1] h c df = some (gcR h c [] r) := runG_fn (a := f99_f) bk_99 rfl (fun args h c => by cases args <;> rfl) rfl ((f99_S_eq G t0 t1 h c).trans e)
noncomputable def f100_L100000 (o : Orc H) (rd : Option Nat) (t0 t1 t2 t6 t11 t12 t13 : Value) (h : H) (c : Nat) (df : List Nat) : Option (Rt H) :=
 (aBinOp P .lss 3 t13 t12).bind fun t14 =>
 boolK t14
 ((ixS 20 t11 t13).bind fun t16 =>
 (ldN h 20 t16).bind fun t17 =>
 (stN (newB h (256 * (c + 1) + 3) [(.int .i64 0), (.int .i64 0), (.int .i64 0), (.int .i64 0), (.int .i64 0), (.int .i64 0), (.int .i64 0), (.int .i64 0), (.int .i64 0), (.int .i64 0), (.int .i64 0), (.int .i64 0), (.int .i64 0), (.int .i64 0), (.int .i64 0), (.int .i64 0), (.int .i64 0), (.int .i64 0), (.int .i64 0), (.int .i64 0)]) 20 (ptrTo (256 * (c + 1) + 3)) t17).bind fun h1 =>
 (lenS t1).bind fun t20 =>
 (aBinOp P .geq 3 t13 t20).bind fun t21 =>
 boolK t21
  (some { e := .ret, vs := [t0, t1, t2, (.int .i64 1), t11, t12, t13], h := h1, c := ((((c + 1) + 1) + 1) + 1), df := df })
  ((ixS 20 t1 t13).bind fun t24 =>
  (ldN h1 20 t24).bind fun t25 =>
  (stN (newB h1 (256 * (((c + 1) + 1) + 1) + 4) [(.int .i64 0), (.int .i64 0), (.int .i64 0), (.int .i64 0), (.int .i64 0), (.int .i64 0), (.int .i64 0), (.int .i64 0), (.int .i64 0), (.int .i64 0), (.int .i64 0), (.int .i64 0), (.int .i64 0), (.int .i64 0), (.int .i64 0), (.int .i64 0), (.int .i64 0), (.int .i64 0), (.int .i64 0), (.int .i64 0)]) 20 (ptrTo (256 * (((c + 1) + 1) + 1) + 4)) t25).bind fun h4 =>
  (ldN h4 20 (ptrTo (256 * (c + 1) + 3))).bind fun t27 =>
  (ldN h4 20 (ptrTo (256 * (((c + 1) + 1) + 1) + 4))).bind fun t28 =>
  (callV o h4 (((((c + 1) + 1) + 1) + 1) + 1) t2 [t27, t28]).bind fun r5 =>
  (aBinOp P .neq 3 r5.1 (.int .i64 0)).bind fun t31 =>
  boolK t31
   (some { e := .ret, vs := [t0, t1, t2, r5.1, t11, t12, t13], h := r5.2.1, c := ((r5.2.2 + 1) + 1), df := df })
   ((aBinOp P .add 3 t13 (.int .i64 1)).bind fun t33 =>
   some { e := .normal, vs := [t0, t1, t2, t6, t11, t12, t33], h := r5.2.1, c := ((r5.2.2 + 1) + 1), df := df })))
 (some { e := (.exit 0), vs := [t0, t1, t2, t6, t11, t12, t13], h := h, c := (c + 1), df := df })
theorem f100_L100000_eq (o : Orc H) (rd : Option Nat) (t0 t1 t2 t6 t11 t12 t13 : Value) (h : H) (c : Nat) (df : List Nat) : jx P o 39 rd f100_c100000 (tmOf [0, 1, 2, 6, 11, 12, 13] [t0, t1, t2, t6, t11, t12, t13]) h c df (Klp [0, 1, 2, 6, 11, 12, 13]) = f100_L100000 o rd t0 t1 t2 t6 t11 t12 t13 h c df := by kernel_rfl
/-- slices.CompareFunc[[][4]sphenoid/api.Face,[][4]sphenoid/api.Face,[4]sphenoid/api.Face,[4]sphenoid/api.Face] -/
noncomputable def f100_S (o : Orc H) (t0 t1 t2 : Value) (h : H) (c : Nat) : Option (Rt H) :=
 (lenS t0).bind fun t12 =>
 (o (f100_k100000 none) [t0, t1, t2, (.int .i64 0), t0, t12, (.int .i64 0)] h ((c + 1) + 1) []).bind fun r0 =>
 cond (exIs r0.e (.exit 0))
 ((lenS (r0.v 0)).bind fun t35 =>
 (lenS (r0.v 1)).bind fun t37 =>
 (aBinOp P .lss 3 t35 t37).bind fun t38 =>
 boolK t38
  ((takeAll r0.h r0.df).bind fun h2 =>
  some { e := .ret, vs := [(.int .i64 (-1))], h := h2, c := ((r0.c + 1) + 1), df := [] })
  ((takeAll r0.h r0.df).bind fun h3 =>
  some { e := .ret, vs := [(.int .i64 0)], h := h3, c := ((r0.c + 1) + 1), df := [] }))
 (cond (exIs r0.e .ret)
  ((takeAll r0.h r0.df).bind fun h1 =>
  some { e := .ret, vs := [(r0.v 3)], h := h1, c := r0.c, df := [] })
  (none))
theorem f100_S_eq (o : Orc H) (t0 t1 t2 : Value) (h : H) (c : Nat) : jx P o 39 none f100_c (tmOf (List.range 3) [t0, t1, t2]) h c [] (Kfn P Try.f100.results.toList) = f100_S o t0 t1 t2 h c := by kernel_rfl
theorem f100_go {t0 t1 t2 : Value} {h : FH} {c : Nat} {df : List Nat} {r : Rt FH} (e : f100_S G t0 t1 t2 h c = some r) : G (.fn 100) [t0, t1, t2] h c df = some (gcR h c [] r) := runG_fn (a := f100_f) bk_100 rfl (fun args h c => by cases args <;> rfl) rfl ((f100_S_eq G t0 t1 t2 h c).trans e)
theorem f100_N100000 {rd : Option Nat} {t0 t1 t2 t6 t11 t12 t13 : Value} {h : FH} {c : Nat} {df : List Nat} {q r : Rt FH} (e : f100_L100000 G rd t0 t1 t2 t6 t11 t12 t13 h c df = some q) (hq : q.e = .normal) (k : G (f100_k100000 rd) q.vs q.h q.c q.df = some r) : G (f100_k100000 rd) [t0, t1, t2, t6, t11, t12, t13] h c df = some r := runG_lp_next ((f100_L100000_eq G rd t0 t1 t2 t6 t11 t12 t13 h c df).trans e) hq k
theorem f100_Z100000 {rd : Option Nat} {t0 t1 t2 t6 t11 t12 t13 : Value} {h : FH} {c : Nat} {df : List Nat} {q : Rt FH} (e : f100_L100000 G rd t0 t1 t2 t6 t11 t12 t13 h c df = some q) (hq : q.e ≠ .normal) : G (f100_k100000 rd) [t0, t1, t2, t6, t11, t12, t13] h c df = some q := runG_lp_last ((f100_L100000_eq G rd t0 t1 t2 t6 t11 t12 t13 h c df).trans e) hq
noncomputable def f101_L101001 (o : Orc H) (rd : Option Nat) (t2 t3 t4 t5 t10 t31 : Value) (h : H) (c : Nat) (df : List Nat) : Option (Rt H) :=
 (aBinOp P .lss 3 t31 (.int .i64 4)).bind fun t32 =>
 boolK t32
 ((ixA 4 5 t2 t5).bind fun t36 =>
 (addOff t36 1).bind fun t37 =>
 (ixA 4 1 t37 t31).bind fun t38 =>
 (ld1 h t38).bind fun t39 =>
 (ixA 4 5 t3 t5).bind fun t42 =>
 (addOff t42 1).bind fun t43 =>
 (ixA 4 1 t43 t31).bind fun t44 =>
 (ld1 h t44).bind fun t45 =>
 (aBinOp P .neq 3 t39 t45).bind fun t46 =>
 boolK t46
  ((ixA 4 5 t2 t5).bind fun t49 =>
  (addOff t49 1).bind fun t50 =>
  (ixA 4 1 t50 t31).bind fun t51 =>
  (ld1 h t51).bind fun t52 =>
  (ixA 4 5 t3 t5).bind fun t55 =>
  (addOff t55 1).bind fun t56 =>
  (ixA 4 1 t56 t31).bind fun t57 =>
  (ld1 h t57).bind fun t58 =>
  (aBinOp P .sub 3 t52 t58).bind fun t59 =>
  some { e := .ret, vs := [t2, t3, t59, t5, t10, t31], h := h, c := ((((c + 1) + 1) + 1) + 1), df := df })
  ((aBinOp P .add 3 t31 (.int .i64 1)).bind fun t60 =>
  some { e := .normal, vs := [t2, t3, t4, t5, t10, t60], h := h, c := ((((c + 1) + 1) + 1) + 1), df := df }))
 (some { e := (.exit 2), vs := [t2, t3, t4, t5, t10, t31], h := h, c := (c + 1), df := df })
theorem f101_L101001_eq (o : Orc H) (rd : Option Nat) (t2 t3 t4 t5 t10 t31 : Value) (h : H) (c : Nat) (df : List Nat) : jx P o 62 rd f101_c101001 (tmOf [2, 3, 4, 5, 10, 31] [t2, t3, t4, t5, t10, t31]) h c df (Klp [2, 3, 4, 5, 10, 31]) = f101_L101001 o rd t2 t3 t4 t5 t10 t31 h c df := by kernel_rfl
noncomputable def f101_L101000 (o : Orc H) (rd : Option Nat) (t2 t3 t4 t10 : Value) (h : H) (c : Nat) (df : List Nat) : Option (Rt H) :=
 (aBinOp P .lss 3 t10 (.int .i64 4)).bind fun t11 =>
 boolK t11
 ((ixA 4 5 t2 t10).bind fun t14 =>
 (addOff t14 0).bind fun t15 =>
 (ld1 h t15).bind fun t16 =>
 (ixA 4 5 t3 t10).bind fun t18 =>
 (addOff t18 0).bind fun t19 =>
 (ld1 h t19).bind fun t20 =>
 (aBinOp P .neq 3 t16 t20).bind fun t21 =>
 boolK t21
  ((ixA 4 5 t2 t10).bind fun t23 =>
  (addOff t23 0).bind fun t24 =>
  (ld1 h t24).bind fun t25 =>
  (ixA 4 5 t3 t10).bind fun t27 =>
  (addOff t27 0).bind fun t28 =>
  (ld1 h t28).bind fun t29 =>
  (aBinOp P .sub 3 t25 t29).bind fun t30 =>
  some { e := .ret, vs := [t2, t3, t30, t10], h := h, c := ((((c + 1) + 1) + 1) + 1), df := df })
  ((o (f101_k101001 rd) [t2, t3, t4, t10, t10, (.int .i64 0)] h ((((c + 1) + 1) + 1) + 1) df).bind fun r1 =>
  cond (exIs r1.e (.exit 2))
   ((aBinOp P .add 3 (r1.v 4) (.int .i64 1)).bind fun t61 =>
   some { e := .normal, vs := [(r1.v 0), (r1.v 1), (r1.v 2), t61], h := r1.h, c := (r1.c + 1), df := r1.df })
   (cond (exIs r1.e .ret)
    (some { e := .ret, vs := [(r1.v 0), (r1.v 1), (r1.v 2), (r1.v 4)], h := r1.h, c := r1.c, df := r1.df })
    (none))))
 (some { e := (.exit 0), vs := [t2, t3, t4, t10], h := h, c := (c + 1), df := df })
theorem f101_L101000_eq (o : Orc H) (rd : Option Nat) (t2 t3 t4 t10 : Value) (h : H) (c : Nat) (df : List Nat) : jx P o 62 rd f101_c101000 (tmOf [2, 3, 4, 10] [t2, t3, t4, t10]) h c df (Klp [2, 3, 4, 10]) = f101_L101000 o rd t2 t3 t4 t10 h c df := by kernel_rfl
/-- sphenoid/iso.compare -/
noncomputable def f101_S (o : Orc H) (t0 t1 : Value) (h : H) (c : Nat) : Option (Rt H) :=
 (bif (t0 : Value).cells.toList.all isFlat then
 (bif (t1 : Value).cells.toList.all isFlat then
 (ldN (newB (newB h (256 * c + 0) (t0 : Value).cells.toList) (256 * c + 1) (t1 : Value).cells.toList) 20 (ptrTo (256 * c + 0))).bind fun t7 =>
 (ldN (newB (newB h (256 * c + 0) (t0 : Value).cells.toList) (256 * c + 1) (t1 : Value).cells.toList) 20 (ptrTo (256 * c + 1))).bind fun t8 =>
 (aBinOp P .eql 90 t7 t8).bind fun t9 =>
 boolK t9
 (some { e := .ret, vs := [(.int .i64 0)], h := (newB (newB h (256 * c + 0) (t0 : Value).cells.toList) (256 * c + 1) (t1 : Value).cells.toList), c := (((c + 1) + 1) + 1), df := [] })
 ((o (f101_k101000 none) [(ptrTo (256 * c + 0)), (ptrTo (256 * c + 1)), (.int .i64 0), (.int .i64 0)] (newB (newB h (256 * c + 0) (t0 : Value).cells.toList) (256 * c + 1) (t1 : Value).cells.toList) (((c + 1) + 1) + 1) []).bind fun r0 =>
 cond (exIs r0.e (.exit 0))
  ((takeAll r0.h r0.df).bind fun h2 =>
  some { e := .ret, vs := [(.int .i64 0)], h := h2, c := (r0.c + 1), df := [] })
  (cond (exIs r0.e .ret)
   ((takeAll r0.h r0.df).bind fun h1 =>
   some { e := .ret, vs := [(r0.v 2)], h := h1, c := r0.c, df := [] })
   (none)))
 else none)
 else none)
theorem f101_S_eq (o : Orc H) (t0 t1 : Value) (h : H) (c : Nat) : jx P o 62 none f101_c (tmOf (List.range 2) [t0, t1]) h c [] (Kfn P Try.f101.results.toList) = f101_S o t0 t1 h c := by kernel_rfl
theorem f101_go {t0 t1 : Value} {h : FH} {c : Nat} {df : List Nat} {r : Rt FH} (e : f101_S G t0 t1 h c = some r) : G (.fn 101) [t0, t1] h c df = some (gcR h c [] r) := runG_fn (a := f101_f) bk_101 rfl (fun args h c => by cases args <;> rfl) rfl ((f101_S_eq G t0 t1 h c).trans e)
theorem f101_N101001 {rd : Option Nat} {t2 t3 t4 t5 t10 t31 : Value} {h : FH} {c : Nat} {df : List Nat} {q r : Rt FH} (e : f101_L101001 G rd t2 t3 t4 t5 t10 t31 h c df = some q) (hq : q.e = .normal) (k : G (f101_k101001 rd) q.vs q.h q.c q.df = some r) : G (f101_k101001 rd) [t2, t3, t4, t5, t10, t31] h c df = some r := runG_lp_next ((f101_L101001_eq G rd t2 t3 t4 t5 t10 t31 h c df).trans e) hq k
theorem f101_Z101001 {rd : Option Nat} {t2 t3 t4 t5 t10 t31 : Value} {h : FH} {c : Nat} {df : List Nat} {q : Rt FH} (e : f101_L101001 G rd t2 t3 t4 t5 t10 t31 h c df = some q) (hq : q.e ≠ .normal) : G (f101_k101001 rd) [t2, t3, t4, t5, t10, t31] h c df = some q := runG_lp_last ((f101_L101001_eq G rd t2 t3 t4 t5 t10 t31 h c df).trans e) hq
theorem f101_N101000 {rd : Option Nat} {t2 t3 t4 t10 : Value} {h : FH} {c : Nat} {df : List Nat} {q r : Rt FH} (e : f101_L101000 G rd t2 t3 t4 t10 h c df = some q) (hq : q.e = .normal) (k : G (f101_k101000 rd) q.vs q.h q.c q.df = some r) : G (f101_k101000 rd) [t2, t3, t4, t10] h c df = some r := runG_lp_next ((f101_L101000_eq G rd t2 t3 t4 t10 h c df).trans e) hq k
theorem f101_Z101000 {rd : Option Nat} {t2 t3 t4 t10 : Value} {h : FH} {c : Nat} {df : List Nat} {q : Rt FH} (e : f101_L101000 G rd t2 t3 t4 t10 h c df = some q) (hq : q.e ≠ .normal) : G (f101_k101000 rd) [t2, t3, t4, t10] h c df = some q := runG_lp_last ((f101_L101000_eq G rd t2 t3 t4 t10 h c df).trans e) hq
end Go.Proofs.Ytdbiilapiloaiaa
