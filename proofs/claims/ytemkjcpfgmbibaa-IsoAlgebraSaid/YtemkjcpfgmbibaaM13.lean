/- Parts of a proof: S7 S8. Conditions: none. -/
import Derived.Test.YtemkjcpfgmbibaaM9
set_option linter.all false
set_option maxRecDepth 100000
namespace Go.Proofs.Ytemkjcpfgmbibaa
open Go Go.Ab Go.Proofs
variable {H:Type} [HeapC H]
noncomputable def Z6J (o:Orc H) (rd:Option Nat) (t0 t1 t2 t6 t11 t12 t13:Value) (h:H) (c:Nat) (df:List Nat):Option (Rt H) :=
 (Z00 P .lss 3 t13 t12).bind fun t14 =>
 Z09 t14
 ((ixS 20 t11 t13).bind fun t16 =>
 (ldN h 20 t16).bind fun t17 =>
 (stN (newB h (256*(c+1)+3) [(.int .i64 0),(.int .i64 0),(.int .i64 0),(.int .i64 0),(.int .i64 0),(.int .i64 0),(.int .i64 0),(.int .i64 0),(.int .i64 0),(.int .i64 0),(.int .i64 0),(.int .i64 0),(.int .i64 0),(.int .i64 0),(.int .i64 0),(.int .i64 0),(.int .i64 0),(.int .i64 0),(.int .i64 0),(.int .i64 0)]) 20 (ptrTo (256*(c+1)+3)) t17).bind fun h1 =>
 (Z1f t1).bind fun t20 =>
 (Z00 P .geq 3 t13 t20).bind fun t21 =>
 Z09 t21
  (some ⟨.ret,[t0,t1,t2,(.int .i64 1),t11,t12,t13],h1,(c+1+1+1+1),df⟩)
  ((ixS 20 t1 t13).bind fun t24 =>
  (ldN h1 20 t24).bind fun t25 =>
  (stN (newB h1 (256*(c+1+1+1)+4) [(.int .i64 0),(.int .i64 0),(.int .i64 0),(.int .i64 0),(.int .i64 0),(.int .i64 0),(.int .i64 0),(.int .i64 0),(.int .i64 0),(.int .i64 0),(.int .i64 0),(.int .i64 0),(.int .i64 0),(.int .i64 0),(.int .i64 0),(.int .i64 0),(.int .i64 0),(.int .i64 0),(.int .i64 0),(.int .i64 0)]) 20 (ptrTo (256*(c+1+1+1)+4)) t25).bind fun h4 =>
  (ldN h4 20 (ptrTo (256*(c+1)+3))).bind fun t27 =>
  (ldN h4 20 (ptrTo (256*(c+1+1+1)+4))).bind fun t28 =>
  (Z1S o h4 (c+1+1+1+1+1) t2 [t27,t28]).bind fun r5 =>
  (Z00 P .neq 3 r5.1 (.int .i64 0)).bind fun t31 =>
  Z09 t31
   (some ⟨.ret,[t0,t1,t2,r5.1,t11,t12,t13],r5.2.1,(r5.2.2+1+1),df⟩)
   ((Z00 P .add 3 t13 (.int .i64 1)).bind fun t33 =>
   some ⟨.normal,[t0,t1,t2,t6,t11,t12,t33],r5.2.1,(r5.2.2+1+1),df⟩)))
 (some ⟨(.exit 0),[t0,t1,t2,t6,t11,t12,t13],h,(c+1),df⟩)
theorem ZaP (o:Orc H) (rd:Option Nat) (t0 t1 t2 t6 t11 t12 t13:Value) (h:H) (c:Nat) (df:List Nat):jx P o 39 rd Z2L (Z0g [0,1,2,6,11,12,13] [t0,t1,t2,t6,t11,t12,t13]) h c df (Klp [0,1,2,6,11,12,13])=Z6J o rd t0 t1 t2 t6 t11 t12 t13 h c df:=by kernel_rfl
noncomputable def Zn3 (o:Orc H) (t0 t1 t2:Value) (h:H) (c:Nat):Option (Rt H) :=
 (Z1f t0).bind fun t12 =>
 (o (ZfL none) [t0,t1,t2,(.int .i64 0),t0,t12,(.int .i64 0)] h (c+1+1) []).bind fun r0 =>
 cond (Z0t r0.e (.exit 0))
 ((Z1f (r0.v 0)).bind fun t35 =>
 (Z1f (r0.v 1)).bind fun t37 =>
 (Z00 P .lss 3 t35 t37).bind fun t38 =>
 Z09 t38
  ((Z07 r0.h r0.df).bind fun h2 =>
  some ⟨.ret,[(.int .i64 (-1))],h2,(r0.c+1+1),[]⟩)
  ((Z07 r0.h r0.df).bind fun h3 =>
  some ⟨.ret,[(.int .i64 0)],h3,(r0.c+1+1),[]⟩))
 (cond (Z0t r0.e .ret)
  ((Z07 r0.h r0.df).bind fun h1 =>
  some ⟨.ret,[r0.v 3],h1,r0.c,[]⟩)
  (none))
theorem ZkM (o:Orc H) (t0 t1 t2:Value) (h:H) (c:Nat):jx P o 39 none f76_c (Z0g (List.range 3) [t0,t1,t2]) h c [] (Kfn P Try.f76.results.toList)=Zn3 o t0 t1 t2 h c:=by kernel_rfl
noncomputable def Z6H (o:Orc H) (rd:Option Nat) (t2 t3 t4 t5 t10 t31:Value) (h:H) (c:Nat) (df:List Nat):Option (Rt H) :=
 (Z00 P .lss 3 t31 (.int .i64 4)).bind fun t32 =>
 Z09 t32
 ((ixA 4 5 t2 t5).bind fun t36 =>
 (Z01 t36 1).bind fun t37 =>
 (ixA 4 1 t37 t31).bind fun t38 =>
 (ld1 h t38).bind fun t39 =>
 (ixA 4 5 t3 t5).bind fun t42 =>
 (Z01 t42 1).bind fun t43 =>
 (ixA 4 1 t43 t31).bind fun t44 =>
 (ld1 h t44).bind fun t45 =>
 (Z00 P .neq 3 t39 t45).bind fun t46 =>
 Z09 t46
  ((ixA 4 5 t2 t5).bind fun t49 =>
  (Z01 t49 1).bind fun t50 =>
  (ixA 4 1 t50 t31).bind fun t51 =>
  (ld1 h t51).bind fun t52 =>
  (ixA 4 5 t3 t5).bind fun t55 =>
  (Z01 t55 1).bind fun t56 =>
  (ixA 4 1 t56 t31).bind fun t57 =>
  (ld1 h t57).bind fun t58 =>
  (Z00 P .sub 3 t52 t58).bind fun t59 =>
  some ⟨.ret,[t2,t3,t59,t5,t10,t31],h,(c+1+1+1+1),df⟩)
  ((Z00 P .add 3 t31 (.int .i64 1)).bind fun t60 =>
  some ⟨.normal,[t2,t3,t4,t5,t10,t60],h,(c+1+1+1+1),df⟩))
 (some ⟨(.exit 2),[t2,t3,t4,t5,t10,t31],h,(c+1),df⟩)
theorem ZaN (o:Orc H) (rd:Option Nat) (t2 t3 t4 t5 t10 t31:Value) (h:H) (c:Nat) (df:List Nat):jx P o 62 rd Z2J (Z0g [2,3,4,5,10,31] [t2,t3,t4,t5,t10,t31]) h c df (Klp [2,3,4,5,10,31])=Z6H o rd t2 t3 t4 t5 t10 t31 h c df:=by kernel_rfl
noncomputable def Z6I (o:Orc H) (rd:Option Nat) (t2 t3 t4 t10:Value) (h:H) (c:Nat) (df:List Nat):Option (Rt H) :=
 (Z00 P .lss 3 t10 (.int .i64 4)).bind fun t11 =>
 Z09 t11
 ((ixA 4 5 t2 t10).bind fun t14 =>
 (Z01 t14 0).bind fun t15 =>
 (ld1 h t15).bind fun t16 =>
 (ixA 4 5 t3 t10).bind fun t18 =>
 (Z01 t18 0).bind fun t19 =>
 (ld1 h t19).bind fun t20 =>
 (Z00 P .neq 3 t16 t20).bind fun t21 =>
 Z09 t21
  ((ixA 4 5 t2 t10).bind fun t23 =>
  (Z01 t23 0).bind fun t24 =>
  (ld1 h t24).bind fun t25 =>
  (ixA 4 5 t3 t10).bind fun t27 =>
  (Z01 t27 0).bind fun t28 =>
  (ld1 h t28).bind fun t29 =>
  (Z00 P .sub 3 t25 t29).bind fun t30 =>
  some ⟨.ret,[t2,t3,t30,t10],h,(c+1+1+1+1),df⟩)
  ((o (ZfI rd) [t2,t3,t4,t10,t10,(.int .i64 0)] h (c+1+1+1+1) df).bind fun r1 =>
  cond (Z0t r1.e (.exit 2))
   ((Z00 P .add 3 (r1.v 4) (.int .i64 1)).bind fun t61 =>
   some ⟨.normal,[r1.v 0,r1.v 1,r1.v 2,t61],r1.h,(r1.c+1),r1.df⟩)
   (cond (Z0t r1.e .ret)
    (some ⟨.ret,[r1.v 0,r1.v 1,r1.v 2,r1.v 4],r1.h,r1.c,r1.df⟩)
    (none))))
 (some ⟨(.exit 0),[t2,t3,t4,t10],h,(c+1),df⟩)
theorem ZaO (o:Orc H) (rd:Option Nat) (t2 t3 t4 t10:Value) (h:H) (c:Nat) (df:List Nat):jx P o 62 rd Z2K (Z0g [2,3,4,10] [t2,t3,t4,t10]) h c df (Klp [2,3,4,10])=Z6I o rd t2 t3 t4 t10 h c df:=by kernel_rfl
noncomputable def Zn2 (o:Orc H) (t0 t1:Value) (h:H) (c:Nat):Option (Rt H) :=
 (bif (t0:Value).cells.toList.all Z08 then
 (bif (t1:Value).cells.toList.all Z08 then
 (ldN (newB (newB h (256*c+0) (t0:Value).cells.toList) (256*c+1) (t1:Value).cells.toList) 20 (ptrTo (256*c+0))).bind fun t7 =>
 (ldN (newB (newB h (256*c+0) (t0:Value).cells.toList) (256*c+1) (t1:Value).cells.toList) 20 (ptrTo (256*c+1))).bind fun t8 =>
 (Z00 P .eql 73 t7 t8).bind fun t9 =>
 Z09 t9
 (some ⟨.ret,[(.int .i64 0)],(newB (newB h (256*c+0) (t0:Value).cells.toList) (256*c+1) (t1:Value).cells.toList),(c+1+1+1),[]⟩)
 ((o (ZfJ none) [(ptrTo (256*c+0)),(ptrTo (256*c+1)),(.int .i64 0),(.int .i64 0)] (newB (newB h (256*c+0) (t0:Value).cells.toList) (256*c+1) (t1:Value).cells.toList) (c+1+1+1) []).bind fun r0 =>
 cond (Z0t r0.e (.exit 0))
  ((Z07 r0.h r0.df).bind fun h2 =>
  some ⟨.ret,[(.int .i64 0)],h2,(r0.c+1),[]⟩)
  (cond (Z0t r0.e .ret)
   ((Z07 r0.h r0.df).bind fun h1 =>
   some ⟨.ret,[r0.v 2],h1,r0.c,[]⟩)
   (none)))
 else none)
 else none)
theorem ZkL (o:Orc H) (t0 t1:Value) (h:H) (c:Nat):jx P o 62 none f77_c (Z0g (List.range 2) [t0,t1]) h c [] (Kfn P Try.f77.results.toList)=Zn2 o t0 t1 h c:=by kernel_rfl
noncomputable def Z1I (o:Orc H) (rd:Option Nat) (t0 t1 t3 t8 t9 t16 t17:Value) (h:H) (c:Nat) (df:List Nat):Option (Rt H) :=
 (Z00 P .lss 3 t17 (.int .i64 4)).bind fun t18 =>
 Z09 t18
 ((ixV 4 true 5 t16 t17).bind fun t20 =>
 (stN (newB h (256*(c+1)+2) [(.int .i64 0),(.int .i64 0),(.int .i64 0),(.int .i64 0),(.int .i64 0)]) 5 (ptrTo (256*(c+1)+2)) t20).bind fun h1 =>
 (Z1v [(.int .i64 0),(.int .i64 0)] [(0,1,t3),(1,1,t17)]).bind fun t24 =>
 (ldN h1 5 (ptrTo (256*(c+1)+2))).bind fun t25 =>
 (Z1S o h1 (c+1+1+1) t0 [t24,t25]).bind fun r2 =>
 (Z10 .not r2.1).bind fun t27 =>
 Z09 t27
  (some ⟨.ret,[t0,t1,t3,t8,t9,t16,t17],r2.2.1,r2.2.2,df⟩)
  ((Z00 P .add 3 t17 (.int .i64 1)).bind fun t28 =>
  some ⟨.normal,[t0,t1,t3,t8,t9,t16,t28],r2.2.1,(r2.2.2+1),df⟩))
 (some ⟨(.exit 2),[t0,t1,t3,t8,t9,t16,t17],h,(c+1),df⟩)
theorem Z4e (o:Orc H) (rd:Option Nat) (t0 t1 t3 t8 t9 t16 t17:Value) (h:H) (c:Nat) (df:List Nat):jx P o 30 rd Z2H (Z0g [0,1,3,8,9,16,17] [t0,t1,t3,t8,t9,t16,t17]) h c df (Klp [0,1,3,8,9,16,17])=Z1I o rd t0 t1 t3 t8 t9 t16 t17 h c df:=by kernel_rfl
noncomputable def Z1J (o:Orc H) (rd:Option Nat) (t0 t1 t8 t9:Value) (h:H) (c:Nat) (df:List Nat):Option (Rt H) :=
 (Z00 P .lss 3 t9 t8).bind fun t10 =>
 Z09 t10
 ((Z01 t1 0).bind fun t12 =>
 (ld1 h t12).bind fun t13 =>
 (ixS 20 t13 t9).bind fun t15 =>
 (ldN h 20 t15).bind fun t16 =>
 (o (Z3M rd) [t0,t1,t9,t8,t9,t16,(.int .i64 0)] h (c+1+1+1) df).bind fun r0 =>
 cond (Z0t r0.e (.exit 2))
  ((Z00 P .add 3 (r0.v 4) (.int .i64 1)).bind fun t29 =>
  some ⟨.normal,[r0.v 0,r0.v 1,r0.v 3,t29],r0.h,(r0.c+1),r0.df⟩)
  (cond (Z0t r0.e .ret)
   (some ⟨.ret,[r0.v 0,r0.v 1,r0.v 3,r0.v 4],r0.h,r0.c,r0.df⟩)
   (none)))
 (some ⟨(.exit 0),[t0,t1,t8,t9],h,(c+1),df⟩)
theorem Z4f (o:Orc H) (rd:Option Nat) (t0 t1 t8 t9:Value) (h:H) (c:Nat) (df:List Nat):jx P o 30 rd Z2I (Z0g [0,1,8,9] [t0,t1,t8,t9]) h c df (Klp [0,1,8,9])=Z1J o rd t0 t1 t8 t9 h c df:=by kernel_rfl
noncomputable def ZfF (o:Orc H) (t0 t1:Value) (h:H) (c:Nat):Option (Rt H) :=
 (Z01 t1 0).bind fun t6 =>
 (ld1 h t6).bind fun t7 =>
 (Z1f t7).bind fun t8 =>
 (o (Z3N none) [t0,t1,t8,(.int .i64 0)] h (c+1) []).bind fun r0 =>
 cond (Z0t r0.e (.exit 0))
 ((Z07 r0.h r0.df).bind fun h2 =>
 some ⟨.ret,[.tuple #[]],h2,r0.c,[]⟩)
 (cond (Z0t r0.e .ret)
  ((Z07 r0.h r0.df).bind fun h1 =>
  some ⟨.ret,[.tuple #[]],h1,r0.c,[]⟩)
  (none))
theorem Zez (o:Orc H) (t0 t1:Value) (h:H) (c:Nat):jx P o 30 none f78_c (Z0g (List.range 2) [t0,t1]) h c [] (Kfn P Try.f78.results.toList)=ZfF o t0 t1 h c:=by kernel_rfl
theorem Zm0 {t0 t1:Value} {h:FH} {c:Nat} {df:List Nat} {r:Rt FH} (e:ZfF G t0 t1 h c=some r):G (.fn 78) [t0,t1] h c df=some r:=Z0p (a:=ZcI) bk_78 rfl (fun args h c=>by cases args <;> rfl) rfl ((Zez G t0 t1 h c).trans e)
theorem ZfG {rd:Option Nat} {t0 t1 t3 t8 t9 t16 t17:Value} {h:FH} {c:Nat} {df:List Nat} {q r:Rt FH} (e:Z1I G rd t0 t1 t3 t8 t9 t16 t17 h c df=some q) (hq:q.e = .normal) (k:G (Z3M rd) q.vs q.h q.c q.df=some r):G (Z3M rd) [t0,t1,t3,t8,t9,t16,t17] h c df=some r:=Z0y ((Z4e G rd t0 t1 t3 t8 t9 t16 t17 h c df).trans e) hq k
theorem Z9G {rd:Option Nat} {t0 t1 t3 t8 t9 t16 t17:Value} {h:FH} {c:Nat} {df:List Nat} {q:Rt FH} (e:Z1I G rd t0 t1 t3 t8 t9 t16 t17 h c df=some q) (hq:q.e ≠ .normal):G (Z3M rd) [t0,t1,t3,t8,t9,t16,t17] h c df=some q:=Z0z ((Z4e G rd t0 t1 t3 t8 t9 t16 t17 h c df).trans e) hq
theorem ZfH {rd:Option Nat} {t0 t1 t8 t9:Value} {h:FH} {c:Nat} {df:List Nat} {q r:Rt FH} (e:Z1J G rd t0 t1 t8 t9 h c df=some q) (hq:q.e = .normal) (k:G (Z3N rd) q.vs q.h q.c q.df=some r):G (Z3N rd) [t0,t1,t8,t9] h c df=some r:=Z0y ((Z4f G rd t0 t1 t8 t9 h c df).trans e) hq k
theorem Z9H {rd:Option Nat} {t0 t1 t8 t9:Value} {h:FH} {c:Nat} {df:List Nat} {q:Rt FH} (e:Z1J G rd t0 t1 t8 t9 h c df=some q) (hq:q.e ≠ .normal):G (Z3N rd) [t0,t1,t8,t9] h c df=some q:=Z0z ((Z4f G rd t0 t1 t8 t9 h c df).trans e) hq
noncomputable def Zn1 (o:Orc H) (t0 t1 t2:Value) (h:H) (c:Nat):Option (Rt H) :=
 (bif (t2:Value).cells.toList.all Z08 then
 (Z0d t0).bind fun t7 =>
 (Z01 t7 3).bind fun t8 =>
 (ld1 (newB h (256*c+0) (t2:Value).cells.toList) t8).bind fun t9 =>
 (Z0d t0).bind fun t12 =>
 (Z01 t12 1).bind fun t13 =>
 (Z01 t13 0).bind fun t14 =>
 (ld1 (newB h (256*c+0) (t2:Value).cells.toList) t14).bind fun t15 =>
 (Z1f t15).bind fun t16 =>
 (Z0T P (newB h (256*c+0) (t2:Value).cells.toList) 98 t9 t1 t16).bind fun h1 =>
 (Z0d t0).bind fun t19 =>
 (Z01 t19 1).bind fun t20 =>
 (Z01 t20 0).bind fun t21 =>
 (ld1 h1 t21).bind fun t22 =>
 (Z5d [(.int .i64 0)] [(0,1,t1)]).bind fun r2 =>
 (Z67 (newB h1 (256*(c+1+1)+7) r2) (256*(c+1+1)+8) 1 8 t22 (.slice (some ⟨(256*(c+1+1)+7),0,none⟩) 1 1)).bind fun r3 =>
 (Z0d t0).bind fun t26 =>
 (Z01 t26 1).bind fun t27 =>
 (Z01 t27 0).bind fun t28 =>
 (stN r3.2 1 t28 r3.1).bind fun h5 =>
 (Z0d t0).bind fun t31 =>
 (Z01 t31 1).bind fun t32 =>
 (Z01 t32 1).bind fun t33 =>
 (ld1 h5 t33).bind fun t34 =>
 (ldN h5 4 (ptrTo (256*c+0))).bind fun t35 =>
 (Z5d [(.int .i64 0),(.int .i64 0),(.int .i64 0),(.int .i64 0)] [(0,4,t35)]).bind fun r6 =>
 (Z67 (newB h5 (256*(c+1+1+1)+7) r6) (256*(c+1+1+1)+8) 4 32 t34 (.slice (some ⟨(256*(c+1+1+1)+7),0,none⟩) 1 1)).bind fun r7 =>
 (Z0d t0).bind fun t38 =>
 (Z01 t38 1).bind fun t39 =>
 (Z01 t39 1).bind fun t40 =>
 (stN r7.2 1 t40 r7.1).bind fun h9 =>
 some ⟨.ret,[.tuple #[]],h9,(c+1+1+1+1),[]⟩
 else none)
theorem ZkK (o:Orc H) (t0 t1 t2:Value) (h:H) (c:Nat):jx P o 41 none f79_c (Z0g (List.range 3) [t0,t1,t2]) h c [] (Kfn P Try.f79.results.toList)=Zn1 o t0 t1 t2 h c:=by kernel_rfl
noncomputable def Z6G (o:Orc H) (rd:Option Nat) (t0 t1 t4 t5 t12:Value) (h:H) (c:Nat) (df:List Nat):Option (Rt H) :=
 (Z00 P .lss 3 t12 (.int .i64 4)).bind fun t13 =>
 Z09 t13
 (((Z0d t0).bind fun t16 =>
  (Z01 t16 0).bind fun t17 =>
  (Z01 t17 0).bind fun t18 =>
  (ld1 h t18).bind fun t19 =>
  (Z0d t0).bind fun t21 =>
  (Z01 t21 1).bind fun t22 =>
  (Z01 t22 0).bind fun t23 =>
  (ld1 h t23).bind fun t24 =>
  (ixS 1 t24 t1).bind fun t26 =>
  (ld1 h t26).bind fun t27 =>
  (Z0d t0).bind fun t29 =>
  (Z01 t29 1).bind fun t30 =>
  (Z01 t30 1).bind fun t31 =>
  (ld1 h t31).bind fun t32 =>
  (ixS 4 t32 t1).bind fun t35 =>
  (ixA 4 1 t35 t12).bind fun t36 =>
  (ld1 h t36).bind fun t37 =>
  (ixS 20 t19 t27).bind fun t38 =>
  (ixA 4 5 t38 t37).bind fun t39 =>
  (ldN h 5 t39).bind fun t40 =>
  (stN (newB h (256*(c+1+1)+26) [(.int .i64 0),(.int .i64 0),(.int .i64 0),(.int .i64 0),(.int .i64 0)]) 5 (ptrTo (256*(c+1+1)+26)) t40).bind fun h1 =>
  (Z01 (ptrTo (256*(c+1+1)+26)) 0).bind fun t41 =>
  (ld1 h1 t41).bind fun t42 =>
  (Z00 P .lss 3 t42 (.int .i64 0)).bind fun t43 =>
  Z09 t43
   ((Z1v [(.int .i64 0),(.int .i64 0),(.int .i64 0),(.int .i64 0),(.int .i64 0)] [(0,1,(.int .i64 (-1)))]).bind fun t45 =>
   (ixA 4 5 t5 t12).bind fun t46 =>
   (stN h1 5 t46 t45).bind fun h3 =>
   some ⟨.normal,[t0,t1,t4,t5,t12],h3,(c+1+1+1+1+1),df⟩)
   ((Z01 (ptrTo (256*(c+1+1)+26)) 1).bind fun t47 =>
   (ldN h1 4 t47).bind fun t48 =>
   (Z0d t0).bind fun t50 =>
   (Z01 t50 1).bind fun t51 =>
   (Z01 t51 1).bind fun t52 =>
   (ld1 h1 t52).bind fun t53 =>
   (ixS 4 t53 t1).bind fun t55 =>
   (ldN h1 4 t55).bind fun t56 =>
   (callF o 61 [t48,t56] h1 (c+1+1+1+1+1)).bind fun r4 =>
   (stN (newB r4.2.1 (256*(c+1+1+1+1)+11) [(.int .i64 0),(.int .i64 0),(.int .i64 0),(.int .i64 0)]) 4 (ptrTo (256*(c+1+1+1+1)+11)) r4.1).bind fun h6 =>
   (Z0d t0).bind fun t60 =>
   (Z01 t60 3).bind fun t61 =>
   (ld1 h6 t61).bind fun t62 =>
   (Z01 (ptrTo (256*(c+1+1)+26)) 0).bind fun t63 =>
   (ld1 h6 t63).bind fun t64 =>
   (Z3v P h6 98 t62 t64 true).bind fun t65 =>
   (Z2f t65 0).bind fun t66 =>
   (Z2f t65 1).bind fun t67 =>
   (Z10 .not t67).bind fun t69 =>
   (Z09 t69
    ((Z01 (ptrTo (256*(c+1+1)+26)) 0).bind fun t71 =>
    (ld1 h6 t71).bind fun t72 =>
    (ldN h6 4 (ptrTo (256*(c+1+1+1+1)+11))).bind fun t73 =>
    (callF o 79 [t0,t72,t73] h6 (r4.2.2+1+1+1)).bind fun r7 =>
    some ⟨.normal,[t0,t1,t4,t5,t12,(ptrTo (256*(c+1+1)+26)),(ptrTo (256*(c+1+1+1+1)+11)),t12],r7.2.1,r7.2.2,df⟩)
    (some ⟨.normal,[t0,t1,t4,t5,t12,(ptrTo (256*(c+1+1)+26)),(ptrTo (256*(c+1+1+1+1)+11)),t12],h6,(r4.2.2+1+1),df⟩):Option (Rt H)).bind fun r8 =>
   cond (Z0t r8.e .normal)
    ((Z0d (r8.v 0)).bind fun t76 =>
    (Z01 t76 3).bind fun t77 =>
    (ld1 r8.h t77).bind fun t78 =>
    (Z01 (r8.v 5) 0).bind fun t79 =>
    (ld1 r8.h t79).bind fun t80 =>
    (Z3v P r8.h 98 t78 t80 false).bind fun t81 =>
    (Z0d (r8.v 0)).bind fun t85 =>
    (Z01 t85 1).bind fun t86 =>
    (Z01 t86 1).bind fun t87 =>
    (ld1 r8.h t87).bind fun t88 =>
    (ixS 4 t88 t81).bind fun t90 =>
    (ldN r8.h 4 t90).bind fun t91 =>
    (callF o 62 [t91] r8.h (r8.c+1+1)).bind fun r9 =>
    (ldN r9.2.1 4 (r8.v 6)).bind fun t93 =>
    (callF o 61 [r9.1,t93] r9.2.1 r9.2.2).bind fun r10 =>
    (Z1v [(.int .i64 0),(.int .i64 0),(.int .i64 0),(.int .i64 0),(.int .i64 0)] [(0,1,t81),(1,4,r10.1)]).bind fun t95 =>
    (ixA 4 5 (r8.v 3) (r8.v 4)).bind fun t96 =>
    (stN r10.2.1 5 t96 t95).bind fun h12 =>
    (bif (Z14 (Z22 (r8.v 6)) r8.h r9.2.1 && true) then
    some ⟨.normal,[r8.v 0,r8.v 1,r8.v 2,r8.v 3,r8.v 7],h12,r10.2.2,r8.df⟩
    else none))
    (none)):Option (Rt H)).bind fun r13 =>
 cond (Z0t r13.e .normal)
  ((Z00 P .add 3 (r13.v 4) (.int .i64 1)).bind fun t97 =>
  some ⟨.normal,[r13.v 0,r13.v 1,r13.v 2,r13.v 3,t97],r13.h,(r13.c+1),r13.df⟩)
  (none))
 (some ⟨(.exit 0),[t0,t1,t4,t5,t12],h,(c+1),df⟩)
theorem ZaM (o:Orc H) (rd:Option Nat) (t0 t1 t4 t5 t12:Value) (h:H) (c:Nat) (df:List Nat):jx P o 99 rd Z2G (Z0g [0,1,4,5,12] [t0,t1,t4,t5,t12]) h c df (Klp [0,1,4,5,12])=Z6G o rd t0 t1 t4 t5 t12 h c df:=by kernel_rfl
noncomputable def Zn0 (o:Orc H) (t0 t1:Value) (h:H) (c:Nat):Option (Rt H) :=
 (o (ZfC none) [t0,t1,(ptrTo (256*c+0)),(ptrTo (256*(c+1)+0)),(.int .i64 0)] (newB (newB h (256*c+0) [(.int .i64 0),(.int .i64 0),(.int .i64 0),(.int .i64 0),(.int .i64 0),(.int .i64 0),(.int .i64 0),(.int .i64 0),(.int .i64 0),(.int .i64 0),(.int .i64 0),(.int .i64 0),(.int .i64 0),(.int .i64 0),(.int .i64 0),(.int .i64 0),(.int .i64 0),(.int .i64 0),(.int .i64 0),(.int .i64 0)]) (256*(c+1)+0) [(.int .i64 0),(.int .i64 0),(.int .i64 0),(.int .i64 0),(.int .i64 0),(.int .i64 0),(.int .i64 0),(.int .i64 0),(.int .i64 0),(.int .i64 0),(.int .i64 0),(.int .i64 0),(.int .i64 0),(.int .i64 0),(.int .i64 0),(.int .i64 0),(.int .i64 0),(.int .i64 0),(.int .i64 0),(.int .i64 0)]) (c+1+1+1) []).bind fun r0 =>
 cond (Z0t r0.e (.exit 0))
 ((ldN r0.h 20 (r0.v 3)).bind fun t98 =>
 (stN r0.h 20 (r0.v 2) t98).bind fun h2 =>
 (Z07 h2 r0.df).bind fun h3 =>
 (ldN h3 20 (r0.v 2)).bind fun v4 =>
 some ⟨.ret,[v4],h3,(r0.c+1),[]⟩)
 (none)
theorem ZkJ (o:Orc H) (t0 t1:Value) (h:H) (c:Nat):jx P o 99 none f80_c (Z0g (List.range 2) [t0,t1]) h c [] (Kfn P Try.f80.results.toList)=Zn0 o t0 t1 h c:=by kernel_rfl
noncomputable def Z6F (o:Orc H) (rd:Option Nat) (t0 t1 t2 t6 t7 t8:Value) (h:H) (c:Nat) (df:List Nat):Option (Rt H) :=
 (Z00 P .leq 3 t8 t1).bind fun t13 =>
 Z09 t13
 ((callF o 82 [t0,t7,t8,t2] h (c+1+1)).bind fun r0 =>
 (Z00 P .add 3 t8 t6).bind fun t22 =>
 some ⟨.normal,[t0,t1,t2,t6,t8,t22],r0.2.1,(r0.2.2+1+1),df⟩)
 (some ⟨(.exit 0),[t0,t1,t2,t6,t7,t8],h,(c+1),df⟩)
theorem ZaL (o:Orc H) (rd:Option Nat) (t0 t1 t2 t6 t7 t8:Value) (h:H) (c:Nat) (df:List Nat):jx P o 63 rd Z2F (Z0g [0,1,2,6,7,8] [t0,t1,t2,t6,t7,t8]) h c df (Klp [0,1,2,6,7,8])=Z6F o rd t0 t1 t2 t6 t7 t8 h c df:=by kernel_rfl
noncomputable def Z6D (o:Orc H) (rd:Option Nat) (t0 t1 t2 t6 t7 t8:Value) (h:H) (c:Nat) (df:List Nat):Option (Rt H) :=
 (Z00 P .leq 3 t8 t1).bind fun t35 =>
 Z09 t35
 ((Z00 P .add 3 t7 t6).bind fun t40 =>
 (callF o 83 [t0,t7,t40,t8,t2] h (c+1+1)).bind fun r0 =>
 (Z00 P .mul 3 (.int .i64 2) t6).bind fun t47 =>
 (Z00 P .add 3 t8 t47).bind fun t48 =>
 some ⟨.normal,[t0,t1,t2,t6,t8,t48],r0.2.1,(r0.2.2+1+1),df⟩)
 (some ⟨(.exit 4),[t0,t1,t2,t6,t7,t8],h,(c+1),df⟩)
theorem ZaJ (o:Orc H) (rd:Option Nat) (t0 t1 t2 t6 t7 t8:Value) (h:H) (c:Nat) (df:List Nat):jx P o 63 rd Z2D (Z0g [0,1,2,6,7,8] [t0,t1,t2,t6,t7,t8]) h c df (Klp [0,1,2,6,7,8])=Z6D o rd t0 t1 t2 t6 t7 t8 h c df:=by kernel_rfl
noncomputable def Z6E (o:Orc H) (rd:Option Nat) (t0 t1 t2 t6:Value) (h:H) (c:Nat) (df:List Nat):Option (Rt H) :=
 (Z00 P .lss 3 t6 t1).bind fun t30 =>
 Z09 t30
 ((Z00 P .mul 3 (.int .i64 2) t6).bind fun t32 =>
 (o (Zfy rd) [t0,t1,t2,t6,(.int .i64 0),t32] h (c+1+1) df).bind fun r0 =>
 cond (Z0t r0.e (.exit 4))
  ((Z00 P .add 3 (r0.v 4) (r0.v 3)).bind fun t51 =>
  (Z00 P .lss 3 t51 (r0.v 1)).bind fun t54 =>
  (Z09 t54
   ((callF o 83 [r0.v 0,r0.v 4,t51,r0.v 1,r0.v 2] r0.h (r0.c+1+1+1)).bind fun r1 =>
   some ⟨.normal,[r0.v 0,r0.v 1,r0.v 2,r0.v 3],r1.2.1,r1.2.2,r0.df⟩)
   (some ⟨.normal,[r0.v 0,r0.v 1,r0.v 2,r0.v 3],r0.h,(r0.c+1+1),r0.df⟩):Option (Rt H)).bind fun r2 =>
  cond (Z0t r2.e .normal)
   ((Z00 P .mul 3 (r2.v 3) (.int .i64 2)).bind fun t62 =>
   some ⟨.normal,[r2.v 0,r2.v 1,r2.v 2,t62],r2.h,(r2.c+1),r2.df⟩)
   (none))
  (none))
 (some ⟨(.exit 2),[t0,t1,t2,t6],h,(c+1),df⟩)
theorem ZaK (o:Orc H) (rd:Option Nat) (t0 t1 t2 t6:Value) (h:H) (c:Nat) (df:List Nat):jx P o 63 rd Z2E (Z0g [0,1,2,6] [t0,t1,t2,t6]) h c df (Klp [0,1,2,6])=Z6E o rd t0 t1 t2 t6 h c df:=by kernel_rfl
noncomputable def ZmZ (o:Orc H) (t0 t1 t2:Value) (h:H) (c:Nat):Option (Rt H) :=
 (o (ZfA none) [t0,t1,t2,(.int .i64 20),(.int .i64 0),(.int .i64 20)] h (c+1+1) []).bind fun r0 =>
 cond (Z0t r0.e (.exit 0))
 ((callF o 82 [r0.v 0,r0.v 4,r0.v 1,r0.v 2] r0.h (r0.c+1)).bind fun r1 =>
 (o (Zfz none) [r0.v 0,r0.v 1,r0.v 2,r0.v 3] r1.2.1 r1.2.2 r0.df).bind fun r2 =>
 cond (Z0t r2.e (.exit 2))
  ((Z07 r2.h r2.df).bind fun h3 =>
  some ⟨.ret,[.tuple #[]],h3,r2.c,[]⟩)
  (none))
 (none)
theorem ZkI (o:Orc H) (t0 t1 t2:Value) (h:H) (c:Nat):jx P o 63 none f81_c (Z0g (List.range 3) [t0,t1,t2]) h c [] (Kfn P Try.f81.results.toList)=ZmZ o t0 t1 t2 h c:=by kernel_rfl
noncomputable def Z6B (o:Orc H) (rd:Option Nat) (t0 t1 t2 t3 t8 t9:Value) (h:H) (c:Nat) (df:List Nat):Option (Rt H) :=
 (Z00 P .gtr 3 t9 t1).bind fun t20 =>
 (gd t20 true h (c+1) (some t3)).bind fun r0 =>
 (gd t20 true r0.2.1 r0.2.2 (some t0)).bind fun r1 =>
 (gd t20 true r1.2.1 r1.2.2 (some t9)).bind fun r2 =>
 (gd t20 true r2.2.1 r2.2.2 (ixS 1 r1.1 r2.1)).bind fun r3 =>
 (gd t20 true r3.2.1 r3.2.2 (ld1 r3.2.1 r3.1)).bind fun r4 =>
 (gd t20 true r4.2.1 r4.2.2 (some t0)).bind fun r5 =>
 (gd t20 true r5.2.1 r5.2.2 (some t9)).bind fun r6 =>
 (gd t20 true r6.2.1 r6.2.2 (Z00 P .sub 3 r6.1 (.int .i64 1))).bind fun r7 =>
 (gd t20 true r7.2.1 r7.2.2 (ixS 1 r5.1 r7.1)).bind fun r8 =>
 (gd t20 true r8.2.1 r8.2.2 (ld1 r8.2.1 r8.1)).bind fun r9 =>
 (gg t20 true r9.2.1 r9.2.2 (Z1S o r9.2.1 r9.2.2 r0.1 [r4.1,r9.1])).bind fun r10 =>
 (gd t20 true r10.2.1 r10.2.2 (Z00 P .lss 3 r10.1 (.int .i64 0))).bind fun r11 =>
 (Z0v t20 r11.1 (.bool false)).bind fun t34 =>
 Z09 t34
 ((Z00 P .sub 3 t9 (.int .i64 1)).bind fun t41 =>
 (Z00 P .sub 3 t9 (.int .i64 1)).bind fun t44 =>
 (ixS 1 t0 t44).bind fun t45 =>
 (ld1 r11.2.1 t45).bind fun t46 =>
 (ixS 1 t0 t9).bind fun t49 =>
 (ld1 r11.2.1 t49).bind fun t50 =>
 (ixS 1 t0 t9).bind fun t51 =>
 (stN r11.2.1 1 t51 t46).bind fun h13 =>
 (ixS 1 t0 t41).bind fun t52 =>
 (stN h13 1 t52 t50).bind fun h15 =>
 (Z00 P .sub 3 t9 (.int .i64 1)).bind fun t36 =>
 some ⟨.normal,[t0,t1,t2,t3,t8,t36],h15,(r11.2.2+1+1),df⟩)
 (some ⟨(.exit 2),[t0,t1,t2,t3,t8,t9],r11.2.1,r11.2.2,df⟩)
theorem ZaH (o:Orc H) (rd:Option Nat) (t0 t1 t2 t3 t8 t9:Value) (h:H) (c:Nat) (df:List Nat):jx P o 53 rd Z2B (Z0g [0,1,2,3,8,9] [t0,t1,t2,t3,t8,t9]) h c df (Klp [0,1,2,3,8,9])=Z6B o rd t0 t1 t2 t3 t8 t9 h c df:=by kernel_rfl
noncomputable def Z6C (o:Orc H) (rd:Option Nat) (t0 t1 t2 t3 t8:Value) (h:H) (c:Nat) (df:List Nat):Option (Rt H) :=
 (Z00 P .lss 3 t8 t2).bind fun t14 =>
 Z09 t14
 ((o (Zfv rd) [t0,t1,t2,t3,t8,t8] h (c+1+1) df).bind fun r0 =>
 cond (Z0t r0.e (.exit 2))
  ((Z00 P .add 3 (r0.v 4) (.int .i64 1)).bind fun t16 =>
  some ⟨.normal,[r0.v 0,r0.v 1,r0.v 2,r0.v 3,t16],r0.h,(r0.c+1),r0.df⟩)
  (none))
 (some ⟨(.exit 0),[t0,t1,t2,t3,t8],h,(c+1),df⟩)
theorem ZaI (o:Orc H) (rd:Option Nat) (t0 t1 t2 t3 t8:Value) (h:H) (c:Nat) (df:List Nat):jx P o 53 rd Z2C (Z0g [0,1,2,3,8] [t0,t1,t2,t3,t8]) h c df (Klp [0,1,2,3,8])=Z6C o rd t0 t1 t2 t3 t8 h c df:=by kernel_rfl
noncomputable def ZmY (o:Orc H) (t0 t1 t2 t3:Value) (h:H) (c:Nat):Option (Rt H) :=
 (Z00 P .add 3 t1 (.int .i64 1)).bind fun t11 =>
 (o (Zfw none) [t0,t1,t2,t3,t11] h (c+1) []).bind fun r0 =>
 cond (Z0t r0.e (.exit 0))
 ((Z07 r0.h r0.df).bind fun h1 =>
 some ⟨.ret,[.tuple #[]],h1,r0.c,[]⟩)
 (none)
theorem ZkH (o:Orc H) (t0 t1 t2 t3:Value) (h:H) (c:Nat):jx P o 53 none f82_c (Z0g (List.range 4) [t0,t1,t2,t3]) h c [] (Kfn P Try.f82.results.toList)=ZmY o t0 t1 t2 t3 h c:=by kernel_rfl

variable {H:Type} [HeapC H]
noncomputable def Z6A (o:Orc H) (rd:Option Nat) (t0 t1 t4 t10 t11:Value) (h:H) (c:Nat) (df:List Nat):Option (Rt H) :=
 (Z00 P .lss 3 t10 t11).bind fun t33 =>
 Z09 t33
 ((Z00 P .add 3 t10 t11).bind fun t36 =>
 (Zin .u64 t36).bind fun t37 =>
 (Z00 P .shr 91 t37 (.int .u64 1)).bind fun t38 =>
 (Zin .i64 t38).bind fun t39 =>
 (ixS 1 t0 t39).bind fun t43 =>
 (ld1 h t43).bind fun t44 =>
 (ixS 1 t0 t1).bind fun t47 =>
 (ld1 h t47).bind fun t48 =>
 (Z1S o h (c+1+1+1) t4 [t44,t48]).bind fun r0 =>
 (Z00 P .lss 3 r0.1 (.int .i64 0)).bind fun t50 =>
 (Z09 t50
  ((Z00 P .add 3 t39 (.int .i64 1)).bind fun t52 =>
  some ⟨.normal,[t0,t1,t4,t52,t11],r0.2.1,(r0.2.2+1),df⟩)
  (some ⟨.normal,[t0,t1,t4,t10,t39],r0.2.1,(r0.2.2+1),df⟩):Option (Rt H)).bind fun r3 =>
 cond (Z0t r3.e .normal)
  (some ⟨.normal,[r3.v 0,r3.v 1,r3.v 2,r3.v 3,r3.v 4],r3.h,r3.c,r3.df⟩)
  (none))
 (some ⟨(.exit 0),[t0,t1,t4,t10,t11],h,(c+1),df⟩)
theorem ZaG (o:Orc H) (rd:Option Nat) (t0 t1 t4 t10 t11:Value) (h:H) (c:Nat) (df:List Nat):jx P o 220 rd Z2A (Z0g [0,1,4,10,11] [t0,t1,t4,t10,t11]) h c df (Klp [0,1,4,10,11])=Z6A o rd t0 t1 t4 t10 t11 h c df:=by kernel_rfl
noncomputable def Z6z (o:Orc H) (rd:Option Nat) (t0 t10 t13:Value) (h:H) (c:Nat) (df:List Nat):Option (Rt H) :=
 (Z00 P .sub 3 t10 (.int .i64 1)).bind fun t57 =>
 (Z00 P .lss 3 t13 t57).bind fun t58 =>
 Z09 t58
 ((Z00 P .add 3 t13 (.int .i64 1)).bind fun t65 =>
 (Z00 P .add 3 t13 (.int .i64 1)).bind fun t68 =>
 (ixS 1 t0 t68).bind fun t69 =>
 (ld1 h t69).bind fun t70 =>
 (ixS 1 t0 t13).bind fun t73 =>
 (ld1 h t73).bind fun t74 =>
 (ixS 1 t0 t13).bind fun t75 =>
 (stN h 1 t75 t70).bind fun h1 =>
 (ixS 1 t0 t65).bind fun t76 =>
 (stN h1 1 t76 t74).bind fun h3 =>
 (Z00 P .add 3 t13 (.int .i64 1)).bind fun t60 =>
 some ⟨.normal,[t0,t10,t60],h3,(c+1+1+1),df⟩)
 (some ⟨(.exit 2),[t0,t10,t13],h,(c+1),df⟩)
theorem ZaF (o:Orc H) (rd:Option Nat) (t0 t10 t13:Value) (h:H) (c:Nat) (df:List Nat):jx P o 220 rd Z2z (Z0g [0,10,13] [t0,t10,t13]) h c df (Klp [0,10,13])=Z6z o rd t0 t10 t13 h c df:=by kernel_rfl
noncomputable def Z6y (o:Orc H) (rd:Option Nat) (t0 t2 t4 t14 t15:Value) (h:H) (c:Nat) (df:List Nat):Option (Rt H) :=
 (Z00 P .lss 3 t14 t15).bind fun t85 =>
 Z09 t85
 ((Z00 P .add 3 t14 t15).bind fun t88 =>
 (Zin .u64 t88).bind fun t89 =>
 (Z00 P .shr 91 t89 (.int .u64 1)).bind fun t90 =>
 (Zin .i64 t90).bind fun t91 =>
 (ixS 1 t0 t2).bind fun t95 =>
 (ld1 h t95).bind fun t96 =>
 (ixS 1 t0 t91).bind fun t99 =>
 (ld1 h t99).bind fun t100 =>
 (Z1S o h (c+1+1+1) t4 [t96,t100]).bind fun r0 =>
 (Z00 P .lss 3 r0.1 (.int .i64 0)).bind fun t102 =>
 (Z10 .not t102).bind fun t103 =>
 (Z09 t103
  ((Z00 P .add 3 t91 (.int .i64 1)).bind fun t105 =>
  some ⟨.normal,[t0,t2,t4,t105,t15],r0.2.1,(r0.2.2+1),df⟩)
  (some ⟨.normal,[t0,t2,t4,t14,t91],r0.2.1,(r0.2.2+1),df⟩):Option (Rt H)).bind fun r3 =>
 cond (Z0t r3.e .normal)
  (some ⟨.normal,[r3.v 0,r3.v 1,r3.v 2,r3.v 3,r3.v 4],r3.h,r3.c,r3.df⟩)
  (none))
 (some ⟨(.exit 4),[t0,t2,t4,t14,t15],h,(c+1),df⟩)
theorem ZaE (o:Orc H) (rd:Option Nat) (t0 t2 t4 t14 t15:Value) (h:H) (c:Nat) (df:List Nat):jx P o 220 rd Z2y (Z0g [0,2,4,14,15] [t0,t2,t4,t14,t15]) h c df (Klp [0,2,4,14,15])=Z6y o rd t0 t2 t4 t14 t15 h c df:=by kernel_rfl
noncomputable def Z6x (o:Orc H) (rd:Option Nat) (t0 t14 t17:Value) (h:H) (c:Nat) (df:List Nat):Option (Rt H) :=
 (Z00 P .gtr 3 t17 t14).bind fun t110 =>
 Z09 t110
 ((Z00 P .sub 3 t17 (.int .i64 1)).bind fun t117 =>
 (Z00 P .sub 3 t17 (.int .i64 1)).bind fun t120 =>
 (ixS 1 t0 t120).bind fun t121 =>
 (ld1 h t121).bind fun t122 =>
 (ixS 1 t0 t17).bind fun t125 =>
 (ld1 h t125).bind fun t126 =>
 (ixS 1 t0 t17).bind fun t127 =>
 (stN h 1 t127 t122).bind fun h1 =>
 (ixS 1 t0 t117).bind fun t128 =>
 (stN h1 1 t128 t126).bind fun h3 =>
 (Z00 P .sub 3 t17 (.int .i64 1)).bind fun t112 =>
 some ⟨.normal,[t0,t14,t112],h3,(c+1+1+1),df⟩)
 (some ⟨(.exit 6),[t0,t14,t17],h,(c+1),df⟩)
theorem ZaD (o:Orc H) (rd:Option Nat) (t0 t14 t17:Value) (h:H) (c:Nat) (df:List Nat):jx P o 220 rd Z2x (Z0g [0,14,17] [t0,t14,t17]) h c df (Klp [0,14,17])=Z6x o rd t0 t14 t17 h c df:=by kernel_rfl
noncomputable def Z6w (o:Orc H) (rd:Option Nat) (t0 t1 t2 t3 t4 t18 t19 t20 t21 t22:Value) (h:H) (c:Nat) (df:List Nat):Option (Rt H) :=
 (Z00 P .lss 3 t20 t21).bind fun t151 =>
 Z09 t151
 ((Z00 P .add 3 t20 t21).bind fun t154 =>
 (Zin .u64 t154).bind fun t155 =>
 (Z00 P .shr 91 t155 (.int .u64 1)).bind fun t156 =>
 (Zin .i64 t156).bind fun t157 =>
 (Z00 P .sub 3 t22 t157).bind fun t162 =>
 (ixS 1 t0 t162).bind fun t163 =>
 (ld1 h t163).bind fun t164 =>
 (ixS 1 t0 t157).bind fun t167 =>
 (ld1 h t167).bind fun t168 =>
 (Z1S o h (c+1+1+1) t4 [t164,t168]).bind fun r0 =>
 (Z00 P .lss 3 r0.1 (.int .i64 0)).bind fun t170 =>
 (Z10 .not t170).bind fun t171 =>
 (Z09 t171
  ((Z00 P .add 3 t157 (.int .i64 1)).bind fun t173 =>
  some ⟨.normal,[t0,t1,t2,t3,t4,t18,t19,t173,t21,t22],r0.2.1,(r0.2.2+1),df⟩)
  (some ⟨.normal,[t0,t1,t2,t3,t4,t18,t19,t20,t157,t22],r0.2.1,(r0.2.2+1),df⟩):Option (Rt H)).bind fun r3 =>
 cond (Z0t r3.e .normal)
  (some ⟨.normal,[r3.v 0,r3.v 1,r3.v 2,r3.v 3,r3.v 4,r3.v 5,r3.v 6,r3.v 7,r3.v 8,r3.v 9],r3.h,r3.c,r3.df⟩)
  (none))
 (some ⟨(.exit 8),[t0,t1,t2,t3,t4,t18,t19,t20,t21,t22],h,(c+1),df⟩)
theorem ZaC (o:Orc H) (rd:Option Nat) (t0 t1 t2 t3 t4 t18 t19 t20 t21 t22:Value) (h:H) (c:Nat) (df:List Nat):jx P o 220 rd Z2w (Z0g [0,1,2,3,4,18,19,20,21,22] [t0,t1,t2,t3,t4,t18,t19,t20,t21,t22]) h c df (Klp [0,1,2,3,4,18,19,20,21,22])=Z6w o rd t0 t1 t2 t3 t4 t18 t19 t20 t21 t22 h c df:=by kernel_rfl
noncomputable def ZmX (o:Orc H) (t0 t1 t2 t3 t4:Value) (h:H) (c:Nat):Option (Rt H) :=
 (Z00 P .sub 3 t2 t1).bind fun t27 =>
 (Z00 P .eql 3 t27 (.int .i64 1)).bind fun t28 =>
 Z09 t28
 ((o (Zft none) [t0,t1,t4,t2,t3] h (c+1+1+1) []).bind fun r0 =>
 cond (Z0t r0.e (.exit 0))
  ((o (Zfs none) [r0.v 0,r0.v 3,r0.v 1] r0.h (r0.c+1) r0.df).bind fun r1 =>
  cond (Z0t r1.e (.exit 2))
   ((Z07 r1.h r1.df).bind fun h2 =>
   some ⟨.ret,[.tuple #[]],h2,r1.c,[]⟩)
   (none))
  (none))
 ((Z00 P .sub 3 t3 t2).bind fun t79 =>
 (Z00 P .eql 3 t79 (.int .i64 1)).bind fun t80 =>
 Z09 t80
  ((o (Zfr none) [t0,t2,t4,t1,t2] h (c+1+1+1+1) []).bind fun r3 =>
  cond (Z0t r3.e (.exit 4))
   ((o (Zfq none) [r3.v 0,r3.v 3,r3.v 1] r3.h (r3.c+1) r3.df).bind fun r4 =>
   cond (Z0t r4.e (.exit 6))
    ((Z07 r4.h r4.df).bind fun h5 =>
    some ⟨.ret,[.tuple #[]],h5,r4.c,[]⟩)
    (none))
   (none))
  ((Z00 P .add 3 t1 t3).bind fun t131 =>
  (Zin .u64 t131).bind fun t132 =>
  (Z00 P .shr 91 t132 (.int .u64 1)).bind fun t133 =>
  (Zin .i64 t133).bind fun t134 =>
  (Z00 P .add 3 t134 t2).bind fun t137 =>
  (Z00 P .gtr 3 t2 t134).bind fun t140 =>
  (Z09 t140
   ((Z00 P .sub 3 t137 t3).bind fun t143 =>
   some ⟨.normal,[t0,t1,t2,t3,t4,t134,t137,t143,t134],h,(c+1+1+1+1+1+1+1+1),[]⟩)
   (some ⟨.normal,[t0,t1,t2,t3,t4,t134,t137,t1,t2],h,(c+1+1+1+1+1+1+1+1),[]⟩):Option (Rt H)).bind fun r6 =>
  cond (Z0t r6.e .normal)
   ((Z00 P .sub 3 (r6.v 6) (.int .i64 1)).bind fun t148 =>
   (o (Zfp none) [r6.v 0,r6.v 1,r6.v 2,r6.v 3,r6.v 4,r6.v 5,r6.v 6,r6.v 7,r6.v 8,t148] r6.h (r6.c+1) r6.df).bind fun r7 =>
   cond (Z0t r7.e (.exit 8))
    ((Z00 P .sub 3 (r7.v 6) (r7.v 7)).bind fun t177 =>
    (Z00 P .lss 3 (r7.v 7) (r7.v 2)).bind fun t180 =>
    (gd t180 true r7.h (r7.c+1+1) (some (r7.v 2))).bind fun r8 =>
    (gd t180 true r8.2.1 r8.2.2 (some t177)).bind fun r9 =>
    (gd t180 true r9.2.1 r9.2.2 (Z00 P .lss 3 r8.1 r9.1)).bind fun r10 =>
    (Z0v t180 r10.1 (.bool false)).bind fun t185 =>
    (Z09 t185
     ((callF o 84 [r7.v 0,r7.v 7,r7.v 2,t177,r7.v 4] r10.2.1 (r10.2.2+1)).bind fun r11 =>
     some ⟨.normal,[r7.v 0,r7.v 1,r7.v 3,r7.v 4,r7.v 5,r7.v 7,t177],r11.2.1,r11.2.2,r7.df⟩)
     (some ⟨.normal,[r7.v 0,r7.v 1,r7.v 3,r7.v 4,r7.v 5,r7.v 7,t177],r10.2.1,r10.2.2,r7.df⟩):Option (Rt H)).bind fun r12 =>
    cond (Z0t r12.e .normal)
     ((Z00 P .lss 3 (r12.v 1) (r12.v 5)).bind fun t194 =>
     (gd t194 true r12.h (r12.c+1) (some (r12.v 5))).bind fun r13 =>
     (gd t194 true r13.2.1 r13.2.2 (some (r12.v 4))).bind fun r14 =>
     (gd t194 true r14.2.1 r14.2.2 (Z00 P .lss 3 r13.1 r14.1)).bind fun r15 =>
     (Z0v t194 r15.1 (.bool false)).bind fun t199 =>
     (Z09 t199
      ((callF o 83 [r12.v 0,r12.v 1,r12.v 5,r12.v 4,r12.v 3] r15.2.1 (r15.2.2+1)).bind fun r16 =>
      some ⟨.normal,[r12.v 0,r12.v 2,r12.v 3,r12.v 4,r12.v 6],r16.2.1,r16.2.2,r12.df⟩)
      (some ⟨.normal,[r12.v 0,r12.v 2,r12.v 3,r12.v 4,r12.v 6],r15.2.1,r15.2.2,r12.df⟩):Option (Rt H)).bind fun r17 =>
     cond (Z0t r17.e .normal)
      ((Z00 P .lss 3 (r17.v 3) (r17.v 4)).bind fun t208 =>
      (gd t208 true r17.h (r17.c+1) (some (r17.v 4))).bind fun r18 =>
      (gd t208 true r18.2.1 r18.2.2 (some (r17.v 1))).bind fun r19 =>
      (gd t208 true r19.2.1 r19.2.2 (Z00 P .lss 3 r18.1 r19.1)).bind fun r20 =>
      (Z0v t208 r20.1 (.bool false)).bind fun t213 =>
      (Z09 t213
       ((callF o 83 [r17.v 0,r17.v 3,r17.v 4,r17.v 1,r17.v 2] r20.2.1 (r20.2.2+1)).bind fun r21 =>
       some ⟨.normal,[],r21.2.1,r21.2.2,r17.df⟩)
       (some ⟨.normal,[],r20.2.1,r20.2.2,r17.df⟩):Option (Rt H)).bind fun r22 =>
      cond (Z0t r22.e .normal)
       ((Z07 r22.h r22.df).bind fun h23 =>
       some ⟨.ret,[.tuple #[]],h23,r22.c,[]⟩)
       (none))
      (none))
     (none))
    (none))
   (none)))
theorem ZkG (o:Orc H) (t0 t1 t2 t3 t4:Value) (h:H) (c:Nat):jx P o 220 none f83_c (Z0g (List.range 5) [t0,t1,t2,t3,t4]) h c [] (Kfn P Try.f83.results.toList)=ZmX o t0 t1 t2 t3 t4 h c:=by kernel_rfl
noncomputable def Z6v (o:Orc H) (rd:Option Nat) (t0 t2 t4 t10 t11:Value) (h:H) (c:Nat) (df:List Nat):Option (Rt H) :=
 (Z00 P .neq 3 t10 t11).bind fun t20 =>
 Z09 t20
 ((Z00 P .gtr 3 t10 t11).bind fun t23 =>
 (Z09 t23
  ((Z00 P .sub 3 t2 t10).bind fun t27 =>
  (callF o 85 [t0,t27,t2,t11,t4] h (c+1+1+1)).bind fun r0 =>
  (Z00 P .sub 3 t10 t11).bind fun t34 =>
  some ⟨.normal,[t0,t2,t4,t34,t11],r0.2.1,(r0.2.2+1),df⟩)
  ((Z00 P .sub 3 t2 t10).bind fun t38 =>
  (Z00 P .add 3 t2 t11).bind fun t41 =>
  (Z00 P .sub 3 t41 t10).bind fun t43 =>
  (callF o 85 [t0,t38,t43,t10,t4] h (c+1+1+1)).bind fun r2 =>
  (Z00 P .sub 3 t11 t10).bind fun t49 =>
  some ⟨.normal,[t0,t2,t4,t10,t49],r2.2.1,(r2.2.2+1),df⟩):Option (Rt H)).bind fun r4 =>
 cond (Z0t r4.e .normal)
  (some ⟨.normal,[r4.v 0,r4.v 1,r4.v 2,r4.v 3,r4.v 4],r4.h,r4.c,r4.df⟩)
  (none))
 (some ⟨(.exit 0),[t0,t2,t4,t10,t11],h,(c+1),df⟩)
theorem ZaB (o:Orc H) (rd:Option Nat) (t0 t2 t4 t10 t11:Value) (h:H) (c:Nat) (df:List Nat):jx P o 58 rd Z2v (Z0g [0,2,4,10,11] [t0,t2,t4,t10,t11]) h c df (Klp [0,2,4,10,11])=Z6v o rd t0 t2 t4 t10 t11 h c df:=by kernel_rfl
noncomputable def ZmW (o:Orc H) (t0 t1 t2 t3 t4:Value) (h:H) (c:Nat):Option (Rt H) :=
 (Z00 P .sub 3 t2 t1).bind fun t14 =>
 (Z00 P .sub 3 t3 t2).bind fun t17 =>
 (o (Zfn none) [t0,t2,t4,t14,t17] h (c+1+1) []).bind fun r0 =>
 cond (Z0t r0.e (.exit 0))
 ((Z00 P .sub 3 (r0.v 1) (r0.v 3)).bind fun t53 =>
 (callF o 85 [r0.v 0,t53,r0.v 1,r0.v 3,r0.v 2] r0.h (r0.c+1)).bind fun r1 =>
 (Z07 r1.2.1 r0.df).bind fun h2 =>
 some ⟨.ret,[.tuple #[]],h2,r1.2.2,[]⟩)
 (none)
theorem ZkF (o:Orc H) (t0 t1 t2 t3 t4:Value) (h:H) (c:Nat):jx P o 58 none f84_c (Z0g (List.range 5) [t0,t1,t2,t3,t4]) h c [] (Kfn P Try.f84.results.toList)=ZmW o t0 t1 t2 t3 t4 h c:=by kernel_rfl
noncomputable def Z6u (o:Orc H) (rd:Option Nat) (t0 t1 t2 t3 t10:Value) (h:H) (c:Nat) (df:List Nat):Option (Rt H) :=
 (Z00 P .lss 3 t10 t3).bind fun t13 =>
 Z09 t13
 ((Z00 P .add 3 t1 t10).bind fun t19 =>
 (Z00 P .add 3 t2 t10).bind fun t23 =>
 (Z00 P .add 3 t2 t10).bind fun t27 =>
 (ixS 1 t0 t27).bind fun t28 =>
 (ld1 h t28).bind fun t29 =>
 (Z00 P .add 3 t1 t10).bind fun t33 =>
 (ixS 1 t0 t33).bind fun t34 =>
 (ld1 h t34).bind fun t35 =>
 (ixS 1 t0 t19).bind fun t36 =>
 (stN h 1 t36 t29).bind fun h1 =>
 (ixS 1 t0 t23).bind fun t37 =>
 (stN h1 1 t37 t35).bind fun h3 =>
 (Z00 P .add 3 t10 (.int .i64 1)).bind fun t15 =>
 some ⟨.normal,[t0,t1,t2,t3,t15],h3,(c+1+1+1),df⟩)
 (some ⟨(.exit 0),[t0,t1,t2,t3,t10],h,(c+1),df⟩)
theorem ZaA (o:Orc H) (rd:Option Nat) (t0 t1 t2 t3 t10:Value) (h:H) (c:Nat) (df:List Nat):jx P o 38 rd Z2u (Z0g [0,1,2,3,10] [t0,t1,t2,t3,t10]) h c df (Klp [0,1,2,3,10])=Z6u o rd t0 t1 t2 t3 t10 h c df:=by kernel_rfl
noncomputable def ZmV (o:Orc H) (t0 t1 t2 t3 t4:Value) (h:H) (c:Nat):Option (Rt H) :=
 (o (Zfl none) [t0,t1,t2,t3,(.int .i64 0)] h (c+1) []).bind fun r0 =>
 cond (Z0t r0.e (.exit 0))
 ((Z07 r0.h r0.df).bind fun h1 =>
 some ⟨.ret,[.tuple #[]],h1,r0.c,[]⟩)
 (none)
theorem ZkE (o:Orc H) (t0 t1 t2 t3 t4:Value) (h:H) (c:Nat):jx P o 38 none f85_c (Z0g (List.range 5) [t0,t1,t2,t3,t4]) h c [] (Kfn P Try.f85.results.toList)=ZmV o t0 t1 t2 t3 t4 h c:=by kernel_rfl
end Go.Proofs.Ytemkjcpfgmbibaa
