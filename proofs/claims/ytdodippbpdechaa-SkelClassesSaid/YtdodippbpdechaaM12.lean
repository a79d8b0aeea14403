/- Parts of a proof: S7 S8 S9. Conditions: none. -/
import Derived.Test.YtdodippbpdechaaM8
set_option linter.all false
set_option maxRecDepth 100000
set_option maxHeartbeats 4000000
namespace Go.Proofs.Ytdodippbpdechaa
open Go Go.Ab Go.Proofs
variable {H:Type} [HeapC H]
noncomputable def Z4p (o:Orc H) (rd:Option Nat) (t3 t4 t6 t7 t8 t9 t18 t19 t20 t25 t26:Value) (h:H) (c:Nat) (df:List Nat):Option (Rt H) :=
 (Z00 P .lss 3 t9 (.int .i64 4)).bind fun t38 =>
 Z09 t38
 ((Z00 P .neq 3 t8 t9).bind fun t43 =>
 (gd t43 true h (c+1+1) (some t8)).bind fun r0 =>
 (gd t43 true r0.2.1 r0.2.2 (some t6)).bind fun r1 =>
 (gd t43 true r1.2.1 r1.2.2 (Z00 P .neq 3 r0.1 r1.1)).bind fun r2 =>
 (Z0C t43 r2.1 (.bool false)).bind fun t48 =>
 (gd t48 true r2.2.1 r2.2.2 (some t9)).bind fun r3 =>
 (gd t48 true r3.2.1 r3.2.2 (some t6)).bind fun r4 =>
 (gd t48 true r4.2.1 r4.2.2 (Z00 P .neq 3 r3.1 r4.1)).bind fun r5 =>
 (Z0C t48 r5.1 (.bool false)).bind fun t53 =>
 (Z09 t53
  ((Z00 P .mul 3 (.int .i64 16) t4).bind fun t56 =>
  (Z00 P .mul 3 (.int .i64 4) t8).bind fun t58 =>
  (Z00 P .add 3 t56 t58).bind fun t59 =>
  (Z00 P .add 3 t59 t9).bind fun t61 =>
  (Z03 t7 0).bind fun t62 =>
  (ld1 r5.2.1 t62).bind fun t63 =>
  (Z00 P .mul 3 (.int .i64 16) t63).bind fun t64 =>
  (Z03 t7 1).bind fun t66 =>
  (ixA 4 1 t66 t8).bind fun t67 =>
  (ld1 r5.2.1 t67).bind fun t68 =>
  (Z00 P .mul 3 (.int .i64 4) t68).bind fun t69 =>
  (Z00 P .add 3 t64 t69).bind fun t70 =>
  (Z03 t7 1).bind fun t72 =>
  (ixA 4 1 t72 t9).bind fun t73 =>
  (ld1 r5.2.1 t73).bind fun t74 =>
  (Z00 P .add 3 t70 t74).bind fun t75 =>
  (callF o 81 [t3,t61,t75] r5.2.1 (r5.2.2+1)).bind fun r6 =>
  some ⟨.normal,[t3,t4,t6,t7,t8,t9,t18,t19,t20,t25,t26],r6.2.1,r6.2.2,df⟩)
  (some ⟨.normal,[t3,t4,t6,t7,t8,t9,t18,t19,t20,t25,t26],r5.2.1,r5.2.2,df⟩):Option (Rt H)).bind fun r7 =>
 cond (Z0r r7.e .normal)
  ((Z00 P .add 3 (r7.v 5) (.int .i64 1)).bind fun t40 =>
  some ⟨.normal,[r7.v 0,r7.v 1,r7.v 2,r7.v 3,r7.v 4,t40,r7.v 6,r7.v 7,r7.v 8,r7.v 9,r7.v 10],r7.h,(r7.c+1),r7.df⟩)
  (none))
 (some ⟨(.exit 6),[t3,t4,t6,t7,t8,t9,t18,t19,t20,t25,t26],h,(c+1),df⟩)
theorem Z2T (o:Orc H) (rd:Option Nat) (t3 t4 t6 t7 t8 t9 t18 t19 t20 t25 t26:Value) (h:H) (c:Nat) (df:List Nat):jx P o 95 rd Z8n (Z0h [3,4,6,7,8,9,18,19,20,25,26] [t3,t4,t6,t7,t8,t9,t18,t19,t20,t25,t26]) h c df (Klp [3,4,6,7,8,9,18,19,20,25,26])=Z4p o rd t3 t4 t6 t7 t8 t9 t18 t19 t20 t25 t26 h c df:=by kernel_rfl
noncomputable def Z8s (o:Orc H) (rd:Option Nat) (t3 t4 t6 t7 t8 t18 t19 t20 t25 t26:Value) (h:H) (c:Nat) (df:List Nat):Option (Rt H) :=
 (Z00 P .lss 3 t8 (.int .i64 4)).bind fun t34 =>
 Z09 t34
 ((o (Zbw rd) [t3,t4,t6,t7,t8,(.int .i64 0),t18,t19,t20,t25,t26] h (c+1+1) df).bind fun r0 =>
 cond (Z0r r0.e (.exit 6))
  ((Z00 P .add 3 (r0.v 4) (.int .i64 1)).bind fun t36 =>
  some ⟨.normal,[r0.v 0,r0.v 1,r0.v 2,r0.v 3,t36,r0.v 6,r0.v 7,r0.v 8,r0.v 9,r0.v 10],r0.h,(r0.c+1),r0.df⟩)
  (none))
 (some ⟨(.exit 4),[t3,t4,t6,t7,t8,t18,t19,t20,t25,t26],h,(c+1),df⟩)
theorem Z79 (o:Orc H) (rd:Option Nat) (t3 t4 t6 t7 t8 t18 t19 t20 t25 t26:Value) (h:H) (c:Nat) (df:List Nat):jx P o 95 rd Z8o (Z0h [3,4,6,7,8,18,19,20,25,26] [t3,t4,t6,t7,t8,t18,t19,t20,t25,t26]) h c df (Klp [3,4,6,7,8,18,19,20,25,26])=Z8s o rd t3 t4 t6 t7 t8 t18 t19 t20 t25 t26 h c df:=by kernel_rfl
noncomputable def Z62 (o:Orc H) (rd:Option Nat) (t3 t4 t18 t19 t20 t25 t26:Value) (h:H) (c:Nat) (df:List Nat):Option (Rt H) :=
 (Z00 P .lss 3 t26 (.int .i64 4)).bind fun t27 =>
 Z09 t27
 (((ixV 4 true 5 t25 t26).bind fun t29 =>
  (stN (newB h (256*(c+1)+2) [(.int .i64 0),(.int .i64 0),(.int .i64 0),(.int .i64 0),(.int .i64 0)]) 5 (ptrTo (256*(c+1)+2)) t29).bind fun h1 =>
  (Z03 (ptrTo (256*(c+1)+2)) 0).bind fun t30 =>
  (ld1 h1 t30).bind fun t31 =>
  (Z00 P .lss 3 t31 (.int .i64 0)).bind fun t32 =>
  Z09 t32
   (some ⟨.normal,[t3,t4,t18,t19,t20,t25,t26],h1,(c+1+1+1),df⟩)
   ((o (Zbx rd) [t3,t4,t26,(ptrTo (256*(c+1)+2)),(.int .i64 0),t18,t19,t20,t25,t26] h1 (c+1+1+1+1) df).bind fun r2 =>
   cond (Z0r r2.e (.exit 4))
    (some ⟨.normal,[r2.v 0,r2.v 1,r2.v 5,r2.v 6,r2.v 7,r2.v 8,r2.v 9],r2.h,r2.c,r2.df⟩)
    (none)):Option (Rt H)).bind fun r3 =>
 cond (Z0r r3.e .normal)
  ((Z00 P .add 3 (r3.v 6) (.int .i64 1)).bind fun t77 =>
  some ⟨.normal,[r3.v 0,r3.v 1,r3.v 2,r3.v 3,r3.v 4,r3.v 5,t77],r3.h,(r3.c+1),r3.df⟩)
  (none))
 (some ⟨(.exit 2),[t3,t4,t18,t19,t20,t25,t26],h,(c+1),df⟩)
theorem Z56 (o:Orc H) (rd:Option Nat) (t3 t4 t18 t19 t20 t25 t26:Value) (h:H) (c:Nat) (df:List Nat):jx P o 95 rd Z8p (Z0h [3,4,18,19,20,25,26] [t3,t4,t18,t19,t20,t25,t26]) h c df (Klp [3,4,18,19,20,25,26])=Z62 o rd t3 t4 t18 t19 t20 t25 t26 h c df:=by kernel_rfl
noncomputable def Z8t (o:Orc H) (rd:Option Nat) (t3 t18 t19 t20:Value) (h:H) (c:Nat) (df:List Nat):Option (Rt H) :=
 (Z00 P .lss 3 t20 t19).bind fun t21 =>
 Z09 t21
 ((ixS 20 t18 t20).bind fun t23 =>
 (ldN h 20 t23).bind fun t24 =>
 (stN (newB h (256*(c+1)+3) [(.int .i64 0),(.int .i64 0),(.int .i64 0),(.int .i64 0),(.int .i64 0),(.int .i64 0),(.int .i64 0),(.int .i64 0),(.int .i64 0),(.int .i64 0),(.int .i64 0),(.int .i64 0),(.int .i64 0),(.int .i64 0),(.int .i64 0),(.int .i64 0),(.int .i64 0),(.int .i64 0),(.int .i64 0),(.int .i64 0)]) 20 (ptrTo (256*(c+1)+3)) t24).bind fun h1 =>
 (ldN h1 20 (ptrTo (256*(c+1)+3))).bind fun t25 =>
 (o (Zby rd) [t3,t20,t18,t19,t20,t25,(.int .i64 0)] h1 (c+1+1+1) df).bind fun r2 =>
 cond (Z0r r2.e (.exit 2))
  ((Z00 P .add 3 (r2.v 4) (.int .i64 1)).bind fun t78 =>
  some ⟨.normal,[r2.v 0,r2.v 2,r2.v 3,t78],r2.h,(r2.c+1),r2.df⟩)
  (none))
 (some ⟨(.exit 0),[t3,t18,t19,t20],h,(c+1),df⟩)
theorem Z7a (o:Orc H) (rd:Option Nat) (t3 t18 t19 t20:Value) (h:H) (c:Nat) (df:List Nat):jx P o 95 rd Z8q (Z0h [3,18,19,20] [t3,t18,t19,t20]) h c df (Klp [3,18,19,20])=Z8t o rd t3 t18 t19 t20 h c df:=by kernel_rfl
noncomputable def Z8r (o:Orc H) (rd:Option Nat) (t3 t10 t83 t84:Value) (h:H) (c:Nat) (df:List Nat):Option (Rt H) :=
 (Z00 P .lss 3 t84 t83).bind fun t85 =>
 Z09 t85
 ((callF o 87 [t3,t84] h (c+1+1+1)).bind fun r0 =>
 (ixS 1 t10 t84).bind fun t92 =>
 (stN r0.2.1 1 t92 r0.1).bind fun h2 =>
 (Z00 P .add 3 t84 (.int .i64 1)).bind fun t93 =>
 some ⟨.normal,[t3,t10,t83,t93],h2,(r0.2.2+1),df⟩)
 (some ⟨(.exit 8),[t3,t10,t83,t84],h,(c+1),df⟩)
theorem Z78 (o:Orc H) (rd:Option Nat) (t3 t10 t83 t84:Value) (h:H) (c:Nat) (df:List Nat):jx P o 95 rd Z8m (Z0h [3,10,83,84] [t3,t10,t83,t84]) h c df (Klp [3,10,83,84])=Z8r o rd t3 t10 t83 t84 h c df:=by kernel_rfl
noncomputable def ZpN (o:Orc H) (t0:Value) (h:H) (c:Nat):Option (Rt H) :=
 (bif (t0:Value).cells.toList.all Z08 then
 (Z03 (ptrTo (256*c+0)) 0).bind fun t12 =>
 (ld1 (newB h (256*c+0) (t0:Value).cells.toList) t12).bind fun t13 =>
 (Z1q t13).bind fun t14 =>
 (Z00 P .mul 3 (.int .i64 16) t14).bind fun t15 =>
 (callF o 80 [t15] (newB h (256*c+0) (t0:Value).cells.toList) (c+1+1)).bind fun r0 =>
 (Z03 (ptrTo (256*c+0)) 0).bind fun t17 =>
 (ld1 r0.2.1 t17).bind fun t18 =>
 (Z1q t18).bind fun t19 =>
 (o (Zbz none) [r0.1,t18,t19,(.int .i64 0)] r0.2.1 (r0.2.2+1) []).bind fun r1 =>
 cond (Z0r r1.e (.exit 0))
 ((Z1q (r1.v 0)).bind fun t80 =>
 (mkS 1 8 [(.int .i64 0)] t80 t80).bind fun r2 =>
 (Z1q (r1.v 0)).bind fun t83 =>
 (o (Zbv none) [r1.v 0,(.slice (some ⟨(256*r1.c+2),0,none⟩) r2.2.1 r2.2.2),t83,(.int .i64 0)] (newB r1.h (256*r1.c+2) r2.1) (r1.c+1+1) r1.df).bind fun r3 =>
 cond (Z0r r3.e (.exit 8))
  ((Z0a r3.h r3.df).bind fun h4 =>
  some ⟨.ret,[r3.v 1],h4,(r3.c+1),[]⟩)
  (none))
 (none)
 else none)
theorem Zna (o:Orc H) (t0:Value) (h:H) (c:Nat):jx P o 95 none f75_c (Z0h (List.range 1) [t0]) h c [] (Kfn P Try.f75.results.toList)=ZpN o t0 h c:=by kernel_rfl
theorem f75_go {t0:Value} {h:FH} {c:Nat} {df:List Nat} {r:Rt FH} (e:ZpN G t0 h c=some r):G (.fn 75) [t0] h c df=some r:=Z0f (a:=Zn9) bk_75 rfl (fun args h c=>by cases args <;> rfl) rfl ((Zna G t0 h c).trans e)
noncomputable def Z4o (o:Orc H) (rd:Option Nat) (t1 t2 t3 t4 t8 t9 t10 t11 t12 t13 t14 t15 t16 t19 t20 t21:Value) (h:H) (c:Nat) (df:List Nat):Option (Rt H) :=
 (Z00 P .lss 3 t16 (.int .i64 4)).bind fun t44 =>
 Z09 t44
 (((Z00 P .eql 3 t16 t15).bind fun t49 =>
  Z09 t49
   (some ⟨.normal,[t1,t2,t3,t4,t8,t9,t10,t11,t12,t13,t14,t15,t16,t19,t20,t21],h,(c+1+1),df⟩)
   ((Z00 P .mul 3 (.int .i64 16) t13).bind fun t53 =>
   (Z00 P .mul 3 (.int .i64 4) t15).bind fun t55 =>
   (Z00 P .add 3 t53 t55).bind fun t56 =>
   (Z00 P .add 3 t56 t16).bind fun t58 =>
   (ixS 1 t2 t58).bind fun t59 =>
   (ld1 h t59).bind fun t60 =>
   (callF o 88 [t12,t60] h (c+1+1+1)).bind fun r0 =>
   (ixA 4 5 t14 t16).bind fun t63 =>
   (Z03 t63 0).bind fun t64 =>
   (ld1 r0.2.1 t64).bind fun t65 =>
   (Z00 P .lss 3 t65 (.int .i64 0)).bind fun t66 =>
   (Z09 t66
    ((Z00 P .add 3 t11 (.int .i64 1)).bind fun t68 =>
    some ⟨.normal,[t1,t2,t3,t4,t8,t9,t10,t68,r0.1,t13,t14,t15,t16,t19,t20,t21],r0.2.1,(r0.2.2+1+1),df⟩)
    ((Z00 P .add 3 t10 (.int .i64 1)).bind fun t70 =>
    some ⟨.normal,[t1,t2,t3,t4,t8,t9,t70,t11,r0.1,t13,t14,t15,t16,t19,t20,t21],r0.2.1,(r0.2.2+1+1),df⟩):Option (Rt H)).bind fun r4 =>
   cond (Z0r r4.e .normal)
    (some ⟨.normal,[r4.v 0,r4.v 1,r4.v 2,r4.v 3,r4.v 4,r4.v 5,r4.v 6,r4.v 7,r4.v 8,r4.v 9,r4.v 10,r4.v 11,r4.v 12,r4.v 13,r4.v 14,r4.v 15],r4.h,r4.c,r4.df⟩)
    (none)):Option (Rt H)).bind fun r5 =>
 cond (Z0r r5.e .normal)
  ((Z00 P .add 3 (r5.v 12) (.int .i64 1)).bind fun t46 =>
  some ⟨.normal,[r5.v 0,r5.v 1,r5.v 2,r5.v 3,r5.v 4,r5.v 5,r5.v 6,r5.v 7,r5.v 8,r5.v 9,r5.v 10,r5.v 11,t46,r5.v 13,r5.v 14,r5.v 15],r5.h,(r5.c+1),r5.df⟩)
  (none))
 (some ⟨(.exit 4),[t1,t2,t3,t4,t8,t9,t10,t11,t12,t13,t14,t15,t16,t19,t20,t21],h,(c+1),df⟩)
theorem Z2S (o:Orc H) (rd:Option Nat) (t1 t2 t3 t4 t8 t9 t10 t11 t12 t13 t14 t15 t16 t19 t20 t21:Value) (h:H) (c:Nat) (df:List Nat):jx P o 98 rd Z8i (Z0h [1,2,3,4,8,9,10,11,12,13,14,15,16,19,20,21] [t1,t2,t3,t4,t8,t9,t10,t11,t12,t13,t14,t15,t16,t19,t20,t21]) h c df (Klp [1,2,3,4,8,9,10,11,12,13,14,15,16,19,20,21])=Z4o o rd t1 t2 t3 t4 t8 t9 t10 t11 t12 t13 t14 t15 t16 t19 t20 t21 h c df:=by kernel_rfl
noncomputable def Z61 (o:Orc H) (rd:Option Nat) (t1 t2 t3 t4 t8 t9 t10 t11 t12 t13 t14 t15 t19 t20 t21:Value) (h:H) (c:Nat) (df:List Nat):Option (Rt H) :=
 (Z00 P .lss 3 t15 (.int .i64 4)).bind fun t27 =>
 Z09 t27
 (((Z00 P .mul 3 (.int .i64 4) t13).bind fun t32 =>
  (Z00 P .add 3 t32 t15).bind fun t34 =>
  (ixS 1 t1 t34).bind fun t35 =>
  (ld1 h t35).bind fun t36 =>
  (Z00 P .neq 3 t36 t3).bind fun t38 =>
  Z09 t38
   (some ⟨.normal,[t1,t2,t3,t4,t8,t9,t10,t11,t12,t13,t14,t15,t19,t20,t21],h,(c+1+1),df⟩)
   ((Z03 t9 0).bind fun t39 =>
   (ld1 h t39).bind fun t40 =>
   (Z00 P .add 3 t40 (.int .i64 1)).bind fun t41 =>
   (Z03 t9 0).bind fun t42 =>
   (stN h 1 t42 t41).bind fun h1 =>
   (o (Zbs rd) [t1,t2,t3,t4,t8,t9,t10,t11,t12,t13,t14,t15,(.int .i64 0),t19,t20,t21] h1 (c+1+1+1+1) df).bind fun r2 =>
   cond (Z0r r2.e (.exit 4))
    (some ⟨.normal,[r2.v 0,r2.v 1,r2.v 2,r2.v 3,r2.v 4,r2.v 5,r2.v 6,r2.v 7,r2.v 8,r2.v 9,r2.v 10,r2.v 11,r2.v 13,r2.v 14,r2.v 15],r2.h,r2.c,r2.df⟩)
    (none)):Option (Rt H)).bind fun r3 =>
 cond (Z0r r3.e .normal)
  ((Z00 P .add 3 (r3.v 11) (.int .i64 1)).bind fun t29 =>
  some ⟨.normal,[r3.v 0,r3.v 1,r3.v 2,r3.v 3,r3.v 4,r3.v 5,r3.v 6,r3.v 7,r3.v 8,r3.v 9,r3.v 10,t29,r3.v 12,r3.v 13,r3.v 14],r3.h,(r3.c+1),r3.df⟩)
  (none))
 (some ⟨(.exit 2),[t1,t2,t3,t4,t8,t9,t10,t11,t12,t13,t14,t15,t19,t20,t21],h,(c+1),df⟩)
theorem Z55 (o:Orc H) (rd:Option Nat) (t1 t2 t3 t4 t8 t9 t10 t11 t12 t13 t14 t15 t19 t20 t21:Value) (h:H) (c:Nat) (df:List Nat):jx P o 98 rd Z8j (Z0h [1,2,3,4,8,9,10,11,12,13,14,15,19,20,21] [t1,t2,t3,t4,t8,t9,t10,t11,t12,t13,t14,t15,t19,t20,t21]) h c df (Klp [1,2,3,4,8,9,10,11,12,13,14,15,19,20,21])=Z61 o rd t1 t2 t3 t4 t8 t9 t10 t11 t12 t13 t14 t15 t19 t20 t21 h c df:=by kernel_rfl
noncomputable def Z8l (o:Orc H) (rd:Option Nat) (t1 t2 t3 t4 t8 t9 t10 t11 t12 t19 t20 t21:Value) (h:H) (c:Nat) (df:List Nat):Option (Rt H) :=
 (Z00 P .lss 3 t21 t20).bind fun t22 =>
 Z09 t22
 ((ixS 20 t19 t21).bind fun t24 =>
 (ldN h 20 t24).bind fun t25 =>
 (stN (newB h (256*(c+1)+3) [(.int .i64 0),(.int .i64 0),(.int .i64 0),(.int .i64 0),(.int .i64 0),(.int .i64 0),(.int .i64 0),(.int .i64 0),(.int .i64 0),(.int .i64 0),(.int .i64 0),(.int .i64 0),(.int .i64 0),(.int .i64 0),(.int .i64 0),(.int .i64 0),(.int .i64 0),(.int .i64 0),(.int .i64 0),(.int .i64 0)]) 20 (ptrTo (256*(c+1)+3)) t25).bind fun h1 =>
 (o (Zbt rd) [t1,t2,t3,t4,t8,t9,t10,t11,t12,t21,(ptrTo (256*(c+1)+3)),(.int .i64 0),t19,t20,t21] h1 (c+1+1+1) df).bind fun r2 =>
 cond (Z0r r2.e (.exit 2))
  ((Z00 P .add 3 (r2.v 14) (.int .i64 1)).bind fun t71 =>
  some ⟨.normal,[r2.v 0,r2.v 1,r2.v 2,r2.v 3,r2.v 4,r2.v 5,r2.v 6,r2.v 7,r2.v 8,r2.v 12,r2.v 13,t71],r2.h,(r2.c+1),r2.df⟩)
  (none))
 (some ⟨(.exit 0),[t1,t2,t3,t4,t8,t9,t10,t11,t12,t19,t20,t21],h,(c+1),df⟩)
theorem Z77 (o:Orc H) (rd:Option Nat) (t1 t2 t3 t4 t8 t9 t10 t11 t12 t19 t20 t21:Value) (h:H) (c:Nat) (df:List Nat):jx P o 98 rd Z8k (Z0h [1,2,3,4,8,9,10,11,12,19,20,21] [t1,t2,t3,t4,t8,t9,t10,t11,t12,t19,t20,t21]) h c df (Klp [1,2,3,4,8,9,10,11,12,19,20,21])=Z8l o rd t1 t2 t3 t4 t8 t9 t10 t11 t12 t19 t20 t21 h c df:=by kernel_rfl
noncomputable def ZpM (o:Orc H) (t0 t1 t2 t3:Value) (h:H) (c:Nat):Option (Rt H) :=
 (bif (t0:Value).cells.toList.all Z08 then
 (Z1K [(.int .i64 0),(.int .i64 0),(.int .i64 0),(.int .i64 0),(.bool false),(.bool false)] [(4,1,(.bool true)),(5,1,(.bool true))]).bind fun t17 =>
 (stN (newB (newB (newB h (256*c+0) (t0:Value).cells.toList) (256*c+1) [(.int .i64 0),(.int .i64 0),(.int .i64 0),(.int .i64 0),(.bool false),(.bool false)]) (256*(c+1)+1) [(.int .i64 0),(.int .i64 0),(.int .i64 0),(.int .i64 0),(.bool false),(.bool false)]) 6 (ptrTo (256*(c+1)+1)) t17).bind fun h1 =>
 (Z03 (ptrTo (256*c+0)) 0).bind fun t18 =>
 (ld1 h1 t18).bind fun t19 =>
 (Z1q t19).bind fun t20 =>
 (o (Zbu none) [t1,t2,t3,(ptrTo (256*c+0)),(ptrTo (256*c+1)),(ptrTo (256*(c+1)+1)),(.int .i64 0),(.int .i64 0),(.slice none 0 0),t19,t20,(.int .i64 0)] h1 (c+1+1+1+1+1) []).bind fun r2 =>
 cond (Z0r r2.e (.exit 0))
 ((Z00 P .quo 3 (r2.v 6) (.int .i64 2)).bind fun t73 =>
 (Z00 P .add 3 t73 (r2.v 7)).bind fun t75 =>
 (Z03 (r2.v 5) 1).bind fun t76 =>
 (stN r2.h 1 t76 t75).bind fun h4 =>
 (Z1q (r2.v 8)).bind fun t78 =>
 (Z03 (r2.v 5) 2).bind fun t79 =>
 (stN h4 1 t79 t78).bind fun h6 =>
 (Z03 (r2.v 5) 2).bind fun t80 =>
 (ld1 h6 t80).bind fun t81 =>
 (Z03 (r2.v 5) 1).bind fun t82 =>
 (ld1 h6 t82).bind fun t83 =>
 (Z00 P .sub 3 t81 t83).bind fun t84 =>
 (Z03 (r2.v 5) 0).bind fun t85 =>
 (ld1 h6 t85).bind fun t86 =>
 (Z00 P .add 3 t84 t86).bind fun t87 =>
 (Z03 (r2.v 5) 3).bind fun t88 =>
 (stN h6 1 t88 t87).bind fun h8 =>
 (Z00 P .eql 3 (r2.v 7) (.int .i64 0)).bind fun t90 =>
 (Z03 (r2.v 5) 4).bind fun t91 =>
 (stN h8 1 t91 t90).bind fun h10 =>
 (ldN h10 1 (r2.v 3)).bind fun t92 =>
 (callF o 89 [t92,r2.v 0,r2.v 2] h10 (r2.c+1+1+1+1+1)).bind fun r11 =>
 (Z03 (r2.v 5) 5).bind fun t96 =>
 (stN r11.2.1 1 t96 r11.1).bind fun h13 =>
 (ldN h13 6 (r2.v 5)).bind fun t97 =>
 (stN h13 6 (r2.v 4) t97).bind fun h15 =>
 (Z0a h15 r2.df).bind fun h16 =>
 (ldN h16 6 (r2.v 4)).bind fun v17 =>
 some ⟨.ret,[v17],h16,(r11.2.2+1),[]⟩)
 (none)
 else none)
theorem Zn8 (o:Orc H) (t0 t1 t2 t3:Value) (h:H) (c:Nat):jx P o 98 none f76_c (Z0h (List.range 4) [t0,t1,t2,t3]) h c [] (Kfn P Try.f76.results.toList)=ZpM o t0 t1 t2 t3 h c:=by kernel_rfl
theorem f76_go {t0 t1 t2 t3:Value} {h:FH} {c:Nat} {df:List Nat} {r:Rt FH} (e:ZpM G t0 t1 t2 t3 h c=some r):G (.fn 76) [t0,t1,t2,t3] h c df=some (gcR h c [] r):=Z0f (a:=Zn7) bk_76 rfl (fun args h c=>by cases args <;> rfl) rfl ((Zn8 G t0 t1 t2 t3 h c).trans e)
noncomputable def Z8g (o:Orc H) (rd:Option Nat) (t3 t9 t10 t11 t15 t16:Value) (h:H) (c:Nat) (df:List Nat):Option (Rt H) :=
 (Z00 P .lss 3 t16 (.int .i64 4)).bind fun t17 =>
 Z09 t17
 ((ixV 4 true 5 t15 t16).bind fun t18 =>
 (stN (newB h (256*(c+1)+1) [(.int .i64 0),(.int .i64 0),(.int .i64 0),(.int .i64 0),(.int .i64 0)]) 5 (ptrTo (256*(c+1)+1)) t18).bind fun h1 =>
 (Z03 (ptrTo (256*(c+1)+1)) 0).bind fun t19 =>
 (ld1 h1 t19).bind fun t20 =>
 (Z00 P .lss 3 t20 (.int .i64 0)).bind fun t21 =>
 (Z09 t21
  ((Z00 P .add 3 t3 (.int .i64 1)).bind fun t23 =>
  some ⟨.normal,[t23,t9,t10,t11,t15,t16],h1,(c+1+1+1+1),df⟩)
  (some ⟨.normal,[t3,t9,t10,t11,t15,t16],h1,(c+1+1+1),df⟩):Option (Rt H)).bind fun r3 =>
 cond (Z0r r3.e .normal)
  ((Z00 P .add 3 (r3.v 5) (.int .i64 1)).bind fun t24 =>
  some ⟨.normal,[r3.v 0,r3.v 1,r3.v 2,r3.v 3,r3.v 4,t24],r3.h,(r3.c+1),r3.df⟩)
  (none))
 (some ⟨(.exit 2),[t3,t9,t10,t11,t15,t16],h,(c+1),df⟩)
theorem Z75 (o:Orc H) (rd:Option Nat) (t3 t9 t10 t11 t15 t16:Value) (h:H) (c:Nat) (df:List Nat):jx P o 27 rd Z8e (Z0h [3,9,10,11,15,16] [t3,t9,t10,t11,t15,t16]) h c df (Klp [3,9,10,11,15,16])=Z8g o rd t3 t9 t10 t11 t15 t16 h c df:=by kernel_rfl
noncomputable def Z8h (o:Orc H) (rd:Option Nat) (t3 t9 t10 t11:Value) (h:H) (c:Nat) (df:List Nat):Option (Rt H) :=
 (Z00 P .lss 3 t11 t10).bind fun t12 =>
 Z09 t12
 ((ixS 20 t9 t11).bind fun t13 =>
 (ldN h 20 t13).bind fun t14 =>
 (stN (newB h (256*(c+1)+2) [(.int .i64 0),(.int .i64 0),(.int .i64 0),(.int .i64 0),(.int .i64 0),(.int .i64 0),(.int .i64 0),(.int .i64 0),(.int .i64 0),(.int .i64 0),(.int .i64 0),(.int .i64 0),(.int .i64 0),(.int .i64 0),(.int .i64 0),(.int .i64 0),(.int .i64 0),(.int .i64 0),(.int .i64 0),(.int .i64 0)]) 20 (ptrTo (256*(c+1)+2)) t14).bind fun h1 =>
 (ldN h1 20 (ptrTo (256*(c+1)+2))).bind fun t15 =>
 (o (Zbq rd) [t3,t9,t10,t11,t15,(.int .i64 0)] h1 (c+1+1+1) df).bind fun r2 =>
 cond (Z0r r2.e (.exit 2))
  ((Z00 P .add 3 (r2.v 3) (.int .i64 1)).bind fun t25 =>
  some ⟨.normal,[r2.v 0,r2.v 1,r2.v 2,t25],r2.h,(r2.c+1),r2.df⟩)
  (none))
 (some ⟨(.exit 0),[t3,t9,t10,t11],h,(c+1),df⟩)
theorem Z76 (o:Orc H) (rd:Option Nat) (t3 t9 t10 t11:Value) (h:H) (c:Nat) (df:List Nat):jx P o 27 rd Z8f (Z0h [3,9,10,11] [t3,t9,t10,t11]) h c df (Klp [3,9,10,11])=Z8h o rd t3 t9 t10 t11 h c df:=by kernel_rfl
noncomputable def ZpL (o:Orc H) (t0:Value) (h:H) (c:Nat):Option (Rt H) :=
 (bif (t0:Value).cells.toList.all Z08 then
 (Z03 (ptrTo (256*c+0)) 0).bind fun t8 =>
 (ld1 (newB h (256*c+0) (t0:Value).cells.toList) t8).bind fun t9 =>
 (Z1q t9).bind fun t10 =>
 (o (Zbr none) [(.int .i64 0),t9,t10,(.int .i64 0)] (newB h (256*c+0) (t0:Value).cells.toList) (c+1+1+1) []).bind fun r0 =>
 cond (Z0r r0.e (.exit 0))
 ((Z0a r0.h r0.df).bind fun h1 =>
 some ⟨.ret,[r0.v 0],h1,(r0.c+1),[]⟩)
 (none)
 else none)
theorem Zn6 (o:Orc H) (t0:Value) (h:H) (c:Nat):jx P o 27 none f77_c (Z0h (List.range 1) [t0]) h c [] (Kfn P Try.f77.results.toList)=ZpL o t0 h c:=by kernel_rfl
theorem f77_go {t0:Value} {h:FH} {c:Nat} {df:List Nat} {r:Rt FH} (e:ZpL G t0 h c=some r):G (.fn 77) [t0] h c df=some (gcR h c [] r):=Z0f (a:=Zn5) bk_77 rfl (fun args h c=>by cases args <;> rfl) rfl ((Zn6 G t0 h c).trans e)
noncomputable def Z8d (o:Orc H) (rd:Option Nat) (t3 t8 t9:Value) (h:H) (c:Nat) (df:List Nat):Option (Rt H) :=
 (Z00 P .lss 3 t9 t8).bind fun t10 =>
 Z09 t10
 ((ixS 1 t3 t9).bind fun t15 =>
 (stN h 1 t15 t9).bind fun h1 =>
 (Z00 P .add 3 t9 (.int .i64 1)).bind fun t16 =>
 some ⟨.normal,[t3,t8,t16],h1,(c+1+1+1+1),df⟩)
 (some ⟨(.exit 0),[t3,t8,t9],h,(c+1),df⟩)
theorem Z73 (o:Orc H) (rd:Option Nat) (t3 t8 t9:Value) (h:H) (c:Nat) (df:List Nat):jx P o 18 rd Z8c (Z0h [3,8,9] [t3,t8,t9]) h c df (Klp [3,8,9])=Z8d o rd t3 t8 t9 h c df:=by kernel_rfl
noncomputable def ZpK (o:Orc H) (t0:Value) (h:H) (c:Nat):Option (Rt H) :=
 (mkS 1 8 [(.int .i64 0)] t0 t0).bind fun r0 =>
 (Z1q (.slice (some ⟨(256*(c+1)+1),0,none⟩) r0.2.1 r0.2.2)).bind fun t8 =>
 (o (Zbp none) [(.slice (some ⟨(256*(c+1)+1),0,none⟩) r0.2.1 r0.2.2),t8,(.int .i64 0)] (newB h (256*(c+1)+1) r0.1) (c+1+1+1) []).bind fun r1 =>
 cond (Z0r r1.e (.exit 0))
 ((Z0a r1.h r1.df).bind fun h2 =>
 some ⟨.ret,[r1.v 0],h2,(r1.c+1),[]⟩)
 (none)
theorem Zn4 (o:Orc H) (t0:Value) (h:H) (c:Nat):jx P o 18 none f80_c (Z0h (List.range 1) [t0]) h c [] (Kfn P Try.f80.results.toList)=ZpK o t0 h c:=by kernel_rfl
theorem f80_go {t0:Value} {h:FH} {c:Nat} {df:List Nat} {r:Rt FH} (e:ZpK G t0 h c=some r):G (.fn 80) [t0] h c df=some r:=Z0f (a:=Zn3) bk_80 rfl (fun args h c=>by cases args <;> rfl) rfl ((Zn4 G t0 h c).trans e)
noncomputable def Zn2 (o:Orc H) (t0 t1 t2:Value) (h:H) (c:Nat):Option (Rt H) :=
 (callF o 87 [t0,t1] h (c+1)).bind fun r0 =>
 (callF o 87 [t0,t2] r0.2.1 (r0.2.2+1)).bind fun r2 =>
 (Z00 P .lss 3 r0.1 r2.1).bind fun t14 =>
 (Z09 t14
  ((ixS 1 t0 r2.1).bind fun t18 =>
  (stN r2.2.1 1 t18 r0.1).bind fun h5 =>
  some ⟨.normal,[],h5,(r2.2.2+1+1),[]⟩)
  ((ixS 1 t0 r0.1).bind fun t22 =>
  (stN r2.2.1 1 t22 r2.1).bind fun h7 =>
  some ⟨.normal,[],h7,(r2.2.2+1+1),[]⟩):Option (Rt H)).bind fun r8 =>
 cond (Z0r r8.e .normal)
 ((Z0a r8.h r8.df).bind fun h9 =>
 some ⟨.ret,[.tuple #[]],h9,r8.c,[]⟩)
 (none)
theorem Zn1 (o:Orc H) (t0 t1 t2:Value) (h:H) (c:Nat):jx P o 23 none f81_c (Z0h (List.range 3) [t0,t1,t2]) h c [] (Kfn P Try.f81.results.toList)=Zn2 o t0 t1 t2 h c:=by kernel_rfl
theorem f81_go {t0 t1 t2:Value} {h:FH} {c:Nat} {df:List Nat} {r:Rt FH} (e:Zn2 G t0 t1 t2 h c=some r):G (.fn 81) [t0,t1,t2] h c df=some (gcR h c [] r):=Z0f (a:=Zn0) bk_81 rfl (fun args h c=>by cases args <;> rfl) rfl ((Zn1 G t0 t1 t2 h c).trans e)
noncomputable def Z8b (o:Orc H) (rd:Option Nat) (t0 t4 t5 t12 t13:Value) (h:H) (c:Nat) (df:List Nat):Option (Rt H) :=
 (Z00 P .lss 3 t13 t12).bind fun t14 =>
 Z09 t14
 ((callF o 87 [t0,t13] h (c+1+1+1)).bind fun r0 =>
 (Z00 P .eql 3 r0.1 t13).bind fun t21 =>
 (Z09 t21
  ((ixS 1 t4 t13).bind fun t25 =>
  (stN r0.2.1 1 t25 t5).bind fun h2 =>
  (Z00 P .add 3 t5 (.int .i64 1)).bind fun t27 =>
  some ⟨.normal,[t0,t4,t27,t12,t13],h2,(r0.2.2+1+1+1),df⟩)
  ((ixS 1 t4 r0.1).bind fun t32 =>
  (ld1 r0.2.1 t32).bind fun t33 =>
  (ixS 1 t4 t13).bind fun t34 =>
  (stN r0.2.1 1 t34 t33).bind fun h5 =>
  some ⟨.normal,[t0,t4,t5,t12,t13],h5,(r0.2.2+1+1),df⟩):Option (Rt H)).bind fun r6 =>
 cond (Z0r r6.e .normal)
  ((Z00 P .add 3 (r6.v 4) (.int .i64 1)).bind fun t35 =>
  some ⟨.normal,[r6.v 0,r6.v 1,r6.v 2,r6.v 3,t35],r6.h,(r6.c+1),r6.df⟩)
  (none))
 (some ⟨(.exit 0),[t0,t4,t5,t12,t13],h,(c+1),df⟩)
theorem Z72 (o:Orc H) (rd:Option Nat) (t0 t4 t5 t12 t13:Value) (h:H) (c:Nat) (df:List Nat):jx P o 38 rd Z8a (Z0h [0,4,5,12,13] [t0,t4,t5,t12,t13]) h c df (Klp [0,4,5,12,13])=Z8b o rd t0 t4 t5 t12 t13 h c df:=by kernel_rfl
noncomputable def ZpJ (o:Orc H) (t0:Value) (h:H) (c:Nat):Option (Rt H) :=
 (Z1q t0).bind fun t9 =>
 (mkS 1 8 [(.int .i64 0)] t9 t9).bind fun r0 =>
 (Z1q t0).bind fun t12 =>
 (o (Zbo none) [t0,(.slice (some ⟨(256*(c+1)+2),0,none⟩) r0.2.1 r0.2.2),(.int .i64 0),t12,(.int .i64 0)] (newB h (256*(c+1)+2) r0.1) (c+1+1+1+1) []).bind fun r1 =>
 cond (Z0r r1.e (.exit 0))
 ((Z0a r1.h r1.df).bind fun h2 =>
 some ⟨.ret,[.tuple #[r1.v 1,r1.v 2]],h2,(r1.c+1),[]⟩)
 (none)
theorem ZmZ (o:Orc H) (t0:Value) (h:H) (c:Nat):jx P o 38 none f82_c (Z0h (List.range 1) [t0]) h c [] (Kfn P Try.f82.results.toList)=ZpJ o t0 h c:=by kernel_rfl
theorem f82_go {t0:Value} {h:FH} {c:Nat} {df:List Nat} {r:Rt FH} (e:ZpJ G t0 h c=some r):G (.fn 82) [t0] h c df=some r:=Z0f (a:=ZmY) bk_82 rfl (fun args h c=>by cases args <;> rfl) rfl ((ZmZ G t0 h c).trans e)
noncomputable def Z89 (o:Orc H) (rd:Option Nat) (t0 t3 t4 t5:Value) (h:H) (c:Nat) (df:List Nat):Option (Rt H) :=
 (ZdZ P h 9 t0).bind fun t9 =>
 (Z00 P .leq 3 t5 t9).bind fun t10 =>
 Z09 t10
 ((ZdZ P h 9 t0).bind fun t15 =>
 (Z00 P .eql 3 t5 t15).bind fun t16 =>
 (gd t16 false h (c+1+1) (some t0)).bind fun r0 =>
 (gd t16 false r0.2.1 r0.2.2 (some t5)).bind fun r1 =>
 (gd t16 false r1.2.1 r1.2.2 (ZhD r0.1 r1.1)).bind fun r2 =>
 (gd t16 false r2.2.1 r2.2.2 (Z00 P .eql 5 r2.1 (.int .u8 32))).bind fun r3 =>
 (Z0C t16 (.bool true) r3.1).bind fun t22 =>
 (Z2g .not t22).bind fun t24 =>
 (gd t24 true r3.2.1 (r3.2.2+1) (some t4)).bind fun r4 =>
 (gd t24 true r4.2.1 r4.2.2 (Z00 P .lss 3 r4.1 (.int .i64 0))).bind fun r5 =>
 (Z0C t24 r5.1 (.bool false)).bind fun t28 =>
 (Z09 t28
  (some ⟨.normal,[t0,t3,t5,t5,t22],r5.2.1,(r5.2.2+1),df⟩)
  (some ⟨.normal,[t0,t3,t4,t5,t22],r5.2.1,r5.2.2,df⟩):Option (Rt H)).bind fun r7 =>
 cond (Z0r r7.e .normal)
  (((gv (r7.v 4) true).bind fun w=>cond w (Z7F r7.h (r7.c+1) (some (r7.v 2))) (some (undef,r7.h,(r7.c+1)))).bind fun r8 =>
  ((gv (r7.v 4) true).bind fun w=>cond w (Z7F r8.2.1 r8.2.2 (Z00 P .geq 3 r8.1 (.int .i64 0))) (some (undef,r8.2.1,r8.2.2))).bind fun r9 =>
  (Z0C (r7.v 4) r9.1 (.bool false)).bind fun t34 =>
  (Z09 t34
   ((slStrV (r7.v 0) (some (r7.v 2)) (some (r7.v 3))).bind fun t39 =>
   (Z9D [(.string (ByteArray.mk #[]))] [(0,1,t39)]).bind fun r10 =>
   (Z5D (newB r9.2.1 (256*r9.2.2+5) r10) (256*r9.2.2+6) 1 16 (r7.v 1) (.slice (some ⟨(256*r9.2.2+5),0,none⟩) 1 1)).bind fun r11 =>
   some ⟨.normal,[r7.v 0,r11.1,(.int .i64 (-1)),r7.v 3],r11.2,(r9.2.2+1+1),r7.df⟩)
   (some ⟨.normal,[r7.v 0,r7.v 1,r7.v 2,r7.v 3],r9.2.1,r9.2.2,r7.df⟩):Option (Rt H)).bind fun r14 =>
  cond (Z0r r14.e .normal)
   ((Z00 P .add 3 (r14.v 3) (.int .i64 1)).bind fun t12 =>
   some ⟨.normal,[r14.v 0,r14.v 1,r14.v 2,t12],r14.h,(r14.c+1),r14.df⟩)
   (none))
  (none))
 (some ⟨(.exit 0),[t0,t3,t4,t5],h,(c+1),df⟩)
theorem ZcW (o:Orc H) (rd:Option Nat) (t0 t3 t4 t5:Value) (h:H) (c:Nat) (df:List Nat):jx P o 43 rd Z3f (Z0h [0,3,4,5] [t0,t3,t4,t5]) h c df (Klp [0,3,4,5])=Z89 o rd t0 t3 t4 t5 h c df:=by kernel_rfl
noncomputable def ZpI (o:Orc H) (t0:Value) (h:H) (c:Nat):Option (Rt H) :=
 (o (ZhO none) [t0,(.slice none 0 0),(.int .i64 (-1)),(.int .i64 0)] h (c+1+1+1+1) []).bind fun r0 =>
 cond (Z0r r0.e (.exit 0))
 ((Z0a r0.h r0.df).bind fun h1 =>
 some ⟨.ret,[r0.v 1],h1,(r0.c+1),[]⟩)
 (none)
theorem ZmX (o:Orc H) (t0:Value) (h:H) (c:Nat):jx P o 43 none f83_c (Z0h (List.range 1) [t0]) h c [] (Kfn P Try.f83.results.toList)=ZpI o t0 h c:=by kernel_rfl

variable {H:Type} [HeapC H]
noncomputable def Z88 (o:Orc H) (rd:Option Nat) (t0 t2 t3 t4 t5:Value) (h:H) (c:Nat) (df:List Nat):Option (Rt H) :=
 (ZdZ P h 9 t0).bind fun t26 =>
 (Z00 P .lss 3 t5 t26).bind fun t27 =>
 Z09 t27
 ((ZhD t0 t5).bind fun t32 =>
 (Z00 P .lss 5 t32 (.int .u8 48)).bind fun t33 =>
 (gd t33 false h (c+1+1) (some t0)).bind fun r0 =>
 (gd t33 false r0.2.1 r0.2.2 (some t5)).bind fun r1 =>
 (gd t33 false r1.2.1 r1.2.2 (ZhD r0.1 r1.1)).bind fun r2 =>
 (gd t33 false r2.2.1 r2.2.2 (Z00 P .gtr 5 r2.1 (.int .u8 57))).bind fun r3 =>
 (Z0C t33 (.bool true) r3.1).bind fun t39 =>
 Z09 t39
  (some ⟨.ret,[t0,(.int .i64 0),(.bool false),t4,t5],r3.2.1,(r3.2.2+1),df⟩)
  ((Z00 P .mul 3 (.int .i64 10) t4).bind fun t41 =>
  (ZhD t0 t5).bind fun t44 =>
  (Z00 P .sub 5 t44 (.int .u8 48)).bind fun t45 =>
  (cnvI .i64 t45).bind fun t46 =>
  (Z00 P .add 3 t41 t46).bind fun t47 =>
  (Z00 P .add 3 t5 (.int .i64 1)).bind fun t29 =>
  some ⟨.normal,[t0,t2,t3,t47,t29],r3.2.1,(r3.2.2+1+1),df⟩))
 (some ⟨(.exit 0),[t0,t2,t3,t4,t5],h,(c+1),df⟩)
theorem ZcV (o:Orc H) (rd:Option Nat) (t0 t2 t3 t4 t5:Value) (h:H) (c:Nat) (df:List Nat):jx P o 51 rd Z3e (Z0h [0,2,3,4,5] [t0,t2,t3,t4,t5]) h c df (Klp [0,2,3,4,5])=Z88 o rd t0 t2 t3 t4 t5 h c df:=by kernel_rfl
noncomputable def ZpH (o:Orc H) (t0:Value) (h:H) (c:Nat):Option (Rt H) :=
 (ZdZ P h 9 t0).bind fun t7 =>
 (Z00 P .lss 3 t7 (.int .i64 1)).bind fun t8 =>
 (gd t8 false h (c+1+1) (some t0)).bind fun r0 =>
 (gg t8 false r0.2.1 r0.2.2 (((ZdZ P r0.2.1 9 r0.1).bind fun v=>some (v,r0.2.1)).bind fun r=>some (r.1,r.2,r0.2.2))).bind fun r1 =>
 (gd t8 false r1.2.1 r1.2.2 (Z00 P .gtr 3 r1.1 (.int .i64 4))).bind fun r2 =>
 (Z0C t8 (.bool true) r2.1).bind fun t13 =>
 (gd t13 false r2.2.1 r2.2.2 (some t0)).bind fun r3 =>
 (gg t13 false r3.2.1 r3.2.2 (((ZdZ P r3.2.1 9 r3.1).bind fun v=>some (v,r3.2.1)).bind fun r=>some (r.1,r.2,r3.2.2))).bind fun r4 =>
 (gd t13 false r4.2.1 r4.2.2 (Z00 P .gtr 3 r4.1 (.int .i64 1))).bind fun r5 =>
 (gd t13 false r5.2.1 r5.2.2 (some r5.1)).bind fun r6 =>
 (gd r6.1 true r6.2.1 r6.2.2 (some t0)).bind fun r7 =>
 (gd r6.1 true r7.2.1 r7.2.2 (ZhD r7.1 (.int .i64 0))).bind fun r8 =>
 (gd r6.1 true r8.2.1 r8.2.2 (Z00 P .eql 5 r8.1 (.int .u8 48))).bind fun r9 =>
 (gg t13 false r9.2.1 r9.2.2 (Zdz r9.2.1 r9.2.2 r6.1 r9.1 (.bool false))).bind fun r10 =>
 (Z0C t13 (.bool true) r10.1).bind fun t23 =>
 Z09 t23
 (some ⟨.ret,[.tuple #[(.int .i64 0),(.bool false)]],r10.2.1,(r10.2.2+1),[]⟩)
 ((o (ZhM none) [t0,(.int .i64 0),(.bool false),(.int .i64 0),(.int .i64 0)] r10.2.1 (r10.2.2+1+1) []).bind fun r11 =>
 cond (Z0r r11.e (.exit 0))
  ((Z00 P .leq 3 (r11.v 3) (.int .i64 1000)).bind fun t50 =>
  (Z0a r11.h r11.df).bind fun h13 =>
  some ⟨.ret,[.tuple #[r11.v 3,t50]],h13,(r11.c+1),[]⟩)
  (cond (Z0r r11.e .ret)
   ((Z0a r11.h r11.df).bind fun h12 =>
   some ⟨.ret,[.tuple #[r11.v 1,r11.v 2]],h12,r11.c,[]⟩)
   (none)))
theorem ZmW (o:Orc H) (t0:Value) (h:H) (c:Nat):jx P o 51 none f84_c (Z0h (List.range 1) [t0]) h c [] (Kfn P Try.f84.results.toList)=ZpH o t0 h c:=by kernel_rfl
noncomputable def Z1X (o:Orc H) (rd:Option Nat) (t0 t1 t3 t8 t9 t16 t17:Value) (h:H) (c:Nat) (df:List Nat):Option (Rt H) :=
 (Z00 P .lss 3 t17 (.int .i64 4)).bind fun t18 =>
 Z09 t18
 ((ixV 4 true 5 t16 t17).bind fun t20 =>
 (stN (newB h (256*(c+1)+2) [(.int .i64 0),(.int .i64 0),(.int .i64 0),(.int .i64 0),(.int .i64 0)]) 5 (ptrTo (256*(c+1)+2)) t20).bind fun h1 =>
 (Z1K [(.int .i64 0),(.int .i64 0)] [(0,1,t3),(1,1,t17)]).bind fun t24 =>
 (ldN h1 5 (ptrTo (256*(c+1)+2))).bind fun t25 =>
 (Z43 o h1 (c+1+1+1) t0 [t24,t25]).bind fun r2 =>
 (Z2g .not r2.1).bind fun t27 =>
 Z09 t27
  (some ⟨.ret,[t0,t1,t3,t8,t9,t16,t17],r2.2.1,r2.2.2,df⟩)
  ((Z00 P .add 3 t17 (.int .i64 1)).bind fun t28 =>
  some ⟨.normal,[t0,t1,t3,t8,t9,t16,t28],r2.2.1,(r2.2.2+1),df⟩))
 (some ⟨(.exit 2),[t0,t1,t3,t8,t9,t16,t17],h,(c+1),df⟩)
theorem Z53 (o:Orc H) (rd:Option Nat) (t0 t1 t3 t8 t9 t16 t17:Value) (h:H) (c:Nat) (df:List Nat):jx P o 30 rd Z3c (Z0h [0,1,3,8,9,16,17] [t0,t1,t3,t8,t9,t16,t17]) h c df (Klp [0,1,3,8,9,16,17])=Z1X o rd t0 t1 t3 t8 t9 t16 t17 h c df:=by kernel_rfl
noncomputable def Z1Y (o:Orc H) (rd:Option Nat) (t0 t1 t8 t9:Value) (h:H) (c:Nat) (df:List Nat):Option (Rt H) :=
 (Z00 P .lss 3 t9 t8).bind fun t10 =>
 Z09 t10
 ((Z03 t1 0).bind fun t12 =>
 (ld1 h t12).bind fun t13 =>
 (ixS 20 t13 t9).bind fun t15 =>
 (ldN h 20 t15).bind fun t16 =>
 (o (Z4m rd) [t0,t1,t9,t8,t9,t16,(.int .i64 0)] h (c+1+1+1) df).bind fun r0 =>
 cond (Z0r r0.e (.exit 2))
  ((Z00 P .add 3 (r0.v 4) (.int .i64 1)).bind fun t29 =>
  some ⟨.normal,[r0.v 0,r0.v 1,r0.v 3,t29],r0.h,(r0.c+1),r0.df⟩)
  (cond (Z0r r0.e .ret)
   (some ⟨.ret,[r0.v 0,r0.v 1,r0.v 3,r0.v 4],r0.h,r0.c,r0.df⟩)
   (none)))
 (some ⟨(.exit 0),[t0,t1,t8,t9],h,(c+1),df⟩)
theorem Z54 (o:Orc H) (rd:Option Nat) (t0 t1 t8 t9:Value) (h:H) (c:Nat) (df:List Nat):jx P o 30 rd Z3d (Z0h [0,1,8,9] [t0,t1,t8,t9]) h c df (Klp [0,1,8,9])=Z1Y o rd t0 t1 t8 t9 h c df:=by kernel_rfl
noncomputable def ZhJ (o:Orc H) (t0 t1:Value) (h:H) (c:Nat):Option (Rt H) :=
 (Z03 t1 0).bind fun t6 =>
 (ld1 h t6).bind fun t7 =>
 (Z1q t7).bind fun t8 =>
 (o (Z4n none) [t0,t1,t8,(.int .i64 0)] h (c+1) []).bind fun r0 =>
 cond (Z0r r0.e (.exit 0))
 ((Z0a r0.h r0.df).bind fun h2 =>
 some ⟨.ret,[.tuple #[]],h2,r0.c,[]⟩)
 (cond (Z0r r0.e .ret)
  ((Z0a r0.h r0.df).bind fun h1 =>
  some ⟨.ret,[.tuple #[]],h1,r0.c,[]⟩)
  (none))
theorem Zgv (o:Orc H) (t0 t1:Value) (h:H) (c:Nat):jx P o 30 none f85_c (Z0h (List.range 2) [t0,t1]) h c [] (Kfn P Try.f85.results.toList)=ZhJ o t0 t1 h c:=by kernel_rfl
theorem Zot {t0 t1:Value} {h:FH} {c:Nat} {df:List Nat} {r:Rt FH} (e:ZhJ G t0 t1 h c=some r):G (.fn 85) [t0,t1] h c df=some r:=Z0f (a:=ZeA) bk_85 rfl (fun args h c=>by cases args <;> rfl) rfl ((Zgv G t0 t1 h c).trans e)
theorem ZhK {rd:Option Nat} {t0 t1 t3 t8 t9 t16 t17:Value} {h:FH} {c:Nat} {df:List Nat} {q r:Rt FH} (e:Z1X G rd t0 t1 t3 t8 t9 t16 t17 h c df=some q) (hq:q.e = .normal) (k:G (Z4m rd) q.vs q.h q.c q.df=some r):G (Z4m rd) [t0,t1,t3,t8,t9,t16,t17] h c df=some r:=Z0U ((Z53 G rd t0 t1 t3 t8 t9 t16 t17 h c df).trans e) hq k
theorem Zbm {rd:Option Nat} {t0 t1 t3 t8 t9 t16 t17:Value} {h:FH} {c:Nat} {df:List Nat} {q:Rt FH} (e:Z1X G rd t0 t1 t3 t8 t9 t16 t17 h c df=some q) (hq:q.e ≠ .normal):G (Z4m rd) [t0,t1,t3,t8,t9,t16,t17] h c df=some q:=Z0V ((Z53 G rd t0 t1 t3 t8 t9 t16 t17 h c df).trans e) hq
theorem ZhL {rd:Option Nat} {t0 t1 t8 t9:Value} {h:FH} {c:Nat} {df:List Nat} {q r:Rt FH} (e:Z1Y G rd t0 t1 t8 t9 h c df=some q) (hq:q.e = .normal) (k:G (Z4n rd) q.vs q.h q.c q.df=some r):G (Z4n rd) [t0,t1,t8,t9] h c df=some r:=Z0U ((Z54 G rd t0 t1 t8 t9 h c df).trans e) hq k
theorem Zbn {rd:Option Nat} {t0 t1 t8 t9:Value} {h:FH} {c:Nat} {df:List Nat} {q:Rt FH} (e:Z1Y G rd t0 t1 t8 t9 h c df=some q) (hq:q.e ≠ .normal):G (Z4n rd) [t0,t1,t8,t9] h c df=some q:=Z0V ((Z54 G rd t0 t1 t8 t9 h c df).trans e) hq
noncomputable def Z1W (o:Orc H) (rd:Option Nat) (t0 t2 t3 t5 t6 t7 t18 t19 t50 t51:Value) (h:H) (c:Nat) (df:List Nat):Option (Rt H) :=
 (Z00 P .lss 3 t51 (.int .i64 4)).bind fun t52 =>
 Z09 t52
 (((ixV 4 false 1 t50 t51).bind fun t54 =>
  (Z00 P .lss 3 t54 (.int .i64 0)).bind fun t56 =>
  Z09 t56
   (some ⟨.normal,[t0,t2,t3,t5,t6,t7,t18,t19,t50,t51],h,(c+1+1+1),df⟩)
   ((ixS 1 t5 t6).bind fun t60 =>
   (ld1 h t60).bind fun t61 =>
   (ixS 1 t3 t61).bind fun t62 =>
   (ld1 h t62).bind fun t63 =>
   (Z2g .neg t63).bind fun t64 =>
   (Z0e t0).bind fun t66 =>
   (Z03 t66 0).bind fun t67 =>
   (Z03 t67 0).bind fun t68 =>
   (ld1 h t68).bind fun t69 =>
   (ixA 2 1 t7 (.int .i64 0)).bind fun t70 =>
   (ld1 h t70).bind fun t71 =>
   (ixS 20 t69 t71).bind fun t73 =>
   (ixA 4 5 t73 t51).bind fun t74 =>
   (Z03 t74 1).bind fun t75 =>
   (ldN h 4 t75).bind fun t76 =>
   (callF o 91 [t76] h (c+1+1+1+1)).bind fun r0 =>
   (Z00 P .mul 3 t64 r0.1).bind fun t78 =>
   (bif (Z1y (Z2O t60) h r0.2.1 && (Z1y (Z2O t62) h r0.2.1 && true)) then
   (ixS 1 t3 t54).bind fun t81 =>
   (ld1 r0.2.1 t81).bind fun t82 =>
   (Z00 P .eql 3 t82 (.int .i64 0)).bind fun t83 =>
   (Z09 t83
    ((ixS 1 t3 t54).bind fun t87 =>
    (stN r0.2.1 1 t87 t78).bind fun h2 =>
    (Z9D [(.int .i64 0)] [(0,1,t54)]).bind fun r3 =>
    (Z5D (newB h2 (256*(r0.2.2+1+1)+2) r3) (256*(r0.2.2+1+1)+3) 1 8 t5 (.slice (some ⟨(256*(r0.2.2+1+1)+2),0,none⟩) 1 1)).bind fun r4 =>
    some ⟨.normal,[t0,t2,t3,r4.1,t6,t7,t18,t19,t50,t51],r4.2,(r0.2.2+1+1+1),df⟩)
    ((ixS 1 t3 t54).bind fun t94 =>
    (ld1 r0.2.1 t94).bind fun t95 =>
    (Z00 P .neq 3 t95 t78).bind fun t97 =>
    Z09 t97
     (some ⟨.ret,[t0,(.bool false),t3,t5,t6,t7,t18,t19,t50,t51],r0.2.1,(r0.2.2+1+1+1),df⟩)
     (some ⟨.normal,[t0,t2,t3,t5,t6,t7,t18,t19,t50,t51],r0.2.1,(r0.2.2+1+1),df⟩)):Option (Rt H)).bind fun r7 =>
   cond (Z0r r7.e .normal)
    (some ⟨.normal,[r7.v 0,r7.v 1,r7.v 2,r7.v 3,r7.v 4,r7.v 5,r7.v 6,r7.v 7,r7.v 8,r7.v 9],r7.h,r7.c,r7.df⟩)
    (cond (Z0r r7.e .ret)
     (some ⟨.ret,[r7.v 0,r7.v 1,r7.v 2,r7.v 3,r7.v 4,r7.v 5,r7.v 6,r7.v 7,r7.v 8,r7.v 9],r7.h,r7.c,r7.df⟩)
     (none))
   else none)):Option (Rt H)).bind fun r8 =>
 cond (Z0r r8.e .normal)
  ((Z00 P .add 3 (r8.v 9) (.int .i64 1)).bind fun t98 =>
  some ⟨.normal,[r8.v 0,r8.v 1,r8.v 2,r8.v 3,r8.v 4,r8.v 5,r8.v 6,r8.v 7,r8.v 8,t98],r8.h,(r8.c+1),r8.df⟩)
  (cond (Z0r r8.e .ret)
   (some ⟨.ret,[r8.v 0,r8.v 1,r8.v 2,r8.v 3,r8.v 4,r8.v 5,r8.v 6,r8.v 7,r8.v 8,r8.v 9],r8.h,r8.c,r8.df⟩)
   (none)))
 (some ⟨(.exit 4),[t0,t2,t3,t5,t6,t7,t18,t19,t50,t51],h,(c+1),df⟩)
theorem Z1A (o:Orc H) (rd:Option Nat) (t0 t2 t3 t5 t6 t7 t18 t19 t50 t51:Value) (h:H) (c:Nat) (df:List Nat):jx P o 100 rd Z38 (Z0h [0,2,3,5,6,7,18,19,50,51] [t0,t2,t3,t5,t6,t7,t18,t19,t50,t51]) h c df (Klp [0,2,3,5,6,7,18,19,50,51])=Z1W o rd t0 t2 t3 t5 t6 t7 t18 t19 t50 t51 h c df:=by kernel_rfl
noncomputable def Z3b (o:Orc H) (rd:Option Nat) (t0 t2 t3 t5 t6 t18 t19:Value) (h:H) (c:Nat) (df:List Nat):Option (Rt H) :=
 (Z1q t5).bind fun t34 =>
 (Z00 P .lss 3 t6 t34).bind fun t35 =>
 Z09 t35
 ((Z0e t0).bind fun t39 =>
 (Z03 t39 1).bind fun t40 =>
 (ld1 h t40).bind fun t41 =>
 (ixS 1 t5 t6).bind fun t44 =>
 (ld1 h t44).bind fun t45 =>
 (ixS 2 t41 t45).bind fun t46 =>
 (ldN h 2 t46).bind fun t47 =>
 (stN (newB h (256*(c+1)+10) [(.int .i64 0),(.int .i64 0)]) 2 (ptrTo (256*(c+1)+10)) t47).bind fun h1 =>
 (ldN h1 2 (ptrTo (256*(c+1)+10))).bind fun t49 =>
 (callF o 61 [t0,t49] h1 (c+1+1+1)).bind fun r2 =>
 (o (Zbj rd) [t0,t2,t3,t5,t6,(ptrTo (256*(c+1)+10)),t18,t19,r2.1,(.int .i64 0)] r2.2.1 r2.2.2 df).bind fun r3 =>
 cond (Z0r r3.e (.exit 4))
  ((Z00 P .add 3 (r3.v 4) (.int .i64 1)).bind fun t37 =>
  some ⟨.normal,[r3.v 0,r3.v 1,r3.v 2,r3.v 3,t37,r3.v 6,r3.v 7],r3.h,(r3.c+1),r3.df⟩)
  (cond (Z0r r3.e .ret)
   (some ⟨.ret,[r3.v 0,r3.v 1,r3.v 2,r3.v 3,r3.v 4,r3.v 6,r3.v 7],r3.h,r3.c,r3.df⟩)
   (none)))
 (some ⟨(.exit 2),[t0,t2,t3,t5,t6,t18,t19],h,(c+1),df⟩)
theorem Z2R (o:Orc H) (rd:Option Nat) (t0 t2 t3 t5 t6 t18 t19:Value) (h:H) (c:Nat) (df:List Nat):jx P o 100 rd Z39 (Z0h [0,2,3,5,6,18,19] [t0,t2,t3,t5,t6,t18,t19]) h c df (Klp [0,2,3,5,6,18,19])=Z3b o rd t0 t2 t3 t5 t6 t18 t19 h c df:=by kernel_rfl
noncomputable def Z2q (o:Orc H) (rd:Option Nat) (t0 t2 t3 t18 t19:Value) (h:H) (c:Nat) (df:List Nat):Option (Rt H) :=
 (Z00 P .lss 3 t19 t18).bind fun t20 =>
 Z09 t20
 (((ixS 1 t3 t19).bind fun t24 =>
  (ld1 h t24).bind fun t25 =>
  (Z00 P .neq 3 t25 (.int .i64 0)).bind fun t26 =>
  Z09 t26
   (some ⟨.normal,[t0,t2,t3,t18,t19],h,(c+1+1+1),df⟩)
   ((ixS 1 t3 t19).bind fun t29 =>
   (stN h 1 t29 (.int .i64 1)).bind fun h1 =>
   (Z9D [(.int .i64 0)] [(0,1,t19)]).bind fun r2 =>
   (o (Zbk rd) [t0,t2,t3,(.slice (some ⟨(256*(c+1+1+1+1)+1),0,none⟩) 1 1),(.int .i64 0),t18,t19] (newB h1 (256*(c+1+1+1+1)+1) r2) (c+1+1+1+1+1+1) df).bind fun r3 =>
   cond (Z0r r3.e (.exit 2))
    (some ⟨.normal,[r3.v 0,r3.v 1,r3.v 2,r3.v 5,r3.v 6],r3.h,r3.c,r3.df⟩)
    (cond (Z0r r3.e .ret)
     (some ⟨.ret,[r3.v 0,r3.v 1,r3.v 2,r3.v 5,r3.v 6],r3.h,r3.c,r3.df⟩)
     (none))):Option (Rt H)).bind fun r4 =>
 cond (Z0r r4.e .normal)
  ((Z00 P .add 3 (r4.v 4) (.int .i64 1)).bind fun t99 =>
  some ⟨.normal,[r4.v 0,r4.v 1,r4.v 2,r4.v 3,t99],r4.h,(r4.c+1),r4.df⟩)
  (cond (Z0r r4.e .ret)
   (some ⟨.ret,[r4.v 0,r4.v 1,r4.v 2,r4.v 3,r4.v 4],r4.h,r4.c,r4.df⟩)
   (none)))
 (some ⟨(.exit 0),[t0,t2,t3,t18,t19],h,(c+1),df⟩)
theorem Z27 (o:Orc H) (rd:Option Nat) (t0 t2 t3 t18 t19:Value) (h:H) (c:Nat) (df:List Nat):jx P o 100 rd Z3a (Z0h [0,2,3,18,19] [t0,t2,t3,t18,t19]) h c df (Klp [0,2,3,18,19])=Z2q o rd t0 t2 t3 t18 t19 h c df:=by kernel_rfl
noncomputable def ZjB (o:Orc H) (t0:Value) (h:H) (c:Nat):Option (Rt H) :=
 (Z0e t0).bind fun t12 =>
 (Z03 t12 1).bind fun t13 =>
 (ld1 h t13).bind fun t14 =>
 (Z1q t14).bind fun t15 =>
 (mkS 1 8 [(.int .i64 0)] t15 t15).bind fun r0 =>
 (Z1q (.slice (some ⟨(256*(c+1)+5),0,none⟩) r0.2.1 r0.2.2)).bind fun t18 =>
 (o (Zbl none) [t0,(.bool false),(.slice (some ⟨(256*(c+1)+5),0,none⟩) r0.2.1 r0.2.2),t18,(.int .i64 0)] (newB h (256*(c+1)+5) r0.1) (c+1+1+1) []).bind fun r1 =>
 cond (Z0r r1.e (.exit 0))
 ((Z0a r1.h r1.df).bind fun h3 =>
 some ⟨.ret,[(.bool true)],h3,(r1.c+1),[]⟩)
 (cond (Z0r r1.e .ret)
  ((Z0a r1.h r1.df).bind fun h2 =>
  some ⟨.ret,[r1.v 1],h2,r1.c,[]⟩)
  (none))
theorem Zgu (o:Orc H) (t0:Value) (h:H) (c:Nat):jx P o 100 none f86_c (Z0h (List.range 1) [t0]) h c [] (Kfn P Try.f86.results.toList)=ZjB o t0 h c:=by kernel_rfl
theorem f86_go {t0:Value} {h:FH} {c:Nat} {df:List Nat} {r:Rt FH} (e:ZjB G t0 h c=some r):G (.fn 86) [t0] h c df=some (gcR h c [] r):=Z0f (a:=Zez) bk_86 rfl (fun args h c=>by cases args <;> rfl) rfl ((Zgu G t0 h c).trans e)
noncomputable def Zbi (o:Orc H) (rd:Option Nat) (t0 t1:Value) (h:H) (c:Nat) (df:List Nat):Option (Rt H) :=
 (ixS 1 t0 t1).bind fun t7 =>
 (ld1 h t7).bind fun t8 =>
 (Z00 P .neq 3 t8 t1).bind fun t10 =>
 Z09 t10
 ((ixS 1 t0 t1).bind fun t13 =>
 (ld1 h t13).bind fun t14 =>
 some ⟨.normal,[t0,t14],h,(c+1+1),df⟩)
 (some ⟨(.exit 0),[t0,t1],h,(c+1),df⟩)
theorem ZcU (o:Orc H) (rd:Option Nat) (t0 t1:Value) (h:H) (c:Nat) (df:List Nat):jx P o 16 rd Z87 (Z0h [0,1] [t0,t1]) h c df (Klp [0,1])=Zbi o rd t0 t1 h c df:=by kernel_rfl
noncomputable def ZpG (o:Orc H) (t0 t1:Value) (h:H) (c:Nat):Option (Rt H) :=
 (o (Zbh none) [t0,t1] h (c+1) []).bind fun r0 =>
 cond (Z0r r0.e (.exit 0))
 ((Z0a r0.h r0.df).bind fun h1 =>
 some ⟨.ret,[r0.v 1],h1,(r0.c+1),[]⟩)
 (none)
theorem ZmV (o:Orc H) (t0 t1:Value) (h:H) (c:Nat):jx P o 16 none f87_c (Z0h (List.range 2) [t0,t1]) h c [] (Kfn P Try.f87.results.toList)=ZpG o t0 t1 h c:=by kernel_rfl
theorem f87_go {t0 t1:Value} {h:FH} {c:Nat} {df:List Nat} {r:Rt FH} (e:ZpG G t0 t1 h c=some r):G (.fn 87) [t0,t1] h c df=some (gcR h c [] r):=Z0f (a:=ZmU) bk_87 rfl (fun args h c=>by cases args <;> rfl) rfl ((ZmV G t0 t1 h c).trans e)
noncomputable def Z60 (o:Orc H) (rd:Option Nat) (t0 t1 t4 t7 t8 t9:Value) (h:H) (c:Nat) (df:List Nat):Option (Rt H) :=
 (Z00 P .lss 3 t9 t8).bind fun t10 =>
 Z09 t10
 ((ixS 1 t7 t9).bind fun t11 =>
 (ld1 h t11).bind fun t12 =>
 (Z00 P .eql 3 t12 t1).bind fun t15 =>
 Z09 t15
  (some ⟨.ret,[t0,t1,t0,t7,t8,t9],h,(c+1+1+1+1),df⟩)
  ((Z00 P .add 3 t9 (.int .i64 1)).bind fun t17 =>
  some ⟨.normal,[t0,t1,t4,t7,t8,t17],h,(c+1+1+1+1),df⟩))
 (some ⟨(.exit 0),[t0,t1,t4,t7,t8,t9],h,(c+1),df⟩)
theorem Z52 (o:Orc H) (rd:Option Nat) (t0 t1 t4 t7 t8 t9:Value) (h:H) (c:Nat) (df:List Nat):jx P o 22 rd Z86 (Z0h [0,1,4,7,8,9] [t0,t1,t4,t7,t8,t9]) h c df (Klp [0,1,4,7,8,9])=Z60 o rd t0 t1 t4 t7 t8 t9 h c df:=by kernel_rfl
noncomputable def ZpF (o:Orc H) (t0 t1:Value) (h:H) (c:Nat):Option (Rt H) :=
 (Z1q t0).bind fun t8 =>
 (o (Zbg none) [t0,t1,(.slice none 0 0),t0,t8,(.int .i64 0)] h (c+1+1) []).bind fun r0 =>
 cond (Z0r r0.e (.exit 0))
 ((Z9D [(.int .i64 0)] [(0,1,(r0.v 1))]).bind fun r2 =>
 (Z5D (newB r0.h (256*r0.c+2) r2) (256*r0.c+3) 1 8 (r0.v 0) (.slice (some ⟨(256*r0.c+2),0,none⟩) 1 1)).bind fun r3 =>
 (Z0a r3.2 r0.df).bind fun h4 =>
 some ⟨.ret,[r3.1],h4,(r0.c+1),[]⟩)
 (cond (Z0r r0.e .ret)
  ((Z0a r0.h r0.df).bind fun h1 =>
  some ⟨.ret,[r0.v 2],h1,r0.c,[]⟩)
  (none))
theorem ZmT (o:Orc H) (t0 t1:Value) (h:H) (c:Nat):jx P o 22 none f88_c (Z0h (List.range 2) [t0,t1]) h c [] (Kfn P Try.f88.results.toList)=ZpF o t0 t1 h c:=by kernel_rfl
theorem f88_go {t0 t1:Value} {h:FH} {c:Nat} {df:List Nat} {r:Rt FH} (e:ZpF G t0 t1 h c=some r):G (.fn 88) [t0,t1] h c df=some r:=Z0f (a:=ZmS) bk_88 rfl (fun args h c=>by cases args <;> rfl) rfl ((ZmT G t0 t1 h c).trans e)

variable {H:Type} [HeapC H]
noncomputable def Z83 (o:Orc H) (rd:Option Nat) (t1 t2 t3 t6 t7 t8 t9 t10 t12 t13 t14 t23 t24 t25 t34 t35:Value) (h:H) (c:Nat) (df:List Nat):Option (Rt H) :=
 (Z00 P .lss 3 t14 (.int .i64 2)).bind fun t63 =>
 Z09 t63
 ((Z00 P .mul 3 (.int .i64 8) t8).bind fun t68 =>
 (Z00 P .mul 3 (.int .i64 2) t10).bind fun t70 =>
 (Z00 P .add 3 t68 t70).bind fun t71 =>
 (Z00 P .add 3 t71 t14).bind fun t73 =>
 (Z03 t12 0).bind fun t74 =>
 (ld1 h t74).bind fun t75 =>
 (Z00 P .mul 3 (.int .i64 8) t75).bind fun t76 =>
 (Z03 t12 1).bind fun t78 =>
 (ixA 4 1 t78 t10).bind fun t79 =>
 (ld1 h t79).bind fun t80 =>
 (Z00 P .mul 3 (.int .i64 2) t80).bind fun t81 =>
 (Z00 P .add 3 t76 t81).bind fun t82 =>
 (Z00 P .add 3 t14 t13).bind fun t85 =>
 (Z00 P .rem 3 t85 (.int .i64 2)).bind fun t86 =>
 (Z00 P .add 3 t82 t86).bind fun t87 =>
 (callF o 81 [t7,t73,t87] h (c+1+1)).bind fun r0 =>
 (Z00 P .add 3 t14 (.int .i64 1)).bind fun t65 =>
 some ⟨.normal,[t1,t2,t3,t6,t7,t8,t9,t10,t12,t13,t65,t23,t24,t25,t34,t35],r0.2.1,(r0.2.2+1),df⟩)
 (some ⟨(.exit 6),[t1,t2,t3,t6,t7,t8,t9,t10,t12,t13,t14,t23,t24,t25,t34,t35],h,(c+1),df⟩)
theorem Z6X (o:Orc H) (rd:Option Nat) (t1 t2 t3 t6 t7 t8 t9 t10 t12 t13 t14 t23 t24 t25 t34 t35:Value) (h:H) (c:Nat) (df:List Nat):jx P o 118 rd Z7Y (Z0h [1,2,3,6,7,8,9,10,12,13,14,23,24,25,34,35] [t1,t2,t3,t6,t7,t8,t9,t10,t12,t13,t14,t23,t24,t25,t34,t35]) h c df (Klp [1,2,3,6,7,8,9,10,12,13,14,23,24,25,34,35])=Z83 o rd t1 t2 t3 t6 t7 t8 t9 t10 t12 t13 t14 t23 t24 t25 t34 t35 h c df:=by kernel_rfl
noncomputable def Z4l (o:Orc H) (rd:Option Nat) (t1 t2 t3 t6 t7 t8 t9 t10 t23 t24 t25 t34 t35:Value) (h:H) (c:Nat) (df:List Nat):Option (Rt H) :=
 (Z00 P .lss 3 t35 (.int .i64 4)).bind fun t36 =>
 Z09 t36
 (((ixV 4 true 5 t34 t35).bind fun t38 =>
  (stN (newB h (256*(c+1)+2) [(.int .i64 0),(.int .i64 0),(.int .i64 0),(.int .i64 0),(.int .i64 0)]) 5 (ptrTo (256*(c+1)+2)) t38).bind fun h1 =>
  (Z00 P .eql 3 t35 t10).bind fun t41 =>
  (gd t41 false h1 (c+1+1+1) (Z03 (ptrTo (256*(c+1)+2)) 0)).bind fun r2 =>
  (gd t41 false r2.2.1 r2.2.2 (ld1 r2.2.1 r2.1)).bind fun r3 =>
  (gd t41 false r3.2.1 r3.2.2 (Z00 P .lss 3 r3.1 (.int .i64 0))).bind fun r4 =>
  (Z0C t41 (.bool true) r4.1).bind fun t46 =>
  (gd t46 false r4.2.1 r4.2.2 (some t1)).bind fun r5 =>
  (gd t46 false r5.2.1 r5.2.2 (some t8)).bind fun r6 =>
  (gd t46 false r6.2.1 r6.2.2 (Z00 P .mul 3 (.int .i64 4) r6.1)).bind fun r7 =>
  (gd t46 false r7.2.1 r7.2.2 (some t10)).bind fun r8 =>
  (gd t46 false r8.2.1 r8.2.2 (Z00 P .add 3 r7.1 r8.1)).bind fun r9 =>
  (gd t46 false r9.2.1 r9.2.2 (ixS 1 r5.1 r9.1)).bind fun r10 =>
  (gd t46 false r10.2.1 r10.2.2 (ld1 r10.2.1 r10.1)).bind fun r11 =>
  (gd t46 false r11.2.1 r11.2.2 (some t2)).bind fun r12 =>
  (gd t46 false r12.2.1 r12.2.2 (Z00 P .neq 3 r11.1 r12.1)).bind fun r13 =>
  (Z0C t46 (.bool true) r13.1).bind fun t57 =>
  Z09 t57
   (some ⟨.normal,[t1,t2,t3,t6,t7,t8,t9,t10,t23,t24,t25,t34,t35],r13.2.1,r13.2.2,df⟩)
   ((Z03 (ptrTo (256*(c+1)+2)) 1).bind fun t58 =>
   (ldN r13.2.1 4 t58).bind fun t59 =>
   (callF o 49 [t59] r13.2.1 (r13.2.2+1+1)).bind fun r14 =>
   (Z00 P .eql 3 r14.1 (.int .i64 1)).bind fun t61 =>
   (Z09 t61
    (some ⟨.normal,[t1,t2,t3,t6,t7,t8,t9,t10,(ptrTo (256*(c+1)+2)),(.int .i64 1),t23,t24,t25,t34,t35],r14.2.1,(r14.2.2+1),df⟩)
    (some ⟨.normal,[t1,t2,t3,t6,t7,t8,t9,t10,(ptrTo (256*(c+1)+2)),(.int .i64 0),t23,t24,t25,t34,t35],r14.2.1,r14.2.2,df⟩):Option (Rt H)).bind fun r15 =>
   cond (Z0r r15.e .normal)
    ((o (Z7V rd) [r15.v 0,r15.v 1,r15.v 2,r15.v 3,r15.v 4,r15.v 5,r15.v 6,r15.v 7,r15.v 8,r15.v 9,(.int .i64 0),r15.v 10,r15.v 11,r15.v 12,r15.v 13,r15.v 14] r15.h (r15.c+1) r15.df).bind fun r16 =>
    cond (Z0r r16.e (.exit 6))
     (some ⟨.normal,[r16.v 0,r16.v 1,r16.v 2,r16.v 3,r16.v 4,r16.v 5,r16.v 6,r16.v 7,r16.v 11,r16.v 12,r16.v 13,r16.v 14,r16.v 15],r16.h,r16.c,r16.df⟩)
     (none))
    (none)):Option (Rt H)).bind fun r17 =>
 cond (Z0r r17.e .normal)
  ((Z00 P .add 3 (r17.v 12) (.int .i64 1)).bind fun t89 =>
  some ⟨.normal,[r17.v 0,r17.v 1,r17.v 2,r17.v 3,r17.v 4,r17.v 5,r17.v 6,r17.v 7,r17.v 8,r17.v 9,r17.v 10,r17.v 11,t89],r17.h,(r17.c+1),r17.df⟩)
  (none))
 (some ⟨(.exit 4),[t1,t2,t3,t6,t7,t8,t9,t10,t23,t24,t25,t34,t35],h,(c+1),df⟩)
theorem Z2Q (o:Orc H) (rd:Option Nat) (t1 t2 t3 t6 t7 t8 t9 t10 t23 t24 t25 t34 t35:Value) (h:H) (c:Nat) (df:List Nat):jx P o 118 rd Z7Z (Z0h [1,2,3,6,7,8,9,10,23,24,25,34,35] [t1,t2,t3,t6,t7,t8,t9,t10,t23,t24,t25,t34,t35]) h c df (Klp [1,2,3,6,7,8,9,10,23,24,25,34,35])=Z4l o rd t1 t2 t3 t6 t7 t8 t9 t10 t23 t24 t25 t34 t35 h c df:=by kernel_rfl
noncomputable def Z84 (o:Orc H) (rd:Option Nat) (t1 t2 t3 t6 t7 t8 t9 t10 t23 t24 t25:Value) (h:H) (c:Nat) (df:List Nat):Option (Rt H) :=
 (Z00 P .lss 3 t10 (.int .i64 4)).bind fun t31 =>
 Z09 t31
 ((ldN h 20 t9).bind fun t34 =>
 (o (Zbd rd) [t1,t2,t3,t6,t7,t8,t9,t10,t23,t24,t25,t34,(.int .i64 0)] h (c+1+1) df).bind fun r0 =>
 cond (Z0r r0.e (.exit 4))
  ((Z00 P .add 3 (r0.v 7) (.int .i64 1)).bind fun t33 =>
  some ⟨.normal,[r0.v 0,r0.v 1,r0.v 2,r0.v 3,r0.v 4,r0.v 5,r0.v 6,t33,r0.v 8,r0.v 9,r0.v 10],r0.h,(r0.c+1),r0.df⟩)
  (none))
 (some ⟨(.exit 2),[t1,t2,t3,t6,t7,t8,t9,t10,t23,t24,t25],h,(c+1),df⟩)
theorem Z6Y (o:Orc H) (rd:Option Nat) (t1 t2 t3 t6 t7 t8 t9 t10 t23 t24 t25:Value) (h:H) (c:Nat) (df:List Nat):jx P o 118 rd Z80 (Z0h [1,2,3,6,7,8,9,10,23,24,25] [t1,t2,t3,t6,t7,t8,t9,t10,t23,t24,t25]) h c df (Klp [1,2,3,6,7,8,9,10,23,24,25])=Z84 o rd t1 t2 t3 t6 t7 t8 t9 t10 t23 t24 t25 h c df:=by kernel_rfl
noncomputable def Z85 (o:Orc H) (rd:Option Nat) (t1 t2 t3 t6 t7 t23 t24 t25:Value) (h:H) (c:Nat) (df:List Nat):Option (Rt H) :=
 (Z00 P .lss 3 t25 t24).bind fun t26 =>
 Z09 t26
 ((ixS 20 t23 t25).bind fun t28 =>
 (ldN h 20 t28).bind fun t29 =>
 (stN (newB h (256*(c+1)+3) [(.int .i64 0),(.int .i64 0),(.int .i64 0),(.int .i64 0),(.int .i64 0),(.int .i64 0),(.int .i64 0),(.int .i64 0),(.int .i64 0),(.int .i64 0),(.int .i64 0),(.int .i64 0),(.int .i64 0),(.int .i64 0),(.int .i64 0),(.int .i64 0),(.int .i64 0),(.int .i64 0),(.int .i64 0),(.int .i64 0)]) 20 (ptrTo (256*(c+1)+3)) t29).bind fun h1 =>
 (o (Zbe rd) [t1,t2,t3,t6,t7,t25,(ptrTo (256*(c+1)+3)),(.int .i64 0),t23,t24,t25] h1 (c+1+1+1) df).bind fun r2 =>
 cond (Z0r r2.e (.exit 2))
  ((Z00 P .add 3 (r2.v 10) (.int .i64 1)).bind fun t90 =>
  some ⟨.normal,[r2.v 0,r2.v 1,r2.v 2,r2.v 3,r2.v 4,r2.v 8,r2.v 9,t90],r2.h,(r2.c+1),r2.df⟩)
  (none))
 (some ⟨(.exit 0),[t1,t2,t3,t6,t7,t23,t24,t25],h,(c+1),df⟩)
theorem Z6Z (o:Orc H) (rd:Option Nat) (t1 t2 t3 t6 t7 t23 t24 t25:Value) (h:H) (c:Nat) (df:List Nat):jx P o 118 rd Z81 (Z0h [1,2,3,6,7,23,24,25] [t1,t2,t3,t6,t7,t23,t24,t25]) h c df (Klp [1,2,3,6,7,23,24,25])=Z85 o rd t1 t2 t3 t6 t7 t23 t24 t25 h c df:=by kernel_rfl
noncomputable def Z5Z (o:Orc H) (rd:Option Nat) (t6 t7 t15 t16 t93 t94:Value) (h:H) (c:Nat) (df:List Nat):Option (Rt H) :=
 (Z00 P .lss 3 t16 (.int .i64 4)).bind fun t98 =>
 Z09 t98
 ((Z00 P .mul 3 (.int .i64 8) t15).bind fun t103 =>
 (Z00 P .mul 3 (.int .i64 2) t16).bind fun t105 =>
 (Z00 P .add 3 t103 t105).bind fun t106 =>
 (callF o 87 [t7,t106] h (c+1+1)).bind fun r0 =>
 (Z00 P .mul 3 (.int .i64 8) t15).bind fun t110 =>
 (Z00 P .mul 3 (.int .i64 2) t16).bind fun t112 =>
 (Z00 P .add 3 t110 t112).bind fun t113 =>
 (Z00 P .add 3 t113 (.int .i64 1)).bind fun t114 =>
 (callF o 87 [t7,t114] r0.2.1 r0.2.2).bind fun r1 =>
 (Z00 P .eql 3 r0.1 r1.1).bind fun t116 =>
 Z09 t116
  (some ⟨.ret,[(.bool false),t7,t15,t16,t93,t94],r1.2.1,(r1.2.2+1),df⟩)
  ((Z00 P .add 3 t16 (.int .i64 1)).bind fun t100 =>
  some ⟨.normal,[t6,t7,t15,t100,t93,t94],r1.2.1,(r1.2.2+1),df⟩))
 (some ⟨(.exit 10),[t6,t7,t15,t16,t93,t94],h,(c+1),df⟩)
theorem Z51 (o:Orc H) (rd:Option Nat) (t6 t7 t15 t16 t93 t94:Value) (h:H) (c:Nat) (df:List Nat):jx P o 118 rd Z7W (Z0h [6,7,15,16,93,94] [t6,t7,t15,t16,t93,t94]) h c df (Klp [6,7,15,16,93,94])=Z5Z o rd t6 t7 t15 t16 t93 t94 h c df:=by kernel_rfl
noncomputable def Z82 (o:Orc H) (rd:Option Nat) (t6 t7 t93 t94:Value) (h:H) (c:Nat) (df:List Nat):Option (Rt H) :=
 (Z00 P .lss 3 t94 t93).bind fun t95 =>
 Z09 t95
 ((o (Zbb rd) [t6,t7,t94,(.int .i64 0),t93,t94] h (c+1+1+1) df).bind fun r0 =>
 cond (Z0r r0.e (.exit 10))
  ((Z00 P .add 3 (r0.v 5) (.int .i64 1)).bind fun t117 =>
  some ⟨.normal,[r0.v 0,r0.v 1,r0.v 4,t117],r0.h,(r0.c+1),r0.df⟩)
  (cond (Z0r r0.e .ret)
   (some ⟨.ret,[r0.v 0,r0.v 1,r0.v 4,r0.v 5],r0.h,r0.c,r0.df⟩)
   (none)))
 (some ⟨(.exit 8),[t6,t7,t93,t94],h,(c+1),df⟩)
theorem Z6W (o:Orc H) (rd:Option Nat) (t6 t7 t93 t94:Value) (h:H) (c:Nat) (df:List Nat):jx P o 118 rd Z7X (Z0h [6,7,93,94] [t6,t7,t93,t94]) h c df (Klp [6,7,93,94])=Z82 o rd t6 t7 t93 t94 h c df:=by kernel_rfl
noncomputable def ZpE (o:Orc H) (t0 t1 t2:Value) (h:H) (c:Nat):Option (Rt H) :=
 (bif (t0:Value).cells.toList.all Z08 then
 (Z03 (ptrTo (256*c+0)) 0).bind fun t17 =>
 (ld1 (newB h (256*c+0) (t0:Value).cells.toList) t17).bind fun t18 =>
 (Z1q t18).bind fun t19 =>
 (Z00 P .mul 3 (.int .i64 8) t19).bind fun t20 =>
 (callF o 80 [t20] (newB h (256*c+0) (t0:Value).cells.toList) (c+1+1)).bind fun r0 =>
 (Z03 (ptrTo (256*c+0)) 0).bind fun t22 =>
 (ld1 r0.2.1 t22).bind fun t23 =>
 (Z1q t23).bind fun t24 =>
 (o (Zbf none) [t1,t2,(ptrTo (256*c+0)),(.bool false),r0.1,t23,t24,(.int .i64 0)] r0.2.1 (r0.2.2+1) []).bind fun r1 =>
 cond (Z0r r1.e (.exit 0))
 ((Z03 (r1.v 2) 0).bind fun t91 =>
 (ld1 r1.h t91).bind fun t92 =>
 (Z1q t92).bind fun t93 =>
 (o (Zbc none) [r1.v 3,r1.v 4,t93,(.int .i64 0)] r1.h (r1.c+1) r1.df).bind fun r2 =>
 cond (Z0r r2.e (.exit 8))
  ((Z0a r2.h r2.df).bind fun h4 =>
  some ⟨.ret,[(.bool true)],h4,(r2.c+1),[]⟩)
  (cond (Z0r r2.e .ret)
   ((Z0a r2.h r2.df).bind fun h3 =>
   some ⟨.ret,[r2.v 0],h3,r2.c,[]⟩)
   (none)))
 (none)
 else none)
theorem ZmR (o:Orc H) (t0 t1 t2:Value) (h:H) (c:Nat):jx P o 118 none f89_c (Z0h (List.range 3) [t0,t1,t2]) h c [] (Kfn P Try.f89.results.toList)=ZpE o t0 t1 t2 h c:=by kernel_rfl
theorem f89_go {t0 t1 t2:Value} {h:FH} {c:Nat} {df:List Nat} {r:Rt FH} (e:ZpE G t0 t1 t2 h c=some r):G (.fn 89) [t0,t1,t2] h c df=some (gcR h c [] r):=Z0f (a:=ZmQ) bk_89 rfl (fun args h c=>by cases args <;> rfl) rfl ((ZmR G t0 t1 t2 h c).trans e)
noncomputable def Zjz (o:Orc H) (t0:Value) (h:H) (c:Nat):Option (Rt H) :=
 (bif (t0:Value).cells.toList.all Z08 then
 (ldN (newB h (256*c+0) (t0:Value).cells.toList) 4 (ptrTo (256*c+0))).bind fun t3 =>
 (callF o 56 [t3] (newB h (256*c+0) (t0:Value).cells.toList) (c+1+1)).bind fun r0 =>
 (Z2g .not r0.1).bind fun t5 =>
 Z09 t5
 (some ⟨.ret,[(.int .i64 0)],r0.2.1,(r0.2.2+1),[]⟩)
 ((ldN r0.2.1 4 (ptrTo (256*c+0))).bind fun t6 =>
 (callF o 92 [t6] r0.2.1 (r0.2.2+1)).bind fun r1 =>
 some ⟨.ret,[r1.1],r1.2.1,r1.2.2,[]⟩)
 else none)
theorem Zgt (o:Orc H) (t0:Value) (h:H) (c:Nat):jx P o 8 none f91_c (Z0h (List.range 1) [t0]) h c [] (Kfn P Try.f91.results.toList)=Zjz o t0 h c:=by kernel_rfl
theorem f91_go {t0:Value} {h:FH} {c:Nat} {df:List Nat} {r:Rt FH} (e:Zjz G t0 h c=some r):G (.fn 91) [t0] h c df=some (gcR h c [] r):=Z0f (a:=Zey) bk_91 rfl (fun args h c=>by cases args <;> rfl) rfl ((Zgt G t0 h c).trans e)
noncomputable def Z4j (o:Orc H) (rd:Option Nat) (t1 t3 t4 t6 t9 t10:Value) (h:H) (c:Nat) (df:List Nat):Option (Rt H) :=
 (Z00 P .lss 3 t10 t9).bind fun t11 =>
 Z09 t11
 ((ixA 4 1 t1 t10).bind fun t14 =>
 (ld1 h t14).bind fun t15 =>
 (ixA 4 1 t1 t4).bind fun t17 =>
 (ld1 h t17).bind fun t18 =>
 (Z00 P .gtr 3 t15 t18).bind fun t19 =>
 (Z09 t19
  ((Z2g .neg t3).bind fun t21 =>
  some ⟨.normal,[t1,t21,t4,t6,t9,t10],h,(c+1+1+1+1),df⟩)
  (some ⟨.normal,[t1,t3,t4,t6,t9,t10],h,(c+1+1+1),df⟩):Option (Rt H)).bind fun r1 =>
 cond (Z0r r1.e .normal)
  ((Z00 P .add 3 (r1.v 5) (.int .i64 1)).bind fun t22 =>
  some ⟨.normal,[r1.v 0,r1.v 1,r1.v 2,r1.v 3,r1.v 4,t22],r1.h,(r1.c+1),r1.df⟩)
  (none))
 (some ⟨(.exit 2),[t1,t3,t4,t6,t9,t10],h,(c+1),df⟩)
theorem Z4Z (o:Orc H) (rd:Option Nat) (t1 t3 t4 t6 t9 t10:Value) (h:H) (c:Nat) (df:List Nat):jx P o 25 rd Z36 (Z0h [1,3,4,6,9,10] [t1,t3,t4,t6,t9,t10]) h c df (Klp [1,3,4,6,9,10])=Z4j o rd t1 t3 t4 t6 t9 t10 h c df:=by kernel_rfl
noncomputable def Z4k (o:Orc H) (rd:Option Nat) (t1 t3 t6:Value) (h:H) (c:Nat) (df:List Nat):Option (Rt H) :=
 (Z00 P .lss 3 t6 (.int .i64 4)).bind fun t7 =>
 Z09 t7
 ((o (Zb9 rd) [t1,t3,t6,t6,t6,(.int .i64 0)] h (c+1+1+1) df).bind fun r0 =>
 cond (Z0r r0.e (.exit 2))
  ((Z00 P .add 3 (r0.v 3) (.int .i64 1)).bind fun t23 =>
  some ⟨.normal,[r0.v 0,r0.v 1,t23],r0.h,(r0.c+1),r0.df⟩)
  (none))
 (some ⟨(.exit 0),[t1,t3,t6],h,(c+1),df⟩)
theorem Z50 (o:Orc H) (rd:Option Nat) (t1 t3 t6:Value) (h:H) (c:Nat) (df:List Nat):jx P o 25 rd Z37 (Z0h [1,3,6] [t1,t3,t6]) h c df (Klp [1,3,6])=Z4k o rd t1 t3 t6 h c df:=by kernel_rfl
noncomputable def Zjx (o:Orc H) (t0:Value) (h:H) (c:Nat):Option (Rt H) :=
 (bif (t0:Value).cells.toList.all Z08 then
 (o (Zba none) [(ptrTo (256*c+0)),(.int .i64 1),(.int .i64 0)] (newB h (256*c+0) (t0:Value).cells.toList) (c+1+1+1) []).bind fun r0 =>
 cond (Z0r r0.e (.exit 0))
 ((Z0a r0.h r0.df).bind fun h1 =>
 some ⟨.ret,[r0.v 1],h1,(r0.c+1),[]⟩)
 (none)
 else none)
theorem Zgs (o:Orc H) (t0:Value) (h:H) (c:Nat):jx P o 25 none f92_c (Z0h (List.range 1) [t0]) h c [] (Kfn P Try.f92.results.toList)=Zjx o t0 h c:=by kernel_rfl
theorem f92_go {t0:Value} {h:FH} {c:Nat} {df:List Nat} {r:Rt FH} (e:Zjx G t0 h c=some r):G (.fn 92) [t0] h c df=some (gcR h c [] r):=Z0f (a:=Zex) bk_92 rfl (fun args h c=>by cases args <;> rfl) rfl ((Zgs G t0 h c).trans e)
end Go.Proofs.Ytdodippbpdechaa
