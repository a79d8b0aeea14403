/- Parts of a proof: S3 S4. Conditions: none. -/
import Derived.Test.YtdodippbpdechaaM8
set_option linter.all false
set_option maxRecDepth 100000
set_option maxHeartbeats 4000000
namespace Go.Proofs.Ytdodippbpdechaa
open Go Go.Ab Go.Proofs
variable {H:Type} [HeapC H]
noncomputable def Z3F (o:Orc H) (rd:Option Nat) (t4 t5 t7 t8 t9 t10 t35 t36 t37 t42 t43 t68 t90:Value) (h:H) (c:Nat) (df:List Nat):Option (Rt H) :=
 (Z00 P .lss 3 t90 (.int .i64 4)).bind fun t91 =>
 Z09 t91
 ((Z00 P .neq 3 t90 t7).bind fun t95 =>
 (gd t95 true h (c+1+1+1) (some t90)).bind fun r0 =>
 (gd t95 true r0.2.1 r0.2.2 (some t10)).bind fun r1 =>
 (gd t95 true r1.2.1 r1.2.2 (Z00 P .neq 3 r0.1 r1.1)).bind fun r2 =>
 (Z0C t95 r2.1 (.bool false)).bind fun t100 =>
 (Z09 t100
  ((Z0e t4).bind fun t102 =>
  (Z03 t102 2).bind fun t103 =>
  (Z03 t103 0).bind fun t104 =>
  (Z00 P .mul 3 (.int .i64 16) t5).bind fun t106 =>
  (Z00 P .mul 3 (.int .i64 4) t10).bind fun t108 =>
  (Z00 P .add 3 t106 t108).bind fun t109 =>
  (Z00 P .add 3 t109 t90).bind fun t111 =>
  (Z03 t8 0).bind fun t112 =>
  (ld1 r2.2.1 t112).bind fun t113 =>
  (Z00 P .mul 3 (.int .i64 16) t113).bind fun t114 =>
  (ixA 4 1 t9 t10).bind fun t116 =>
  (ld1 r2.2.1 t116).bind fun t117 =>
  (Z00 P .mul 3 (.int .i64 4) t117).bind fun t118 =>
  (Z00 P .add 3 t114 t118).bind fun t119 =>
  (ixA 4 1 t9 t90).bind fun t121 =>
  (ld1 r2.2.1 t121).bind fun t122 =>
  (Z00 P .add 3 t119 t122).bind fun t123 =>
  (callF o 67 [t104,t111,t123] r2.2.1 (r2.2.2+1)).bind fun r3 =>
  (Z0e t4).bind fun t126 =>
  (Z03 t126 3).bind fun t127 =>
  (Z03 t127 0).bind fun t128 =>
  (Z00 P .mul 3 (.int .i64 6) t5).bind fun t130 =>
  (callF o 27 [t10,t90] r3.2.1 (r3.2.2+1)).bind fun r4 =>
  (Z00 P .add 3 t130 r4.1).bind fun t134 =>
  (Z03 t8 0).bind fun t135 =>
  (ld1 r4.2.1 t135).bind fun t136 =>
  (Z00 P .mul 3 (.int .i64 6) t136).bind fun t137 =>
  (ixA 4 1 t9 t10).bind fun t139 =>
  (ld1 r4.2.1 t139).bind fun t140 =>
  (ixA 4 1 t9 t90).bind fun t142 =>
  (ld1 r4.2.1 t142).bind fun t143 =>
  (callF o 27 [t140,t143] r4.2.1 r4.2.2).bind fun r5 =>
  (Z00 P .add 3 t137 r5.1).bind fun t145 =>
  (callF o 67 [t128,t134,t145] r5.2.1 r5.2.2).bind fun r6 =>
  (bif (Z1y (Z2O t135) r3.2.1 r4.2.1 && (Z1y (Z2O t135) r4.2.1 r5.2.1 && (Z1y (Z2O t139) r3.2.1 r4.2.1 && (Z1y (Z2O t142) r3.2.1 r4.2.1 && true)))) then
  some ⟨.normal,[t4,t5,t7,t8,t9,t10,t35,t36,t37,t42,t43,t68,t90],r6.2.1,r6.2.2,df⟩
  else none))
  (some ⟨.normal,[t4,t5,t7,t8,t9,t10,t35,t36,t37,t42,t43,t68,t90],r2.2.1,r2.2.2,df⟩):Option (Rt H)).bind fun r7 =>
 cond (Z0r r7.e .normal)
  ((Z00 P .add 3 (r7.v 12) (.int .i64 1)).bind fun t147 =>
  some ⟨.normal,[r7.v 0,r7.v 1,r7.v 2,r7.v 3,r7.v 4,r7.v 5,r7.v 6,r7.v 7,r7.v 8,r7.v 9,r7.v 10,r7.v 11,t147],r7.h,(r7.c+1),r7.df⟩)
  (none))
 (some ⟨(.exit 6),[t4,t5,t7,t8,t9,t10,t35,t36,t37,t42,t43,t68,t90],h,(c+1),df⟩)
theorem Z2X (o:Orc H) (rd:Option Nat) (t4 t5 t7 t8 t9 t10 t35 t36 t37 t42 t43 t68 t90:Value) (h:H) (c:Nat) (df:List Nat):jx P o 152 rd Z3B (Z0h [4,5,7,8,9,10,35,36,37,42,43,68,90] [t4,t5,t7,t8,t9,t10,t35,t36,t37,t42,t43,t68,t90]) h c df (Klp [4,5,7,8,9,10,35,36,37,42,43,68,90])=Z3F o rd t4 t5 t7 t8 t9 t10 t35 t36 t37 t42 t43 t68 t90 h c df:=by kernel_rfl
noncomputable def Z3G (o:Orc H) (rd:Option Nat) (t4 t5 t7 t8 t9 t35 t36 t37 t42 t43 t68:Value) (h:H) (c:Nat) (df:List Nat):Option (Rt H) :=
 (Z00 P .lss 3 t68 (.int .i64 4)).bind fun t69 =>
 Z09 t69
 (((Z00 P .eql 3 t68 t7).bind fun t73 =>
  Z09 t73
   (some ⟨.normal,[t4,t5,t7,t8,t9,t35,t36,t37,t42,t43,t68],h,(c+1+1+1),df⟩)
   ((Z0e t4).bind fun t75 =>
   (Z03 t75 1).bind fun t76 =>
   (Z03 t76 0).bind fun t77 =>
   (Z00 P .mul 3 (.int .i64 4) t5).bind fun t79 =>
   (Z00 P .add 3 t79 t68).bind fun t81 =>
   (Z03 t8 0).bind fun t82 =>
   (ld1 h t82).bind fun t83 =>
   (Z00 P .mul 3 (.int .i64 4) t83).bind fun t84 =>
   (ixA 4 1 t9 t68).bind fun t86 =>
   (ld1 h t86).bind fun t87 =>
   (Z00 P .add 3 t84 t87).bind fun t88 =>
   (callF o 67 [t77,t81,t88] h (c+1+1+1+1)).bind fun r0 =>
   (o (Zc2 rd) [t4,t5,t7,t8,t9,t68,t35,t36,t37,t42,t43,t68,(.int .i64 0)] r0.2.1 (r0.2.2+1) df).bind fun r1 =>
   cond (Z0r r1.e (.exit 6))
    (some ⟨.normal,[r1.v 0,r1.v 1,r1.v 2,r1.v 3,r1.v 4,r1.v 6,r1.v 7,r1.v 8,r1.v 9,r1.v 10,r1.v 11],r1.h,r1.c,r1.df⟩)
    (none)):Option (Rt H)).bind fun r2 =>
 cond (Z0r r2.e .normal)
  ((Z00 P .add 3 (r2.v 10) (.int .i64 1)).bind fun t148 =>
  some ⟨.normal,[r2.v 0,r2.v 1,r2.v 2,r2.v 3,r2.v 4,r2.v 5,r2.v 6,r2.v 7,r2.v 8,r2.v 9,t148],r2.h,(r2.c+1),r2.df⟩)
  (none))
 (some ⟨(.exit 4),[t4,t5,t7,t8,t9,t35,t36,t37,t42,t43,t68],h,(c+1),df⟩)
theorem Z2Y (o:Orc H) (rd:Option Nat) (t4 t5 t7 t8 t9 t35 t36 t37 t42 t43 t68:Value) (h:H) (c:Nat) (df:List Nat):jx P o 152 rd Z3C (Z0h [4,5,7,8,9,35,36,37,42,43,68] [t4,t5,t7,t8,t9,t35,t36,t37,t42,t43,t68]) h c df (Klp [4,5,7,8,9,35,36,37,42,43,68])=Z3G o rd t4 t5 t7 t8 t9 t35 t36 t37 t42 t43 t68 h c df:=by kernel_rfl
noncomputable def Z3H (o:Orc H) (rd:Option Nat) (t4 t5 t35 t36 t37 t42 t43:Value) (h:H) (c:Nat) (df:List Nat):Option (Rt H) :=
 (Z00 P .lss 3 t43 (.int .i64 4)).bind fun t44 =>
 Z09 t44
 (((ixV 4 true 5 t42 t43).bind fun t46 =>
  (stN (newB h (256*(c+1)+2) [(.int .i64 0),(.int .i64 0),(.int .i64 0),(.int .i64 0),(.int .i64 0)]) 5 (ptrTo (256*(c+1)+2)) t46).bind fun h1 =>
  (Z03 (ptrTo (256*(c+1)+2)) 0).bind fun t47 =>
  (ld1 h1 t47).bind fun t48 =>
  (Z00 P .lss 3 t48 (.int .i64 0)).bind fun t49 =>
  Z09 t49
   (some ⟨.normal,[t4,t5,t35,t36,t37,t42,t43],h1,(c+1+1+1),df⟩)
   ((Z03 (ptrTo (256*(c+1)+2)) 1).bind fun t50 =>
   (ldN h1 4 t50).bind fun t51 =>
   (stN (newB h1 (256*(c+1+1+1)+2) [(.int .i64 0),(.int .i64 0),(.int .i64 0),(.int .i64 0)]) 4 (ptrTo (256*(c+1+1+1)+2)) t51).bind fun h3 =>
   (Z0e t4).bind fun t53 =>
   (Z03 t53 4).bind fun t54 =>
   (Z03 t54 0).bind fun t55 =>
   (Z00 P .mul 3 (.int .i64 4) t5).bind fun t57 =>
   (Z00 P .add 3 t57 t43).bind fun t59 =>
   (Z03 (ptrTo (256*(c+1)+2)) 0).bind fun t60 =>
   (ld1 h3 t60).bind fun t61 =>
   (Z00 P .mul 3 (.int .i64 4) t61).bind fun t62 =>
   (ixA 4 1 (ptrTo (256*(c+1+1+1)+2)) t43).bind fun t64 =>
   (ld1 h3 t64).bind fun t65 =>
   (Z00 P .add 3 t62 t65).bind fun t66 =>
   (callF o 67 [t55,t59,t66] h3 (c+1+1+1+1+1)).bind fun r4 =>
   (o (Zc3 rd) [t4,t5,t43,(ptrTo (256*(c+1)+2)),(ptrTo (256*(c+1+1+1)+2)),t35,t36,t37,t42,t43,(.int .i64 0)] r4.2.1 (r4.2.2+1) df).bind fun r5 =>
   cond (Z0r r5.e (.exit 4))
    (some ⟨.normal,[r5.v 0,r5.v 1,r5.v 5,r5.v 6,r5.v 7,r5.v 8,r5.v 9],r5.h,r5.c,r5.df⟩)
    (none)):Option (Rt H)).bind fun r6 =>
 cond (Z0r r6.e .normal)
  ((Z00 P .add 3 (r6.v 6) (.int .i64 1)).bind fun t149 =>
  some ⟨.normal,[r6.v 0,r6.v 1,r6.v 2,r6.v 3,r6.v 4,r6.v 5,t149],r6.h,(r6.c+1),r6.df⟩)
  (none))
 (some ⟨(.exit 2),[t4,t5,t35,t36,t37,t42,t43],h,(c+1),df⟩)
theorem Z2Z (o:Orc H) (rd:Option Nat) (t4 t5 t35 t36 t37 t42 t43:Value) (h:H) (c:Nat) (df:List Nat):jx P o 152 rd Z3D (Z0h [4,5,35,36,37,42,43] [t4,t5,t35,t36,t37,t42,t43]) h c df (Klp [4,5,35,36,37,42,43])=Z3H o rd t4 t5 t35 t36 t37 t42 t43 h c df:=by kernel_rfl
noncomputable def Z4E (o:Orc H) (rd:Option Nat) (t4 t35 t36 t37:Value) (h:H) (c:Nat) (df:List Nat):Option (Rt H) :=
 (Z00 P .lss 3 t37 t36).bind fun t38 =>
 Z09 t38
 ((ixS 20 t35 t37).bind fun t40 =>
 (ldN h 20 t40).bind fun t41 =>
 (stN (newB h (256*(c+1)+3) [(.int .i64 0),(.int .i64 0),(.int .i64 0),(.int .i64 0),(.int .i64 0),(.int .i64 0),(.int .i64 0),(.int .i64 0),(.int .i64 0),(.int .i64 0),(.int .i64 0),(.int .i64 0),(.int .i64 0),(.int .i64 0),(.int .i64 0),(.int .i64 0),(.int .i64 0),(.int .i64 0),(.int .i64 0),(.int .i64 0)]) 20 (ptrTo (256*(c+1)+3)) t41).bind fun h1 =>
 (ldN h1 20 (ptrTo (256*(c+1)+3))).bind fun t42 =>
 (o (Zc4 rd) [t4,t37,t35,t36,t37,t42,(.int .i64 0)] h1 (c+1+1+1) df).bind fun r2 =>
 cond (Z0r r2.e (.exit 2))
  ((Z00 P .add 3 (r2.v 4) (.int .i64 1)).bind fun t150 =>
  some ⟨.normal,[r2.v 0,r2.v 2,r2.v 3,t150],r2.h,(r2.c+1),r2.df⟩)
  (none))
 (some ⟨(.exit 0),[t4,t35,t36,t37],h,(c+1),df⟩)
theorem Z5l (o:Orc H) (rd:Option Nat) (t4 t35 t36 t37:Value) (h:H) (c:Nat) (df:List Nat):jx P o 152 rd Z3E (Z0h [4,35,36,37] [t4,t35,t36,t37]) h c df (Klp [4,35,36,37])=Z4E o rd t4 t35 t36 t37 h c df:=by kernel_rfl
noncomputable def ZjT (o:Orc H) (t0:Value) (h:H) (c:Nat):Option (Rt H) :=
 (bif (t0:Value).cells.toList.all Z08 then
 (Z03 (ptrTo (256*c+0)) 0).bind fun t12 =>
 (ld1 (newB h (256*c+0) (t0:Value).cells.toList) t12).bind fun t13 =>
 (Z1q t13).bind fun t14 =>
 (ldN (newB h (256*c+0) (t0:Value).cells.toList) 1 (ptrTo (256*c+0))).bind fun t15 =>
 (Z00 P .mul 3 (.int .i64 4) t14).bind fun t17 =>
 (callF o 66 [t17] (newB h (256*c+0) (t0:Value).cells.toList) (c+1+1+1)).bind fun r0 =>
 (Z1K [(.slice none 0 0)] [(0,1,r0.1)]).bind fun t19 =>
 (Z00 P .mul 3 (.int .i64 16) t14).bind fun t21 =>
 (callF o 66 [t21] r0.2.1 r0.2.2).bind fun r1 =>
 (Z1K [(.slice none 0 0)] [(0,1,r1.1)]).bind fun t23 =>
 (Z00 P .mul 3 (.int .i64 6) t14).bind fun t25 =>
 (callF o 66 [t25] r1.2.1 r1.2.2).bind fun r2 =>
 (Z1K [(.slice none 0 0)] [(0,1,r2.1)]).bind fun t27 =>
 (Z00 P .mul 3 (.int .i64 4) t14).bind fun t29 =>
 (callF o 66 [t29] r2.2.1 r2.2.2).bind fun r3 =>
 (Z1K [(.slice none 0 0)] [(0,1,r3.1)]).bind fun t31 =>
 (Z1K [(.slice none 0 0),(.slice none 0 0),(.slice none 0 0),(.slice none 0 0),(.slice none 0 0)] [(0,1,t15),(1,1,t19),(2,1,t23),(3,1,t27),(4,1,t31)]).bind fun t32 =>
 (bif (t32:Value).cells.toList.all Z08 then
 (bif (Z1y (Z2O (ptrTo (256*c+0))) (newB h (256*c+0) (t0:Value).cells.toList) r0.2.1 && (Z1y (Z2O (ptrTo (256*c+0))) r0.2.1 r1.2.1 && (Z1y (Z2O (ptrTo (256*c+0))) r1.2.1 r2.2.1 && (Z1y (Z2O (ptrTo (256*c+0))) r2.2.1 r3.2.1 && true)))) then
 (Z03 (ptrTo (256*c+0)) 0).bind fun t34 =>
 (ld1 (newB r3.2.1 (256*(c+1+1)+18) (t32:Value).cells.toList) t34).bind fun t35 =>
 (Z1q t35).bind fun t36 =>
 (o (Zc5 none) [(ptrTo (256*(c+1+1)+18)),t35,t36,(.int .i64 0)] (newB r3.2.1 (256*(c+1+1)+18) (t32:Value).cells.toList) (r3.2.2+1) []).bind fun r4 =>
 cond (Z0r r4.e (.exit 0))
 ((Z0a r4.h r4.df).bind fun h5 =>
 some ⟨.ret,[r4.v 0],h5,(r4.c+1),[]⟩)
 (none)
 else none)
 else none)
 else none)
theorem ZgP (o:Orc H) (t0:Value) (h:H) (c:Nat):jx P o 152 none f40_c (Z0h (List.range 1) [t0]) h c [] (Kfn P Try.f40.results.toList)=ZjT o t0 h c:=by kernel_rfl
theorem f40_go {t0:Value} {h:FH} {c:Nat} {df:List Nat} {r:Rt FH} (e:ZjT G t0 h c=some r):G (.fn 40) [t0] h c df=some r:=Z0f (a:=ZeU) bk_40 rfl (fun args h c=>by cases args <;> rfl) rfl ((ZgP G t0 h c).trans e)
noncomputable def Z4D (o:Orc H) (rd:Option Nat) (t0 t4 t5 t15 t16:Value) (h:H) (c:Nat) (df:List Nat):Option (Rt H) :=
 (Z00 P .lss 3 t16 t15).bind fun t17 =>
 Z09 t17
 ((callF o 68 [t0,t16] h (c+1+1+1)).bind fun r0 =>
 (Z00 P .eql 3 r0.1 t16).bind fun t24 =>
 (Z09 t24
  ((ixS 1 t4 t16).bind fun t28 =>
  (stN r0.2.1 1 t28 t5).bind fun h2 =>
  (Z00 P .add 3 t5 (.int .i64 1)).bind fun t30 =>
  some ⟨.normal,[t0,t4,t30,t15,t16],h2,(r0.2.2+1+1+1),df⟩)
  ((ixS 1 t4 r0.1).bind fun t35 =>
  (ld1 r0.2.1 t35).bind fun t36 =>
  (ixS 1 t4 t16).bind fun t37 =>
  (stN r0.2.1 1 t37 t36).bind fun h5 =>
  some ⟨.normal,[t0,t4,t5,t15,t16],h5,(r0.2.2+1+1),df⟩):Option (Rt H)).bind fun r6 =>
 cond (Z0r r6.e .normal)
  ((Z00 P .add 3 (r6.v 4) (.int .i64 1)).bind fun t38 =>
  some ⟨.normal,[r6.v 0,r6.v 1,r6.v 2,r6.v 3,t38],r6.h,(r6.c+1),r6.df⟩)
  (none))
 (some ⟨(.exit 0),[t0,t4,t5,t15,t16],h,(c+1),df⟩)
theorem Z5k (o:Orc H) (rd:Option Nat) (t0 t4 t5 t15 t16:Value) (h:H) (c:Nat) (df:List Nat):jx P o 41 rd Z3A (Z0h [0,4,5,15,16] [t0,t4,t5,t15,t16]) h c df (Klp [0,4,5,15,16])=Z4D o rd t0 t4 t5 t15 t16 h c df:=by kernel_rfl
noncomputable def ZjS (o:Orc H) (t0:Value) (h:H) (c:Nat):Option (Rt H) :=
 (Z0e t0).bind fun t9 =>
 (Z03 t9 0).bind fun t10 =>
 (ld1 h t10).bind fun t11 =>
 (Z1q t11).bind fun t12 =>
 (mkS 1 8 [(.int .i64 0)] t12 t12).bind fun r0 =>
 (Z1q (.slice (some ⟨(256*(c+1)+5),0,none⟩) r0.2.1 r0.2.2)).bind fun t15 =>
 (o (Zc1 none) [t0,(.slice (some ⟨(256*(c+1)+5),0,none⟩) r0.2.1 r0.2.2),(.int .i64 0),t15,(.int .i64 0)] (newB h (256*(c+1)+5) r0.1) (c+1+1+1+1) []).bind fun r1 =>
 cond (Z0r r1.e (.exit 0))
 ((Z0a r1.h r1.df).bind fun h2 =>
 some ⟨.ret,[.tuple #[r1.v 1,r1.v 2]],h2,(r1.c+1),[]⟩)
 (none)
theorem ZgO (o:Orc H) (t0:Value) (h:H) (c:Nat):jx P o 41 none f41_c (Z0h (List.range 1) [t0]) h c [] (Kfn P Try.f41.results.toList)=ZjS o t0 h c:=by kernel_rfl
theorem f41_go {t0:Value} {h:FH} {c:Nat} {df:List Nat} {r:Rt FH} (e:ZjS G t0 h c=some r):G (.fn 41) [t0] h c df=some r:=Z0f (a:=ZeT) bk_41 rfl (fun args h c=>by cases args <;> rfl) rfl ((ZgO G t0 h c).trans e)
noncomputable def Z4B (o:Orc H) (rd:Option Nat) (t2 t3 t4 t18 t19 t20 t24 t25:Value) (h:H) (c:Nat) (df:List Nat):Option (Rt H) :=
 (Z00 P .lss 3 t25 (.int .i64 4)).bind fun t26 =>
 Z09 t26
 ((ixV 4 true 5 t24 t25).bind fun t27 =>
 (stN (newB h (256*(c+1)+1) [(.int .i64 0),(.int .i64 0),(.int .i64 0),(.int .i64 0),(.int .i64 0)]) 5 (ptrTo (256*(c+1)+1)) t27).bind fun h1 =>
 (Z03 t4 0).bind fun t28 =>
 (ld1 h1 t28).bind fun t29 =>
 (gd t29 false h1 (c+1+1+1) (Z03 (ptrTo (256*(c+1)+1)) 0)).bind fun r2 =>
 (gd t29 false r2.2.1 r2.2.2 (ld1 r2.2.1 r2.1)).bind fun r3 =>
 (gd t29 false r3.2.1 r3.2.2 (Z00 P .lss 3 r3.1 (.int .i64 0))).bind fun r4 =>
 (Z0C t29 (.bool true) r4.1).bind fun t34 =>
 (Z03 t4 0).bind fun t35 =>
 (stN r4.2.1 1 t35 t34).bind fun h6 =>
 (Z00 P .add 3 t25 (.int .i64 1)).bind fun t36 =>
 some ⟨.normal,[t2,t3,t4,t18,t19,t20,t24,t36],h6,(r4.2.2+1),df⟩)
 (some ⟨(.exit 2),[t2,t3,t4,t18,t19,t20,t24,t25],h,(c+1),df⟩)
theorem Z5i (o:Orc H) (rd:Option Nat) (t2 t3 t4 t18 t19 t20 t24 t25:Value) (h:H) (c:Nat) (df:List Nat):jx P o 90 rd Z3y (Z0h [2,3,4,18,19,20,24,25] [t2,t3,t4,t18,t19,t20,t24,t25]) h c df (Klp [2,3,4,18,19,20,24,25])=Z4B o rd t2 t3 t4 t18 t19 t20 t24 t25 h c df:=by kernel_rfl
noncomputable def Z4C (o:Orc H) (rd:Option Nat) (t2 t3 t4 t18 t19 t20:Value) (h:H) (c:Nat) (df:List Nat):Option (Rt H) :=
 (Z00 P .lss 3 t20 t19).bind fun t21 =>
 Z09 t21
 ((ixS 20 t18 t20).bind fun t22 =>
 (ldN h 20 t22).bind fun t23 =>
 (stN (newB h (256*(c+1)+2) [(.int .i64 0),(.int .i64 0),(.int .i64 0),(.int .i64 0),(.int .i64 0),(.int .i64 0),(.int .i64 0),(.int .i64 0),(.int .i64 0),(.int .i64 0),(.int .i64 0),(.int .i64 0),(.int .i64 0),(.int .i64 0),(.int .i64 0),(.int .i64 0),(.int .i64 0),(.int .i64 0),(.int .i64 0),(.int .i64 0)]) 20 (ptrTo (256*(c+1)+2)) t23).bind fun h1 =>
 (ldN h1 20 (ptrTo (256*(c+1)+2))).bind fun t24 =>
 (o (ZbZ rd) [t2,t3,t4,t18,t19,t20,t24,(.int .i64 0)] h1 (c+1+1+1) df).bind fun r2 =>
 cond (Z0r r2.e (.exit 2))
  ((Z00 P .add 3 (r2.v 5) (.int .i64 1)).bind fun t37 =>
  some ⟨.normal,[r2.v 0,r2.v 1,r2.v 2,r2.v 3,r2.v 4,t37],r2.h,(r2.c+1),r2.df⟩)
  (none))
 (some ⟨(.exit 0),[t2,t3,t4,t18,t19,t20],h,(c+1),df⟩)
theorem Z5j (o:Orc H) (rd:Option Nat) (t2 t3 t4 t18 t19 t20:Value) (h:H) (c:Nat) (df:List Nat):jx P o 90 rd Z3z (Z0h [2,3,4,18,19,20] [t2,t3,t4,t18,t19,t20]) h c df (Klp [2,3,4,18,19,20])=Z4C o rd t2 t3 t4 t18 t19 t20 h c df:=by kernel_rfl
noncomputable def Z4A (o:Orc H) (rd:Option Nat) (t2 t3 t4 t39 t40 t41:Value) (h:H) (c:Nat) (df:List Nat):Option (Rt H) :=
 (Z00 P .lss 3 t41 t40).bind fun t42 =>
 Z09 t42
 ((ixS 1 t39 t41).bind fun t43 =>
 (ld1 h t43).bind fun t44 =>
 (Z03 t4 1).bind fun t45 =>
 (ld1 h t45).bind fun t46 =>
 (gd t46 false h (c+1+1+1) (some t44)).bind fun r0 =>
 (Z0C t46 (.bool true) r0.1).bind fun t49 =>
 (Z03 t4 1).bind fun t50 =>
 (stN r0.2.1 1 t50 t49).bind fun h2 =>
 (Z00 P .add 3 t41 (.int .i64 1)).bind fun t51 =>
 some ⟨.normal,[t2,t3,t4,t39,t40,t51],h2,(r0.2.2+1),df⟩)
 (some ⟨(.exit 4),[t2,t3,t4,t39,t40,t41],h,(c+1),df⟩)
theorem Z5h (o:Orc H) (rd:Option Nat) (t2 t3 t4 t39 t40 t41:Value) (h:H) (c:Nat) (df:List Nat):jx P o 90 rd Z3x (Z0h [2,3,4,39,40,41] [t2,t3,t4,t39,t40,t41]) h c df (Klp [2,3,4,39,40,41])=Z4A o rd t2 t3 t4 t39 t40 t41 h c df:=by kernel_rfl
noncomputable def Z2v (o:Orc H) (rd:Option Nat) (t2 t4 t53 t54 t55:Value) (h:H) (c:Nat) (df:List Nat):Option (Rt H) :=
 (Z00 P .lss 3 t55 t54).bind fun t56 =>
 Z09 t56
 ((ixS 6 t53 t55).bind fun t57 =>
 (ldN h 6 t57).bind fun t58 =>
 (stN (newB h (256*(c+1)+2) [(.int .i64 0),(.int .i64 0),(.int .i64 0),(.int .i64 0),(.bool false),(.bool false)]) 6 (ptrTo (256*(c+1)+2)) t58).bind fun h1 =>
 (Z03 (ptrTo (256*(c+1)+2)) 4).bind fun t59 =>
 (ld1 h1 t59).bind fun t60 =>
 (gd t60 true h1 (c+1+1+1) (Z03 (ptrTo (256*(c+1)+2)) 3)).bind fun r2 =>
 (gd t60 true r2.2.1 r2.2.2 (ld1 r2.2.1 r2.1)).bind fun r3 =>
 (gd t60 true r3.2.1 r3.2.2 (Z00 P .eql 3 r3.1 (.int .i64 2))).bind fun r4 =>
 (Z0C t60 r4.1 (.bool false)).bind fun t65 =>
 (Z03 t4 2).bind fun t66 =>
 (ld1 r4.2.1 t66).bind fun t67 =>
 (gd t67 true r4.2.1 (r4.2.2+1) (some t65)).bind fun r5 =>
 (Z0C t67 r5.1 (.bool false)).bind fun t70 =>
 (Z03 t4 2).bind fun t71 =>
 (stN r5.2.1 1 t71 t70).bind fun h7 =>
 (Z03 t4 3).bind fun t72 =>
 (ld1 h7 t72).bind fun t73 =>
 (gd t73 true h7 (r5.2.2+1) (some t65)).bind fun r8 =>
 (gd t73 true r8.2.1 r8.2.2 (some r8.1)).bind fun r9 =>
 (gd r9.1 false r9.2.1 r9.2.2 (Z03 (ptrTo (256*(c+1)+2)) 4)).bind fun r10 =>
 (gd r9.1 false r10.2.1 r10.2.2 (ld1 r10.2.1 r10.1)).bind fun r11 =>
 (gd r9.1 false r11.2.1 r11.2.2 (Z2g .not r11.1)).bind fun r12 =>
 (gd r9.1 false r12.2.1 r12.2.2 (some r12.1)).bind fun r13 =>
 (gd r13.1 true r13.2.1 r13.2.2 (Z03 (ptrTo (256*(c+1)+2)) 3)).bind fun r14 =>
 (gd r13.1 true r14.2.1 r14.2.2 (ld1 r14.2.1 r14.1)).bind fun r15 =>
 (gd r13.1 true r15.2.1 r15.2.2 (Z00 P .eql 3 r15.1 (.int .i64 1))).bind fun r16 =>
 (gg r9.1 false r16.2.1 r16.2.2 (Zdz r16.2.1 r16.2.2 r13.1 r16.1 (.bool false))).bind fun r17 =>
 (gg t73 true r17.2.1 r17.2.2 (Zdz r17.2.1 r17.2.2 r9.1 (.bool true) r17.1)).bind fun r18 =>
 (Z0C t73 r18.1 (.bool false)).bind fun t86 =>
 (Z03 t4 3).bind fun t87 =>
 (stN r18.2.1 1 t87 t86).bind fun h20 =>
 (Z00 P .add 3 t55 (.int .i64 1)).bind fun t88 =>
 some ⟨.normal,[t2,t4,t53,t54,t88],h20,(r18.2.2+1),df⟩)
 (some ⟨(.exit 6),[t2,t4,t53,t54,t55],h,(c+1),df⟩)
theorem Z2a (o:Orc H) (rd:Option Nat) (t2 t4 t53 t54 t55:Value) (h:H) (c:Nat) (df:List Nat):jx P o 90 rd Z3w (Z0h [2,4,53,54,55] [t2,t4,t53,t54,t55]) h c df (Klp [2,4,53,54,55])=Z2v o rd t2 t4 t53 t54 t55 h c df:=by kernel_rfl
noncomputable def ZjR (o:Orc H) (t0:Value) (h:H) (c:Nat):Option (Rt H) :=
 (bif (t0:Value).cells.toList.all Z08 then
 (ldN (newB (newB h (256*c+0) (t0:Value).cells.toList) (256*c+1) [(.bool false),(.bool false),(.bool false),(.bool false)]) 1 (ptrTo (256*c+0))).bind fun t14 =>
 (callF o 39 [t14] (newB (newB h (256*c+0) (t0:Value).cells.toList) (256*c+1) [(.bool false),(.bool false),(.bool false),(.bool false)]) (c+1+1)).bind fun r0 =>
 (stN (newB r0.2.1 (256*(c+1)+2) [(.slice none 0 0),(.slice none 0 0),(.slice none 0 0),(.slice none 0 0),(.slice none 0 0),(.slice none 0 0)]) 6 (ptrTo (256*(c+1)+2)) r0.1).bind fun h2 =>
 (Z1K [(.bool false),(.bool false),(.bool false),(.bool false)] [(2,1,(.bool true)),(3,1,(.bool true))]).bind fun t16 =>
 (stN (newB h2 (256*r0.2.2+1) [(.bool false),(.bool false),(.bool false),(.bool false)]) 4 (ptrTo (256*r0.2.2+1)) t16).bind fun h4 =>
 (Z03 (ptrTo (256*c+0)) 0).bind fun t17 =>
 (ld1 h4 t17).bind fun t18 =>
 (Z1q t18).bind fun t19 =>
 (o (Zc0 none) [(ptrTo (256*c+1)),(ptrTo (256*(c+1)+2)),(ptrTo (256*r0.2.2+1)),t18,t19,(.int .i64 0)] h4 (r0.2.2+1+1) []).bind fun r5 =>
 cond (Z0r r5.e (.exit 0))
 ((Z03 (r5.v 1) 4).bind fun t38 =>
 (ld1 r5.h t38).bind fun t39 =>
 (Z1q t39).bind fun t40 =>
 (o (ZbY none) [r5.v 0,r5.v 1,r5.v 2,t39,t40,(.int .i64 0)] r5.h (r5.c+1) r5.df).bind fun r6 =>
 cond (Z0r r6.e (.exit 4))
  ((Z03 (r6.v 1) 5).bind fun t52 =>
  (ld1 r6.h t52).bind fun t53 =>
  (Z1q t53).bind fun t54 =>
  (o (Z91 none) [r6.v 0,r6.v 2,t53,t54,(.int .i64 0)] r6.h (r6.c+1) r6.df).bind fun r7 =>
  cond (Z0r r7.e (.exit 6))
   ((ldN r7.h 4 (r7.v 1)).bind fun t89 =>
   (stN r7.h 4 (r7.v 0) t89).bind fun h9 =>
   (Z0a h9 r7.df).bind fun h10 =>
   (ldN h10 4 (r7.v 0)).bind fun v11 =>
   some ⟨.ret,[v11],h10,(r7.c+1),[]⟩)
   (none))
  (none))
 (none)
 else none)
theorem ZgN (o:Orc H) (t0:Value) (h:H) (c:Nat):jx P o 90 none f42_c (Z0h (List.range 1) [t0]) h c [] (Kfn P Try.f42.results.toList)=ZjR o t0 h c:=by kernel_rfl
theorem f42_go {t0:Value} {h:FH} {c:Nat} {df:List Nat} {r:Rt FH} (e:ZjR G t0 h c=some r):G (.fn 42) [t0] h c df=some (gcR h c [] r):=Z0f (a:=ZeS) bk_42 rfl (fun args h c=>by cases args <;> rfl) rfl ((ZgN G t0 h c).trans e)
noncomputable def ZjQ (o:Orc H) (h:H) (c:Nat):Option (Rt H) :=
 (Z1K [(.int .i64 0),.nilFunc] [(0,1,(.int .i64 4)),(1,1,(.func (.func 69) #[] #[]))]).bind fun t1 =>
 (Z1K [(.int .i64 0),.nilFunc] [(0,1,(.int .i64 1)),(1,1,(.func (.func 70) #[] #[]))]).bind fun t2 =>
 (Z1K [(.int .i64 0),.nilFunc] [(0,1,(.int .i64 2)),(1,1,(.func (.func 71) #[] #[]))]).bind fun t3 =>
 (Z1K [(.int .i64 0),.nilFunc] [(0,1,(.int .i64 3)),(1,1,(.func (.func 72) #[] #[]))]).bind fun t4 =>
 (Z1K [(.int .i64 0),.nilFunc,(.int .i64 0),.nilFunc,(.int .i64 0),.nilFunc,(.int .i64 0),.nilFunc] [(0,2,t1),(2,2,t2),(4,2,t3),(6,2,t4)]).bind fun t5 =>
 (stN (newB h (256*c+0) [(.int .i64 0),.nilFunc,(.int .i64 0),.nilFunc,(.int .i64 0),.nilFunc,(.int .i64 0),.nilFunc]) 8 (ptrTo (256*c+0)) t5).bind fun h1 =>
 (ldN h1 8 (ptrTo (256*c+0))).bind fun v2 =>
 some ⟨.ret,[v2],h1,(c+1+1),[]⟩
theorem ZgM (o:Orc H) (h:H) (c:Nat):jx P o 6 none f43_c (Z0h (List.range 0) []) h c [] (Kfn P Try.f43.results.toList)=ZjQ o h c:=by kernel_rfl
theorem f43_go {h:FH} {c:Nat} {df:List Nat} {r:Rt FH} (e:ZjQ G h c=some r):G (.fn 43) [] h c df=some (gcR h c [] r):=Z0f (a:=ZeR) bk_43 rfl (fun args h c=>by cases args <;> rfl) rfl ((ZgM G h c).trans e)
noncomputable def Z1m (o:Orc H) (rd:Option Nat) (t1 t2 t3 t4:Value) (h:H) (c:Nat) (df:List Nat):Option (Rt H) :=
 (Z00 P .lss 3 t4 (.int .i64 4)).bind fun t6 =>
 Z09 t6
 ((ixA 4 1 t1 t4).bind fun t10 =>
 (ld1 h t10).bind fun t11 =>
 (Z00 P .lss 3 t11 (.int .i64 0)).bind fun t12 =>
 (gd t12 false h (c+1+1) (some t4)).bind fun r0 =>
 (gd t12 false r0.2.1 r0.2.2 (ixA 4 1 t1 r0.1)).bind fun r1 =>
 (gd t12 false r1.2.1 r1.2.2 (ld1 r1.2.1 r1.1)).bind fun r2 =>
 (gd t12 false r2.2.1 r2.2.2 (Z00 P .gtr 3 r2.1 (.int .i64 3))).bind fun r3 =>
 (Z0C t12 (.bool true) r3.1).bind fun t18 =>
 (gd t18 false r3.2.1 r3.2.2 (some t4)).bind fun r4 =>
 (gd t18 false r4.2.1 r4.2.2 (ixA 4 1 t1 r4.1)).bind fun r5 =>
 (gd t18 false r5.2.1 r5.2.2 (ld1 r5.2.1 r5.1)).bind fun r6 =>
 (gd t18 false r6.2.1 r6.2.2 (ixA 4 1 t3 r6.1)).bind fun r7 =>
 (gd t18 false r7.2.1 r7.2.2 (ld1 r7.2.1 r7.1)).bind fun r8 =>
 (Z0C t18 (.bool true) r8.1).bind fun t25 =>
 Z09 t25
  (some ⟨.ret,[t1,(.bool false),t3,t4],r8.2.1,(r8.2.2+1),df⟩)
  ((ixA 4 1 t1 t4).bind fun t27 =>
  (ld1 r8.2.1 t27).bind fun t28 =>
  (ixA 4 1 t3 t28).bind fun t29 =>
  (stN r8.2.1 1 t29 (.bool true)).bind fun h11 =>
  (Z00 P .add 3 t4 (.int .i64 1)).bind fun t8 =>
  some ⟨.normal,[t1,t2,t3,t8],h11,(r8.2.2+1+1),df⟩))
 (some ⟨(.exit 0),[t1,t2,t3,t4],h,(c+1),df⟩)
theorem Z5g (o:Orc H) (rd:Option Nat) (t1 t2 t3 t4:Value) (h:H) (c:Nat) (df:List Nat):jx P o 30 rd Z3v (Z0h [1,2,3,4] [t1,t2,t3,t4]) h c df (Klp [1,2,3,4])=Z1m o rd t1 t2 t3 t4 h c df:=by kernel_rfl
noncomputable def ZjP (o:Orc H) (t0:Value) (h:H) (c:Nat):Option (Rt H) :=
 (bif (t0:Value).cells.toList.all Z08 then
 (o (Z4z none) [(ptrTo (256*c+0)),(.bool false),(ptrTo (256*(c+1)+0)),(.int .i64 0)] (newB (newB h (256*c+0) (t0:Value).cells.toList) (256*(c+1)+0) [(.bool false),(.bool false),(.bool false),(.bool false)]) (c+1+1+1) []).bind fun r0 =>
 cond (Z0r r0.e (.exit 0))
 ((Z0a r0.h r0.df).bind fun h2 =>
 some ⟨.ret,[(.bool true)],h2,(r0.c+1),[]⟩)
 (cond (Z0r r0.e .ret)
  ((Z0a r0.h r0.df).bind fun h1 =>
  some ⟨.ret,[r0.v 1],h1,r0.c,[]⟩)
  (none))
 else none)
theorem ZgL (o:Orc H) (t0:Value) (h:H) (c:Nat):jx P o 30 none f44_c (Z0h (List.range 1) [t0]) h c [] (Kfn P Try.f44.results.toList)=ZjP o t0 h c:=by kernel_rfl
theorem f44_go {t0:Value} {h:FH} {c:Nat} {df:List Nat} {r:Rt FH} (e:ZjP G t0 h c=some r):G (.fn 44) [t0] h c df=some (gcR h c [] r):=Z0f (a:=ZeQ) bk_44 rfl (fun args h c=>by cases args <;> rfl) rfl ((ZgL G t0 h c).trans e)
theorem Zi5 {rd:Option Nat} {t1 t2 t3 t4:Value} {h:FH} {c:Nat} {df:List Nat} {q r:Rt FH} (e:Z1m G rd t1 t2 t3 t4 h c df=some q) (hq:q.e = .normal) (k:G (Z4z rd) q.vs (gcR h c df q).h (gcR h c df q).c q.df=some r):G (Z4z rd) [t1,t2,t3,t4] h c df=some r:=Z0U ((Z5g G rd t1 t2 t3 t4 h c df).trans e) hq k
theorem Z66 {rd:Option Nat} {t1 t2 t3 t4:Value} {h:FH} {c:Nat} {df:List Nat} {q:Rt FH} (e:Z1m G rd t1 t2 t3 t4 h c df=some q) (hq:q.e ≠ .normal):G (Z4z rd) [t1,t2,t3,t4] h c df=some (gcR h c df q):=Z0V ((Z5g G rd t1 t2 t3 t4 h c df).trans e) hq

variable {H:Type} [HeapC H]
noncomputable def Z2u (o:Orc H) (rd:Option Nat) (t1 t2 t3 t4:Value) (h:H) (c:Nat) (df:List Nat):Option (Rt H) :=
 (Z00 P .lss 3 t4 (.int .i64 4)).bind fun t10 =>
 Z09 t10
 ((ixA 4 1 t1 t4).bind fun t14 =>
 (ld1 h t14).bind fun t15 =>
 (ixA 4 1 t3 t15).bind fun t17 =>
 (stN h 1 t17 t4).bind fun h1 =>
 (Z00 P .add 3 t4 (.int .i64 1)).bind fun t12 =>
 some ⟨.normal,[t1,t2,t3,t12],h1,(c+1+1+1),df⟩)
 (some ⟨(.exit 0),[t1,t2,t3,t4],h,(c+1),df⟩)
theorem Z5f (o:Orc H) (rd:Option Nat) (t1 t2 t3 t4:Value) (h:H) (c:Nat) (df:List Nat):jx P o 19 rd Z3u (Z0h [1,2,3,4] [t1,t2,t3,t4]) h c df (Klp [1,2,3,4])=Z2u o rd t1 t2 t3 t4 h c df:=by kernel_rfl
noncomputable def ZjO (o:Orc H) (t0:Value) (h:H) (c:Nat):Option (Rt H) :=
 (bif (t0:Value).cells.toList.all Z08 then
 (ldN (newB (newB (newB h (256*c+0) (t0:Value).cells.toList) (256*c+1) [(.int .i64 0),(.int .i64 0),(.int .i64 0),(.int .i64 0)]) (256*(c+1)+0) [(.int .i64 0),(.int .i64 0),(.int .i64 0),(.int .i64 0)]) 4 (ptrTo (256*c+0))).bind fun t5 =>
 (callF o 44 [t5] (newB (newB (newB h (256*c+0) (t0:Value).cells.toList) (256*c+1) [(.int .i64 0),(.int .i64 0),(.int .i64 0),(.int .i64 0)]) (256*(c+1)+0) [(.int .i64 0),(.int .i64 0),(.int .i64 0),(.int .i64 0)]) (c+1+1+1)).bind fun r0 =>
 (Z2g .not r0.1).bind fun t7 =>
 Z09 t7
 ((ldN r0.2.1 4 (ptrTo (256*(c+1)+0))).bind fun t8 =>
 (stN r0.2.1 4 (ptrTo (256*c+1)) t8).bind fun h2 =>
 (ldN h2 4 (ptrTo (256*c+1))).bind fun v3 =>
 some ⟨.ret,[v3],h2,(r0.2.2+1),[]⟩)
 ((o (Z4y none) [(ptrTo (256*c+0)),(ptrTo (256*c+1)),(ptrTo (256*(c+1)+0)),(.int .i64 0)] r0.2.1 (r0.2.2+1) []).bind fun r4 =>
 cond (Z0r r4.e (.exit 0))
  ((ldN r4.h 4 (r4.v 2)).bind fun t18 =>
  (stN r4.h 4 (r4.v 1) t18).bind fun h6 =>
  (Z0a h6 r4.df).bind fun h7 =>
  (ldN h7 4 (r4.v 1)).bind fun v8 =>
  some ⟨.ret,[v8],h7,(r4.c+1),[]⟩)
  (none))
 else none)
theorem ZgK (o:Orc H) (t0:Value) (h:H) (c:Nat):jx P o 19 none f45_c (Z0h (List.range 1) [t0]) h c [] (Kfn P Try.f45.results.toList)=ZjO o t0 h c:=by kernel_rfl
theorem f45_go {t0:Value} {h:FH} {c:Nat} {df:List Nat} {r:Rt FH} (e:ZjO G t0 h c=some r):G (.fn 45) [t0] h c df=some (gcR h c [] r):=Z0f (a:=ZeP) bk_45 rfl (fun args h c=>by cases args <;> rfl) rfl ((ZgK G t0 h c).trans e)
theorem Zi4 {rd:Option Nat} {t1 t2 t3 t4:Value} {h:FH} {c:Nat} {df:List Nat} {q r:Rt FH} (e:Z2u G rd t1 t2 t3 t4 h c df=some q) (hq:q.e = .normal) (k:G (Z4y rd) q.vs (gcR h c df q).h (gcR h c df q).c q.df=some r):G (Z4y rd) [t1,t2,t3,t4] h c df=some r:=Z0U ((Z5f G rd t1 t2 t3 t4 h c df).trans e) hq k
theorem Zi3 {rd:Option Nat} {t1 t2 t3 t4:Value} {h:FH} {c:Nat} {df:List Nat} {q:Rt FH} (e:Z2u G rd t1 t2 t3 t4 h c df=some q) (hq:q.e ≠ .normal):G (Z4y rd) [t1,t2,t3,t4] h c df=some (gcR h c df q):=Z0V ((Z5f G rd t1 t2 t3 t4 h c df).trans e) hq
noncomputable def Z8Z (o:Orc H) (rd:Option Nat) (t1 t3 t4 t5:Value) (h:H) (c:Nat) (df:List Nat):Option (Rt H) :=
 (Z00 P .lss 3 t5 t4).bind fun t15 =>
 Z09 t15
 ((ixA 4 1 t1 t5).bind fun t19 =>
 (ld1 h t19).bind fun t20 =>
 (ixA 4 1 t1 t4).bind fun t22 =>
 (ld1 h t22).bind fun t23 =>
 (Z00 P .gtr 3 t20 t23).bind fun t24 =>
 (Z09 t24
  ((Z2g .neg t3).bind fun t26 =>
  some ⟨.normal,[t1,t26,t4,t5],h,(c+1+1+1),df⟩)
  (some ⟨.normal,[t1,t3,t4,t5],h,(c+1+1),df⟩):Option (Rt H)).bind fun r1 =>
 cond (Z0r r1.e .normal)
  ((Z00 P .add 3 (r1.v 3) (.int .i64 1)).bind fun t17 =>
  some ⟨.normal,[r1.v 0,r1.v 1,r1.v 2,t17],r1.h,(r1.c+1),r1.df⟩)
  (none))
 (some ⟨(.exit 2),[t1,t3,t4,t5],h,(c+1),df⟩)
theorem Z7o (o:Orc H) (rd:Option Nat) (t1 t3 t4 t5:Value) (h:H) (c:Nat) (df:List Nat):jx P o 28 rd Z8X (Z0h [1,3,4,5] [t1,t3,t4,t5]) h c df (Klp [1,3,4,5])=Z8Z o rd t1 t3 t4 t5 h c df:=by kernel_rfl
noncomputable def Z90 (o:Orc H) (rd:Option Nat) (t1 t3 t4:Value) (h:H) (c:Nat) (df:List Nat):Option (Rt H) :=
 (Z00 P .lss 3 t4 (.int .i64 4)).bind fun t10 =>
 Z09 t10
 ((o (ZbW rd) [t1,t3,t4,(.int .i64 0)] h (c+1+1) df).bind fun r0 =>
 cond (Z0r r0.e (.exit 2))
  ((Z00 P .add 3 (r0.v 2) (.int .i64 1)).bind fun t12 =>
  some ⟨.normal,[r0.v 0,r0.v 1,t12],r0.h,(r0.c+1),r0.df⟩)
  (none))
 (some ⟨(.exit 0),[t1,t3,t4],h,(c+1),df⟩)
theorem Z7p (o:Orc H) (rd:Option Nat) (t1 t3 t4:Value) (h:H) (c:Nat) (df:List Nat):jx P o 28 rd Z8Y (Z0h [1,3,4] [t1,t3,t4]) h c df (Klp [1,3,4])=Z90 o rd t1 t3 t4 h c df:=by kernel_rfl
noncomputable def Zq4 (o:Orc H) (t0:Value) (h:H) (c:Nat):Option (Rt H) :=
 (bif (t0:Value).cells.toList.all Z08 then
 (ldN (newB h (256*c+0) (t0:Value).cells.toList) 4 (ptrTo (256*c+0))).bind fun t6 =>
 (callF o 44 [t6] (newB h (256*c+0) (t0:Value).cells.toList) (c+1+1)).bind fun r0 =>
 (Z2g .not r0.1).bind fun t8 =>
 Z09 t8
 (some ⟨.ret,[(.int .i64 0)],r0.2.1,(r0.2.2+1),[]⟩)
 ((o (ZbX none) [(ptrTo (256*c+0)),(.int .i64 1),(.int .i64 0)] r0.2.1 (r0.2.2+1+1) []).bind fun r1 =>
 cond (Z0r r1.e (.exit 0))
  ((Z0a r1.h r1.df).bind fun h2 =>
  some ⟨.ret,[r1.v 1],h2,(r1.c+1),[]⟩)
  (none))
 else none)
theorem Znr (o:Orc H) (t0:Value) (h:H) (c:Nat):jx P o 28 none f49_c (Z0h (List.range 1) [t0]) h c [] (Kfn P Try.f49.results.toList)=Zq4 o t0 h c:=by kernel_rfl
theorem f49_go {t0:Value} {h:FH} {c:Nat} {df:List Nat} {r:Rt FH} (e:Zq4 G t0 h c=some r):G (.fn 49) [t0] h c df=some (gcR h c [] r):=Z0f (a:=Znq) bk_49 rfl (fun args h c=>by cases args <;> rfl) rfl ((Znr G t0 h c).trans e)
noncomputable def Z8V (o:Orc H) (rd:Option Nat) (t1 t2 t3 t4 t5 t6 t8 t10 t11 t12 t13 t14 t15 t45 t46:Value) (h:H) (c:Nat) (df:List Nat):Option (Rt H) :=
 (Z00 P .lss 3 t15 (.int .i64 4)).bind fun t50 =>
 Z09 t50
 ((Z00 P .mul 3 (.int .i64 4) t11).bind fun t56 =>
 (Z00 P .add 3 t56 t15).bind fun t58 =>
 (ixS 1 t4 t58).bind fun t59 =>
 (ld1 h t59).bind fun t60 =>
 (ixA 4 1 t12 t15).bind fun t61 =>
 (stN h 1 t61 t60).bind fun h1 =>
 (Z00 P .mul 3 (.int .i64 4) t11).bind fun t65 =>
 (Z00 P .add 3 t65 t15).bind fun t67 =>
 (ixS 1 t8 t67).bind fun t68 =>
 (ld1 h1 t68).bind fun t69 =>
 (ixA 4 1 t13 t15).bind fun t70 =>
 (stN h1 1 t70 t69).bind fun h3 =>
 (Z00 P .add 3 t15 (.int .i64 1)).bind fun t52 =>
 some ⟨.normal,[t1,t2,t3,t4,t5,t6,t8,t10,t11,t12,t13,t14,t52,t45,t46],h3,(c+1+1+1+1),df⟩)
 (some ⟨(.exit 2),[t1,t2,t3,t4,t5,t6,t8,t10,t11,t12,t13,t14,t15,t45,t46],h,(c+1),df⟩)
theorem Z7l (o:Orc H) (rd:Option Nat) (t1 t2 t3 t4 t5 t6 t8 t10 t11 t12 t13 t14 t15 t45 t46:Value) (h:H) (c:Nat) (df:List Nat):jx P o 160 rd Z8S (Z0h [1,2,3,4,5,6,8,10,11,12,13,14,15,45,46] [t1,t2,t3,t4,t5,t6,t8,t10,t11,t12,t13,t14,t15,t45,t46]) h c df (Klp [1,2,3,4,5,6,8,10,11,12,13,14,15,45,46])=Z8V o rd t1 t2 t3 t4 t5 t6 t8 t10 t11 t12 t13 t14 t15 t45 t46 h c df:=by kernel_rfl
noncomputable def Z65 (o:Orc H) (rd:Option Nat) (t1 t2 t3 t4 t5 t6 t8 t10 t11 t12 t13 t14 t16 t45 t46:Value) (h:H) (c:Nat) (df:List Nat):Option (Rt H) :=
 (Z00 P .lss 3 t16 (.int .i64 6)).bind fun t72 =>
 Z09 t72
 ((Z00 P .mul 3 (.int .i64 6) t11).bind fun t78 =>
 (Z00 P .add 3 t78 t16).bind fun t80 =>
 (ixS 1 t6 t80).bind fun t81 =>
 (ld1 h t81).bind fun t82 =>
 (ixA 6 1 t14 t16).bind fun t83 =>
 (stN h 1 t83 t82).bind fun h1 =>
 (callF o 24 [t16] h1 (c+1+1+1)).bind fun r2 =>
 (Z19 r2.1 0).bind fun t87 =>
 (Z19 r2.1 1).bind fun t88 =>
 (Z03 t3 3).bind fun t89 =>
 (ld1 r2.2.1 t89).bind fun t90 =>
 (ixA 6 1 t14 t16).bind fun t92 =>
 (ld1 r2.2.1 t92).bind fun t93 =>
 (ixS 1 t90 t93).bind fun t94 =>
 (ld1 r2.2.1 t94).bind fun t95 =>
 (Z00 P .add 3 t95 (.int .i64 1)).bind fun t96 =>
 (ixS 1 t90 t93).bind fun t97 =>
 (stN r2.2.1 1 t97 t96).bind fun h4 =>
 (Z00 P .mul 3 (.int .i64 16) t11).bind fun t100 =>
 (Z00 P .mul 3 (.int .i64 4) t87).bind fun t102 =>
 (Z00 P .add 3 t100 t102).bind fun t103 =>
 (Z00 P .add 3 t103 t88).bind fun t105 =>
 (ixS 1 t10 t105).bind fun t106 =>
 (ld1 h4 t106).bind fun t107 =>
 (Z00 P .mul 3 (.int .i64 16) t11).bind fun t110 =>
 (Z00 P .mul 3 (.int .i64 4) t88).bind fun t112 =>
 (Z00 P .add 3 t110 t112).bind fun t113 =>
 (Z00 P .add 3 t113 t87).bind fun t115 =>
 (ixS 1 t10 t115).bind fun t116 =>
 (ld1 h4 t116).bind fun t117 =>
 (Z00 P .eql 3 t107 t117).bind fun t118 =>
 (Z09 t118
  ((Z03 t3 4).bind fun t119 =>
  (ld1 h4 t119).bind fun t120 =>
  (ixA 6 1 t14 t16).bind fun t122 =>
  (ld1 h4 t122).bind fun t123 =>
  (ixS 1 t120 t123).bind fun t124 =>
  (stN h4 1 t124 (.bool true)).bind fun h6 =>
  some ⟨.normal,[t1,t2,t3,t4,t5,t6,t8,t10,t11,t12,t13,t14,t16,t45,t46],h6,(r2.2.2+1+1+1),df⟩)
  (some ⟨.normal,[t1,t2,t3,t4,t5,t6,t8,t10,t11,t12,t13,t14,t16,t45,t46],h4,(r2.2.2+1+1),df⟩):Option (Rt H)).bind fun r7 =>
 cond (Z0r r7.e .normal)
  ((Z00 P .add 3 (r7.v 12) (.int .i64 1)).bind fun t74 =>
  some ⟨.normal,[r7.v 0,r7.v 1,r7.v 2,r7.v 3,r7.v 4,r7.v 5,r7.v 6,r7.v 7,r7.v 8,r7.v 9,r7.v 10,r7.v 11,t74,r7.v 13,r7.v 14],r7.h,(r7.c+1),r7.df⟩)
  (none))
 (some ⟨(.exit 4),[t1,t2,t3,t4,t5,t6,t8,t10,t11,t12,t13,t14,t16,t45,t46],h,(c+1),df⟩)
theorem Z5e (o:Orc H) (rd:Option Nat) (t1 t2 t3 t4 t5 t6 t8 t10 t11 t12 t13 t14 t16 t45 t46:Value) (h:H) (c:Nat) (df:List Nat):jx P o 160 rd Z8R (Z0h [1,2,3,4,5,6,8,10,11,12,13,14,16,45,46] [t1,t2,t3,t4,t5,t6,t8,t10,t11,t12,t13,t14,t16,t45,t46]) h c df (Klp [1,2,3,4,5,6,8,10,11,12,13,14,16,45,46])=Z65 o rd t1 t2 t3 t4 t5 t6 t8 t10 t11 t12 t13 t14 t16 t45 t46 h c df:=by kernel_rfl
noncomputable def Z8W (o:Orc H) (rd:Option Nat) (t1 t2 t3 t4 t5 t6 t8 t10 t45 t46:Value) (h:H) (c:Nat) (df:List Nat):Option (Rt H) :=
 (Z00 P .lss 3 t46 t45).bind fun t47 =>
 Z09 t47
 ((o (ZbU rd) [t1,t2,t3,t4,t5,t6,t8,t10,t46,(ptrTo (256*(c+1+1)+0)),(ptrTo (256*(c+1+1)+1)),(ptrTo (256*(c+1+1+1)+0)),(.int .i64 0),t45,t46] (newB (newB (newB h (256*(c+1+1)+0) [(.int .i64 0),(.int .i64 0),(.int .i64 0),(.int .i64 0)]) (256*(c+1+1)+1) [(.int .i64 0),(.int .i64 0),(.int .i64 0),(.int .i64 0)]) (256*(c+1+1+1)+0) [(.int .i64 0),(.int .i64 0),(.int .i64 0),(.int .i64 0),(.int .i64 0),(.int .i64 0)]) (c+1+1+1+1+1) df).bind fun r0 =>
 cond (Z0r r0.e (.exit 2))
  ((o (ZbT rd) [r0.v 0,r0.v 1,r0.v 2,r0.v 3,r0.v 4,r0.v 5,r0.v 6,r0.v 7,r0.v 8,r0.v 9,r0.v 10,r0.v 11,(.int .i64 0),r0.v 13,r0.v 14] r0.h (r0.c+1) r0.df).bind fun r1 =>
  cond (Z0r r1.e (.exit 4))
   ((Z03 (r1.v 2) 0).bind fun t125 =>
   (ld1 r1.h t125).bind fun t126 =>
   (ldN r1.h 4 (r1.v 9)).bind fun t127 =>
   (Z9D [(.int .i64 0),(.int .i64 0),(.int .i64 0),(.int .i64 0)] [(0,4,t127)]).bind fun r2 =>
   (Z5D (newB r1.h (256*r1.c+3) r2) (256*r1.c+4) 4 32 t126 (.slice (some ⟨(256*r1.c+3),0,none⟩) 1 1)).bind fun r3 =>
   (Z03 (r1.v 2) 0).bind fun t130 =>
   (stN r3.2 1 t130 r3.1).bind fun h5 =>
   (Z03 (r1.v 2) 1).bind fun t131 =>
   (ld1 h5 t131).bind fun t132 =>
   (ldN h5 6 (r1.v 11)).bind fun t133 =>
   (Z9D [(.int .i64 0),(.int .i64 0),(.int .i64 0),(.int .i64 0),(.int .i64 0),(.int .i64 0)] [(0,6,t133)]).bind fun r6 =>
   (Z5D (newB h5 (256*(r1.c+1)+3) r6) (256*(r1.c+1)+4) 6 48 t132 (.slice (some ⟨(256*(r1.c+1)+3),0,none⟩) 1 1)).bind fun r7 =>
   (Z03 (r1.v 2) 1).bind fun t136 =>
   (stN r7.2 1 t136 r7.1).bind fun h9 =>
   (Z03 (r1.v 2) 2).bind fun t137 =>
   (ld1 h9 t137).bind fun t138 =>
   (ldN h9 4 (r1.v 10)).bind fun t139 =>
   (Z9D [(.int .i64 0),(.int .i64 0),(.int .i64 0),(.int .i64 0)] [(0,4,t139)]).bind fun r10 =>
   (Z5D (newB h9 (256*(r1.c+1+1)+3) r10) (256*(r1.c+1+1)+4) 4 32 t138 (.slice (some ⟨(256*(r1.c+1+1)+3),0,none⟩) 1 1)).bind fun r11 =>
   (Z03 (r1.v 2) 2).bind fun t142 =>
   (stN r11.2 1 t142 r11.1).bind fun h13 =>
   (Z00 P .add 3 (r1.v 14) (.int .i64 1)).bind fun t143 =>
   some ⟨.normal,[r1.v 0,r1.v 1,r1.v 2,r1.v 3,r1.v 4,r1.v 5,r1.v 6,r1.v 7,r1.v 13,t143],h13,(r1.c+1+1+1+1),r1.df⟩)
   (none))
  (none))
 (some ⟨(.exit 0),[t1,t2,t3,t4,t5,t6,t8,t10,t45,t46],h,(c+1),df⟩)
theorem Z7m (o:Orc H) (rd:Option Nat) (t1 t2 t3 t4 t5 t6 t8 t10 t45 t46:Value) (h:H) (c:Nat) (df:List Nat):jx P o 160 rd Z8T (Z0h [1,2,3,4,5,6,8,10,45,46] [t1,t2,t3,t4,t5,t6,t8,t10,t45,t46]) h c df (Klp [1,2,3,4,5,6,8,10,45,46])=Z8W o rd t1 t2 t3 t4 t5 t6 t8 t10 t45 t46 h c df:=by kernel_rfl
noncomputable def Z8U (o:Orc H) (rd:Option Nat) (t1 t2 t3 t4 t5 t10 t19:Value) (h:H) (c:Nat) (df:List Nat):Option (Rt H) :=
 (Z00 P .lss 3 t19 t5).bind fun t146 =>
 Z09 t146
 ((Z03 t3 5).bind fun t149 =>
 (ld1 h t149).bind fun t150 =>
 (ldN h 1 t1).bind fun t151 =>
 (callF o 76 [t151,t4,t10,t19] h (c+1+1)).bind fun r0 =>
 (Z9D [(.int .i64 0),(.int .i64 0),(.int .i64 0),(.int .i64 0),(.bool false),(.bool false)] [(0,6,r0.1)]).bind fun r1 =>
 (Z5D (newB r0.2.1 (256*(c+1)+7) r1) (256*(c+1)+8) 6 40 t150 (.slice (some ⟨(256*(c+1)+7),0,none⟩) 1 1)).bind fun r2 =>
 (Z03 t3 5).bind fun t158 =>
 (stN r2.2 1 t158 r2.1).bind fun h4 =>
 (bif (Z1y (Z2O t149) h r0.2.1 && true) then
 (Z00 P .add 3 t19 (.int .i64 1)).bind fun t148 =>
 some ⟨.normal,[t1,t2,t3,t4,t5,t10,t148],h4,(r0.2.2+1),df⟩
 else none))
 (some ⟨(.exit 6),[t1,t2,t3,t4,t5,t10,t19],h,(c+1),df⟩)
theorem Z7k (o:Orc H) (rd:Option Nat) (t1 t2 t3 t4 t5 t10 t19:Value) (h:H) (c:Nat) (df:List Nat):jx P o 160 rd Z8Q (Z0h [1,2,3,4,5,10,19] [t1,t2,t3,t4,t5,t10,t19]) h c df (Klp [1,2,3,4,5,10,19])=Z8U o rd t1 t2 t3 t4 t5 t10 t19 h c df:=by kernel_rfl
noncomputable def Zq3 (o:Orc H) (t0:Value) (h:H) (c:Nat):Option (Rt H) :=
 (bif (t0:Value).cells.toList.all Z08 then
 (ldN (newB (newB (newB h (256*c+0) (t0:Value).cells.toList) (256*c+1) [(.slice none 0 0),(.slice none 0 0),(.slice none 0 0),(.slice none 0 0),(.slice none 0 0),(.slice none 0 0)]) (256*(c+1)+0) [(.slice none 0 0),(.slice none 0 0),(.slice none 0 0),(.slice none 0 0),(.slice none 0 0),(.slice none 0 0)]) 1 (ptrTo (256*c+0))).bind fun t21 =>
 (callF o 59 [t21] (newB (newB (newB h (256*c+0) (t0:Value).cells.toList) (256*c+1) [(.slice none 0 0),(.slice none 0 0),(.slice none 0 0),(.slice none 0 0),(.slice none 0 0),(.slice none 0 0)]) (256*(c+1)+0) [(.slice none 0 0),(.slice none 0 0),(.slice none 0 0),(.slice none 0 0),(.slice none 0 0),(.slice none 0 0)]) (c+1+1+1)).bind fun r0 =>
 (Z19 r0.1 0).bind fun t23 =>
 (Z19 r0.1 1).bind fun t24 =>
 (ldN r0.2.1 1 (ptrTo (256*c+0))).bind fun t26 =>
 (callF o 73 [t26] r0.2.1 (r0.2.2+1)).bind fun r1 =>
 (Z19 r1.1 0).bind fun t28 =>
 (Z19 r1.1 1).bind fun t29 =>
 (ldN r1.2.1 1 (ptrTo (256*c+0))).bind fun t31 =>
 (callF o 74 [t31] r1.2.1 (r1.2.2+1)).bind fun r2 =>
 (Z19 r2.1 0).bind fun t33 =>
 (Z19 r2.1 1).bind fun t34 =>
 (ldN r2.2.1 1 (ptrTo (256*c+0))).bind fun t35 =>
 (callF o 75 [t35] r2.2.1 (r2.2.2+1)).bind fun r3 =>
 (mkS 1 8 [(.int .i64 0)] t29 t29).bind fun r4 =>
 (Z03 (ptrTo (256*(c+1)+0)) 3).bind fun t39 =>
 (stN (newB r3.2.1 (256*r3.2.2+1) r4.1) 1 t39 (.slice (some ⟨(256*r3.2.2+1),0,none⟩) r4.2.1 r4.2.2)).bind fun h6 =>
 (mkS 1 1 [(.bool false)] t29 t29).bind fun r7 =>
 (Z03 (ptrTo (256*(c+1)+0)) 4).bind fun t42 =>
 (stN (newB h6 (256*(r3.2.2+1)+1) r7.1) 1 t42 (.slice (some ⟨(256*(r3.2.2+1)+1),0,none⟩) r7.2.1 r7.2.2)).bind fun h9 =>
 (Z03 (ptrTo (256*c+0)) 0).bind fun t43 =>
 (ld1 h9 t43).bind fun t44 =>
 (Z1q t44).bind fun t45 =>
 (o (ZbV none) [(ptrTo (256*c+0)),(ptrTo (256*c+1)),(ptrTo (256*(c+1)+0)),t23,t24,t28,t33,r3.1,t45,(.int .i64 0)] h9 (r3.2.2+1+1+1) []).bind fun r10 =>
 cond (Z0r r10.e (.exit 0))
 ((o (ZbS none) [r10.v 0,r10.v 1,r10.v 2,r10.v 3,r10.v 4,r10.v 7,(.int .i64 0)] r10.h (r10.c+1) r10.df).bind fun r11 =>
 cond (Z0r r11.e (.exit 6))
  ((ldN r11.h 6 (r11.v 2)).bind fun t159 =>
  (stN r11.h 6 (r11.v 1) t159).bind fun h13 =>
  (Z0a h13 r11.df).bind fun h14 =>
  (ldN h14 6 (r11.v 1)).bind fun v15 =>
  some ⟨.ret,[v15],h14,(r11.c+1),[]⟩)
  (none))
 (none)
 else none)
theorem Znp (o:Orc H) (t0:Value) (h:H) (c:Nat):jx P o 160 none f51_c (Z0h (List.range 1) [t0]) h c [] (Kfn P Try.f51.results.toList)=Zq3 o t0 h c:=by kernel_rfl
theorem f51_go {t0:Value} {h:FH} {c:Nat} {df:List Nat} {r:Rt FH} (e:Zq3 G t0 h c=some r):G (.fn 51) [t0] h c df=some r:=Z0f (a:=Zno) bk_51 rfl (fun args h c=>by cases args <;> rfl) rfl ((Znp G t0 h c).trans e)
noncomputable def Z4x (o:Orc H) (rd:Option Nat) (t1 t2 t3 t4 t5 t15 t16 t17:Value) (h:H) (c:Nat) (df:List Nat):Option (Rt H) :=
 (Z00 P .lss 3 t17 t16).bind fun t18 =>
 Z09 t18
 ((ixS 6 t15 t17).bind fun t19 =>
 (ldN h 6 t19).bind fun t20 =>
 (stN (newB h (256*(c+1)+2) [(.int .i64 0),(.int .i64 0),(.int .i64 0),(.int .i64 0),(.bool false),(.bool false)]) 6 (ptrTo (256*(c+1)+2)) t20).bind fun h1 =>
 (Z03 (ptrTo (256*(c+1)+2)) 4).bind fun t21 =>
 (ld1 h1 t21).bind fun t22 =>
 (gd t22 true h1 (c+1+1+1) (Z03 (ptrTo (256*(c+1)+2)) 3)).bind fun r2 =>
 (gd t22 true r2.2.1 r2.2.2 (ld1 r2.2.1 r2.1)).bind fun r3 =>
 (gd t22 true r3.2.1 r3.2.2 (Z00 P .eql 3 r3.1 (.int .i64 2))).bind fun r4 =>
 (Z0C t22 r4.1 (.bool false)).bind fun t27 =>
 (gd t4 true r4.2.1 (r4.2.2+1) (some t27)).bind fun r5 =>
 (Z0C t4 r5.1 (.bool false)).bind fun t31 =>
 (gd t5 true r5.2.1 (r5.2.2+1) (some t27)).bind fun r7 =>
 (gd t5 true r7.2.1 r7.2.2 (some r7.1)).bind fun r8 =>
 (gd r8.1 false r8.2.1 r8.2.2 (Z03 (ptrTo (256*(c+1)+2)) 4)).bind fun r9 =>
 (gd r8.1 false r9.2.1 r9.2.2 (ld1 r9.2.1 r9.1)).bind fun r10 =>
 (gd r8.1 false r10.2.1 r10.2.2 (Z2g .not r10.1)).bind fun r11 =>
 (gd r8.1 false r11.2.1 r11.2.2 (some r11.1)).bind fun r12 =>
 (gd r12.1 true r12.2.1 r12.2.2 (Z03 (ptrTo (256*(c+1)+2)) 3)).bind fun r13 =>
 (gd r12.1 true r13.2.1 r13.2.2 (ld1 r13.2.1 r13.1)).bind fun r14 =>
 (gd r12.1 true r14.2.1 r14.2.2 (Z00 P .eql 3 r14.1 (.int .i64 1))).bind fun r15 =>
 (gg r8.1 false r15.2.1 r15.2.2 (Zdz r15.2.1 r15.2.2 r12.1 r15.1 (.bool false))).bind fun r16 =>
 (gg t5 true r16.2.1 r16.2.2 (Zdz r16.2.1 r16.2.2 r8.1 (.bool true) r16.1)).bind fun r17 =>
 (Z0C t5 r17.1 (.bool false)).bind fun t45 =>
 (Z00 P .add 3 t17 (.int .i64 1)).bind fun t46 =>
 some ⟨.normal,[t1,t2,t3,t31,t45,t15,t16,t46],r17.2.1,(r17.2.2+1),df⟩)
 (some ⟨(.exit 0),[t1,t2,t3,t4,t5,t15,t16,t17],h,(c+1),df⟩)
theorem Z2W (o:Orc H) (rd:Option Nat) (t1 t2 t3 t4 t5 t15 t16 t17:Value) (h:H) (c:Nat) (df:List Nat):jx P o 70 rd Z8O (Z0h [1,2,3,4,5,15,16,17] [t1,t2,t3,t4,t5,t15,t16,t17]) h c df (Klp [1,2,3,4,5,15,16,17])=Z4x o rd t1 t2 t3 t4 t5 t15 t16 t17 h c df:=by kernel_rfl
noncomputable def Z8P (o:Orc H) (rd:Option Nat) (t1 t2 t4 t5 t48 t49 t50:Value) (h:H) (c:Nat) (df:List Nat):Option (Rt H) :=
 (Z00 P .lss 3 t50 t49).bind fun t51 =>
 Z09 t51
 ((ixS 1 t48 t50).bind fun t52 =>
 (ld1 h t52).bind fun t53 =>
 Z09 t53
  (some ⟨.ret,[t1,(.int .i64 4),t4,t5,t48,t49,t50],h,(c+1+1+1+1),df⟩)
  ((Z00 P .add 3 t50 (.int .i64 1)).bind fun t55 =>
  some ⟨.normal,[t1,t2,t4,t5,t48,t49,t55],h,(c+1+1+1+1),df⟩))
 (some ⟨(.exit 2),[t1,t2,t4,t5,t48,t49,t50],h,(c+1),df⟩)
theorem Z7j (o:Orc H) (rd:Option Nat) (t1 t2 t4 t5 t48 t49 t50:Value) (h:H) (c:Nat) (df:List Nat):jx P o 70 rd Z8N (Z0h [1,2,4,5,48,49,50] [t1,t2,t4,t5,t48,t49,t50]) h c df (Klp [1,2,4,5,48,49,50])=Z8P o rd t1 t2 t4 t5 t48 t49 t50 h c df:=by kernel_rfl
noncomputable def Zq2 (o:Orc H) (t0:Value) (h:H) (c:Nat):Option (Rt H) :=
 (bif (t0:Value).cells.toList.all Z08 then
 (ldN (newB h (256*c+0) (t0:Value).cells.toList) 1 (ptrTo (256*c+0))).bind fun t12 =>
 (callF o 51 [t12] (newB h (256*c+0) (t0:Value).cells.toList) (c+1+1)).bind fun r0 =>
 (stN (newB r0.2.1 (256*(c+1)+2) [(.slice none 0 0),(.slice none 0 0),(.slice none 0 0),(.slice none 0 0),(.slice none 0 0),(.slice none 0 0)]) 6 (ptrTo (256*(c+1)+2)) r0.1).bind fun h2 =>
 (Z03 (ptrTo (256*(c+1)+2)) 5).bind fun t14 =>
 (ld1 h2 t14).bind fun t15 =>
 (Z1q t15).bind fun t16 =>
 (o (Z8M none) [(ptrTo (256*c+0)),(.int .i64 0),(ptrTo (256*(c+1)+2)),(.bool true),(.bool true),t15,t16,(.int .i64 0)] h2 (r0.2.2+1+1) []).bind fun r3 =>
 cond (Z0r r3.e (.exit 0))
 ((Z03 (r3.v 2) 4).bind fun t47 =>
 (ld1 r3.h t47).bind fun t48 =>
 (Z1q t48).bind fun t49 =>
 (o (ZbR none) [r3.v 0,r3.v 1,r3.v 3,r3.v 4,t48,t49,(.int .i64 0)] r3.h (r3.c+1) r3.df).bind fun r4 =>
 cond (Z0r r4.e (.exit 2))
  ((ldN r4.h 1 (r4.v 0)).bind fun t56 =>
  (callF o 77 [t56] r4.h (r4.c+1)).bind fun r6 =>
  (Z00 P .gtr 3 r6.1 (.int .i64 0)).bind fun t58 =>
  (Z2g .not t58).bind fun t61 =>
  (gd t61 true r6.2.1 (r6.2.2+1) (some (r4.v 2))).bind fun r7 =>
  (Z0C t61 r7.1 (.bool false)).bind fun t64 =>
  Z09 t64
   ((Z0a r7.2.1 r4.df).bind fun h8 =>
   some ⟨.ret,[(.int .i64 1)],h8,(r7.2.2+1),[]⟩)
   ((Z2g .not t58).bind fun t67 =>
   Z09 t67
    ((Z0a r7.2.1 r4.df).bind fun h9 =>
    some ⟨.ret,[(.int .i64 2)],h9,(r7.2.2+1+1),[]⟩)
    (Z09 (r4.v 3)
     ((Z0a r7.2.1 r4.df).bind fun h10 =>
     some ⟨.ret,[(.int .i64 3)],h10,(r7.2.2+1+1+1),[]⟩)
     ((Z0a r7.2.1 r4.df).bind fun h11 =>
     some ⟨.ret,[(.int .i64 4)],h11,(r7.2.2+1+1+1),[]⟩))))
  (cond (Z0r r4.e .ret)
   ((Z0a r4.h r4.df).bind fun h5 =>
   some ⟨.ret,[r4.v 1],h5,r4.c,[]⟩)
   (none)))
 (none)
 else none)
theorem Znn (o:Orc H) (t0:Value) (h:H) (c:Nat):jx P o 70 none f52_c (Z0h (List.range 1) [t0]) h c [] (Kfn P Try.f52.results.toList)=Zq2 o t0 h c:=by kernel_rfl
theorem f52_go {t0:Value} {h:FH} {c:Nat} {df:List Nat} {r:Rt FH} (e:Zq2 G t0 h c=some r):G (.fn 52) [t0] h c df=some (gcR h c [] r):=Z0f (a:=Znm) bk_52 rfl (fun args h c=>by cases args <;> rfl) rfl ((Znn G t0 h c).trans e)
noncomputable def Zq1 (o:Orc H) (t0:Value) (h:H) (c:Nat):Option (Rt H) :=
 (bif (t0:Value).cells.toList.all Z08 then
 (ldN (newB h (256*c+0) (t0:Value).cells.toList) 1 (ptrTo (256*c+0))).bind fun t10 =>
 (callF o 59 [t10] (newB h (256*c+0) (t0:Value).cells.toList) (c+1+1)).bind fun r0 =>
 (Z19 r0.1 0).bind fun t12 =>
 (Z19 r0.1 1).bind fun t13 =>
 (ldN r0.2.1 1 (ptrTo (256*c+0))).bind fun t15 =>
 (callF o 73 [t15] r0.2.1 (r0.2.2+1)).bind fun r1 =>
 (Z19 r1.1 0).bind fun t17 =>
 (Z19 r1.1 1).bind fun t18 =>
 (ldN r1.2.1 1 (ptrTo (256*c+0))).bind fun t20 =>
 (callF o 74 [t20] r1.2.1 (r1.2.2+1)).bind fun r2 =>
 (Z19 r2.1 0).bind fun t22 =>
 (Z19 r2.1 1).bind fun t23 =>
 (Z00 P .sub 3 t13 t18).bind fun t26 =>
 (Z00 P .add 3 t26 t23).bind fun t28 =>
 (Z03 (ptrTo (256*c+0)) 0).bind fun t29 =>
 (ld1 r2.2.1 t29).bind fun t30 =>
 (Z1q t30).bind fun t31 =>
 (Z00 P .sub 3 t28 t31).bind fun t32 =>
 some ⟨.ret,[t32],r2.2.1,(r2.2.2+1),[]⟩
 else none)
theorem Znl (o:Orc H) (t0:Value) (h:H) (c:Nat):jx P o 33 none f53_c (Z0h (List.range 1) [t0]) h c [] (Kfn P Try.f53.results.toList)=Zq1 o t0 h c:=by kernel_rfl
theorem f53_go {t0:Value} {h:FH} {c:Nat} {df:List Nat} {r:Rt FH} (e:Zq1 G t0 h c=some r):G (.fn 53) [t0] h c df=some (gcR h c [] r):=Z0f (a:=Znk) bk_53 rfl (fun args h c=>by cases args <;> rfl) rfl ((Znl G t0 h c).trans e)
noncomputable def ZjN (o:Orc H) (h:H) (c:Nat):Option (Rt H) :=
 (Z1K [(.int .i64 0),(.int .i64 0)] [(0,1,(.int .i64 0)),(1,1,(.int .i64 1))]).bind fun t1 =>
 (Z1K [(.int .i64 0),(.int .i64 0)] [(0,1,(.int .i64 0)),(1,1,(.int .i64 2))]).bind fun t2 =>
 (Z1K [(.int .i64 0),(.int .i64 0)] [(0,1,(.int .i64 0)),(1,1,(.int .i64 3))]).bind fun t3 =>
 (Z1K [(.int .i64 0),(.int .i64 0)] [(0,1,(.int .i64 1)),(1,1,(.int .i64 2))]).bind fun t4 =>
 (Z1K [(.int .i64 0),(.int .i64 0)] [(0,1,(.int .i64 1)),(1,1,(.int .i64 3))]).bind fun t5 =>
 (Z1K [(.int .i64 0),(.int .i64 0)] [(0,1,(.int .i64 2)),(1,1,(.int .i64 3))]).bind fun t6 =>
 (Z1K [(.int .i64 0),(.int .i64 0),(.int .i64 0),(.int .i64 0),(.int .i64 0),(.int .i64 0),(.int .i64 0),(.int .i64 0),(.int .i64 0),(.int .i64 0),(.int .i64 0),(.int .i64 0)] [(0,2,t1),(2,2,t2),(4,2,t3),(6,2,t4),(8,2,t5),(10,2,t6)]).bind fun t7 =>
 (stN (newB h (256*c+0) [(.int .i64 0),(.int .i64 0),(.int .i64 0),(.int .i64 0),(.int .i64 0),(.int .i64 0),(.int .i64 0),(.int .i64 0),(.int .i64 0),(.int .i64 0),(.int .i64 0),(.int .i64 0)]) 12 (ptrTo (256*c+0)) t7).bind fun h1 =>
 (ldN h1 12 (ptrTo (256*c+0))).bind fun v2 =>
 some ⟨.ret,[v2],h1,(c+1+1),[]⟩
theorem ZgJ (o:Orc H) (h:H) (c:Nat):jx P o 8 none f54_c (Z0h (List.range 0) []) h c [] (Kfn P Try.f54.results.toList)=ZjN o h c:=by kernel_rfl
theorem f54_go {h:FH} {c:Nat} {df:List Nat} {r:Rt FH} (e:ZjN G h c=some r):G (.fn 54) [] h c df=some (gcR h c [] r):=Z0f (a:=ZeO) bk_54 rfl (fun args h c=>by cases args <;> rfl) rfl ((ZgJ G h c).trans e)
noncomputable def Z8L (o:Orc H) (rd:Option Nat) (t0 t1 t4 t12 t13:Value) (h:H) (c:Nat) (df:List Nat):Option (Rt H) :=
 (Z00 P .lss 3 t13 t12).bind fun t14 =>
 Z09 t14
 ((ixS 6 t0 t13).bind fun t18 =>
 (ldN h 6 t18).bind fun t19 =>
 (ixS 6 t1 t13).bind fun t22 =>
 (ldN h 6 t22).bind fun t23 =>
 (Z00 P .neq 40 t19 t23).bind fun t24 =>
 Z09 t24
  (some ⟨.ret,[t0,t1,(.bool false),t12,t13],h,(c+1+1+1+1),df⟩)
  ((Z00 P .add 3 t13 (.int .i64 1)).bind fun t25 =>
  some ⟨.normal,[t0,t1,t4,t12,t25],h,(c+1+1+1+1),df⟩))
 (some ⟨(.exit 0),[t0,t1,t4,t12,t13],h,(c+1),df⟩)
theorem Z7i (o:Orc H) (rd:Option Nat) (t0 t1 t4 t12 t13:Value) (h:H) (c:Nat) (df:List Nat):jx P o 26 rd Z8K (Z0h [0,1,4,12,13] [t0,t1,t4,t12,t13]) h c df (Klp [0,1,4,12,13])=Z8L o rd t0 t1 t4 t12 t13 h c df:=by kernel_rfl
noncomputable def ZpZ (o:Orc H) (t0 t1:Value) (h:H) (c:Nat):Option (Rt H) :=
 (Z1q t0).bind fun t7 =>
 (Z1q t1).bind fun t9 =>
 (Z00 P .neq 3 t7 t9).bind fun t10 =>
 Z09 t10
 (some ⟨.ret,[(.bool false)],h,(c+1+1+1),[]⟩)
 ((Z1q t0).bind fun t12 =>
 (o (ZbQ none) [t0,t1,(.bool false),t12,(.int .i64 0)] h (c+1+1+1) []).bind fun r0 =>
 cond (Z0r r0.e (.exit 0))
  ((Z0a r0.h r0.df).bind fun h2 =>
  some ⟨.ret,[(.bool true)],h2,(r0.c+1),[]⟩)
  (cond (Z0r r0.e .ret)
   ((Z0a r0.h r0.df).bind fun h1 =>
   some ⟨.ret,[r0.v 2],h1,r0.c,[]⟩)
   (none)))
theorem Znj (o:Orc H) (t0 t1:Value) (h:H) (c:Nat):jx P o 26 none f55_c (Z0h (List.range 2) [t0,t1]) h c [] (Kfn P Try.f55.results.toList)=ZpZ o t0 t1 h c:=by kernel_rfl
theorem f55_go {t0 t1:Value} {h:FH} {c:Nat} {df:List Nat} {r:Rt FH} (e:ZpZ G t0 t1 h c=some r):G (.fn 55) [t0,t1] h c df=some (gcR h c [] r):=Z0f (a:=Zni) bk_55 rfl (fun args h c=>by cases args <;> rfl) rfl ((Znj G t0 t1 h c).trans e)
end Go.Proofs.Ytdodippbpdechaa
