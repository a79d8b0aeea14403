/- Parts of a proof: S3 S4. Conditions: none. -/
import Derived.Test.YtemkjcpfgmbibaaM9
set_option linter.all false
set_option maxRecDepth 100000
namespace Go.Proofs.Ytemkjcpfgmbibaa
open Go Go.Ab Go.Proofs
variable {H:Type} [HeapC H]
noncomputable def Z76 (o:Orc H) (rd:Option Nat) (t0 t3 t4:Value) (h:H) (c:Nat) (df:List Nat):Option (Rt H) :=
 (Z1f t0).bind fun t14 =>
 (Z00 P .lss 3 t4 t14).bind fun t15 =>
 Z09 t15
 ((ixS 1 t0 t4).bind fun t21 =>
 (ld1 h t21).bind fun t22 =>
 (Z6t max2 [t3,t22]).bind fun t23 =>
 (Z00 P .add 3 t4 (.int .i64 1)).bind fun t17 =>
 some ⟨.normal,[t0,t23,t17],h,(c+1+1+1),df⟩)
 (some ⟨(.exit 0),[t0,t3,t4],h,(c+1),df⟩)
theorem Zb8 (o:Orc H) (rd:Option Nat) (t0 t3 t4:Value) (h:H) (c:Nat) (df:List Nat):jx P o 25 rd Z3a (Z0g [0,3,4] [t0,t3,t4]) h c df (Klp [0,3,4])=Z76 o rd t0 t3 t4 h c df:=by kernel_rfl
noncomputable def Znr (o:Orc H) (t0:Value) (h:H) (c:Nat):Option (Rt H) :=
 (Z1f t0).bind fun t6 =>
 (Z00 P .lss 3 t6 (.int .i64 1)).bind fun t7 =>
 (Z09 t7
  ((none:Option Value).bind fun u0 =>
  some ⟨.normal,[t0],h,(c+1+1+1),[]⟩)
  (some ⟨.normal,[t0],h,(c+1+1),[]⟩):Option (Rt H)).bind fun r1 =>
 cond (Z0t r1.e .normal)
 ((ixS 1 (r1.v 0) (.int .i64 0)).bind fun t10 =>
 (ld1 r1.h t10).bind fun t11 =>
 (o (Zgg none) [r1.v 0,t11,(.int .i64 1)] r1.h (r1.c+1+1) r1.df).bind fun r2 =>
 cond (Z0t r2.e (.exit 0))
  ((Z07 r2.h r2.df).bind fun h3 =>
  some ⟨.ret,[r2.v 1],h3,(r2.c+1),[]⟩)
  (none))
 (none)
theorem Zl7 (o:Orc H) (t0:Value) (h:H) (c:Nat):jx P o 25 none f33_c (Z0g (List.range 1) [t0]) h c [] (Kfn P Try.f33.results.toList)=Znr o t0 h c:=by kernel_rfl
noncomputable def Znq (o:Orc H) (h:H) (c:Nat):Option (Rt H) :=
 some ⟨.ret,[(.func (.func 59) #[] #[])],h,(c+1+1),[]⟩
theorem Zl6 (o:Orc H) (h:H) (c:Nat):jx P o 1 none f34_c (Z0g (List.range 0) []) h c [] (Kfn P Try.f34.results.toList)=Znq o h c:=by kernel_rfl
noncomputable def Z74 (o:Orc H) (rd:Option Nat) (t4 t5 t8 t9 t10 t11 t12 t13 t14 t15 t53 t54:Value) (h:H) (c:Nat) (df:List Nat):Option (Rt H) :=
 (Z00 P .lss 3 t54 (.int .i64 4)).bind fun t55 =>
 Z09 t55
 (((ixV 4 true 5 t53 t54).bind fun t57 =>
  (stN (newB h (256*(c+1)+2) [(.int .i64 0),(.int .i64 0),(.int .i64 0),(.int .i64 0),(.int .i64 0)]) 5 (ptrTo (256*(c+1)+2)) t57).bind fun h1 =>
  (Z01 t4 0).bind fun t58 =>
  (ld1 h1 t58).bind fun t59 =>
  (Z01 t11 0).bind fun t60 =>
  (ld1 h1 t60).bind fun t61 =>
  (ixS 1 t61 t15).bind fun t63 =>
  (ld1 h1 t63).bind fun t64 =>
  (Z01 t11 1).bind fun t65 =>
  (ld1 h1 t65).bind fun t66 =>
  (ixS 4 t66 t15).bind fun t69 =>
  (ixA 4 1 t69 t54).bind fun t70 =>
  (ld1 h1 t70).bind fun t71 =>
  (ixS 20 t59 t64).bind fun t72 =>
  (ixA 4 5 t72 t71).bind fun t73 =>
  (ldN h1 5 t73).bind fun t74 =>
  (stN (newB h1 (256*(c+1+1)+17) [(.int .i64 0),(.int .i64 0),(.int .i64 0),(.int .i64 0),(.int .i64 0)]) 5 (ptrTo (256*(c+1+1)+17)) t74).bind fun h3 =>
  (Z01 (ptrTo (256*(c+1+1)+17)) 0).bind fun t75 =>
  (ld1 h3 t75).bind fun t76 =>
  (Z00 P .lss 3 t76 (.int .i64 0)).bind fun t77 =>
  (Z01 (ptrTo (256*(c+1)+2)) 0).bind fun t78 =>
  (ld1 h3 t78).bind fun t79 =>
  (Z00 P .lss 3 t79 (.int .i64 0)).bind fun t80 =>
  (Z00 P .neq 4 t77 t80).bind fun t81 =>
  Z09 t81
   ((Z1v [(.slice none 0 0),(.slice none 0 0)] []).bind fun t82 =>
   (stN h3 2 t8 t82).bind fun h5 =>
   some ⟨.ret,[t4,t5,t8,(.bool false),t10,t11,t12,t13,t14,t15,t53,t54],h5,(c+1+1+1+1+1),df⟩)
   ((Z01 (ptrTo (256*(c+1+1)+17)) 0).bind fun t83 =>
   (ld1 h3 t83).bind fun t84 =>
   (Z00 P .lss 3 t84 (.int .i64 0)).bind fun t85 =>
   Z09 t85
    (some ⟨.normal,[t4,t5,t8,t9,t10,t11,t12,t13,t14,t15,t53,t54],h3,(c+1+1+1+1+1),df⟩)
    ((Z01 (ptrTo (256*(c+1+1)+17)) 1).bind fun t86 =>
    (ldN h3 4 t86).bind fun t87 =>
    (Z01 t11 1).bind fun t88 =>
    (ld1 h3 t88).bind fun t89 =>
    (ixS 4 t89 t15).bind fun t91 =>
    (ldN h3 4 t91).bind fun t92 =>
    (callF o 61 [t87,t92] h3 (c+1+1+1+1+1+1)).bind fun r7 =>
    (Z01 (ptrTo (256*(c+1)+2)) 1).bind fun t94 =>
    (ldN r7.2.1 4 t94).bind fun t95 =>
    (callF o 62 [t95] r7.2.1 r7.2.2).bind fun r8 =>
    (callF o 61 [r7.1,r8.1] r8.2.1 r8.2.2).bind fun r9 =>
    (stN (newB r9.2.1 (256*(c+1+1+1+1+1)+12) [(.int .i64 0),(.int .i64 0),(.int .i64 0),(.int .i64 0)]) 4 (ptrTo (256*(c+1+1+1+1+1)+12)) r9.1).bind fun h11 =>
    (bif (Z14 (Z22 t94) h3 r7.2.1 && true) then
    (Z01 (ptrTo (256*(c+1)+2)) 0).bind fun t99 =>
    (ld1 h11 t99).bind fun t100 =>
    (Z3v P h11 92 t12 t100 false).bind fun t101 =>
    (Z10 .not t101).bind fun t102 =>
    (Z09 t102
     ((Z01 (ptrTo (256*(c+1)+2)) 0).bind fun t104 =>
     (ld1 h11 t104).bind fun t105 =>
     (Z0T P h11 92 t12 t105 (.bool true)).bind fun h13 =>
     (Z01 t11 0).bind fun t106 =>
     (ld1 h13 t106).bind fun t107 =>
     (Z01 (ptrTo (256*(c+1)+2)) 0).bind fun t108 =>
     (ld1 h13 t108).bind fun t109 =>
     (Z01 t11 1).bind fun t110 =>
     (ld1 h13 t110).bind fun t111 =>
     (Z01 (ptrTo (256*(c+1)+2)) 0).bind fun t112 =>
     (ld1 h13 t112).bind fun t113 =>
     (Z01 (ptrTo (256*(c+1+1)+17)) 0).bind fun t114 =>
     (ld1 h13 t114).bind fun t115 =>
     (ldN h13 4 (ptrTo (256*(c+1+1+1+1+1)+12))).bind fun t116 =>
     (ixS 1 t107 t109).bind fun t117 =>
     (stN h13 1 t117 t115).bind fun h15 =>
     (ixS 4 t111 t113).bind fun t118 =>
     (stN h15 4 t118 t116).bind fun h17 =>
     (bif (Z14 (Z22 t110) h13 h15 && (Z14 (Z22 t112) h13 h15 && (Z14 (Z22 (ptrTo (256*(c+1+1+1+1+1)+12))) h13 h15 && true))) then
     (Z01 (ptrTo (256*(c+1)+2)) 0).bind fun t120 =>
     (ld1 h17 t120).bind fun t121 =>
     (Z5d [(.int .i64 0)] [(0,1,t121)]).bind fun r18 =>
     (Z67 (newB h17 (256*(r9.2.2+1+1+1)+3) r18) (256*(r9.2.2+1+1+1)+4) 1 8 t13 (.slice (some ⟨(256*(r9.2.2+1+1+1)+3),0,none⟩) 1 1)).bind fun r19 =>
     some ⟨.normal,[t4,t5,t8,t9,t10,t11,t12,r19.1,t14,t15,(ptrTo (256*(c+1)+2)),(ptrTo (256*(c+1+1)+17)),(ptrTo (256*(c+1+1+1+1+1)+12)),t53,t54],r19.2,(r9.2.2+1+1+1+1),df⟩
     else none))
     (some ⟨.normal,[t4,t5,t8,t9,t10,t11,t12,t13,t14,t15,(ptrTo (256*(c+1)+2)),(ptrTo (256*(c+1+1)+17)),(ptrTo (256*(c+1+1+1+1+1)+12)),t53,t54],h11,(r9.2.2+1),df⟩):Option (Rt H)).bind fun r21 =>
    cond (Z0t r21.e .normal)
     ((Z01 (r21.v 5) 0).bind fun t124 =>
     (ld1 r21.h t124).bind fun t125 =>
     (Z01 (r21.v 10) 0).bind fun t126 =>
     (ld1 r21.h t126).bind fun t127 =>
     (ixS 1 t125 t127).bind fun t128 =>
     (ld1 r21.h t128).bind fun t129 =>
     (Z01 (r21.v 11) 0).bind fun t130 =>
     (ld1 r21.h t130).bind fun t131 =>
     (Z00 P .neq 3 t129 t131).bind fun t132 =>
     (gd t132 false r21.h (r21.c+1) (Z01 (r21.v 5) 1)).bind fun r22 =>
     (gd t132 false r22.2.1 r22.2.2 (ld1 r22.2.1 r22.1)).bind fun r23 =>
     (gd t132 false r23.2.1 r23.2.2 (Z01 (r21.v 10) 0)).bind fun r24 =>
     (gd t132 false r24.2.1 r24.2.2 (ld1 r24.2.1 r24.1)).bind fun r25 =>
     (gd t132 false r25.2.1 r25.2.2 (ixS 4 r23.1 r25.1)).bind fun r26 =>
     (gd t132 false r26.2.1 r26.2.2 (ldN r26.2.1 4 r26.1)).bind fun r27 =>
     (gd t132 false r27.2.1 r27.2.2 (ldN r27.2.1 4 (r21.v 12))).bind fun r28 =>
     (gd t132 false r28.2.1 r28.2.2 (Z00 P .neq 67 r27.1 r28.1)).bind fun r29 =>
     (Z0v t132 (.bool true) r29.1).bind fun t142 =>
     Z09 t142
      ((Z1v [(.slice none 0 0),(.slice none 0 0)] []).bind fun t143 =>
      (stN r29.2.1 2 (r21.v 2) t143).bind fun h31 =>
      some ⟨.ret,[r21.v 0,r21.v 1,r21.v 2,(.bool false),r21.v 4,r21.v 5,r21.v 6,r21.v 7,r21.v 8,r21.v 9,r21.v 13,r21.v 14],h31,(r29.2.2+1),r21.df⟩)
      (some ⟨.normal,[r21.v 0,r21.v 1,r21.v 2,r21.v 3,r21.v 4,r21.v 5,r21.v 6,r21.v 7,r21.v 8,r21.v 9,r21.v 13,r21.v 14],r29.2.1,r29.2.2,r21.df⟩))
     (none)
    else none))):Option (Rt H)).bind fun r33 =>
 cond (Z0t r33.e .ret)
  (some ⟨.ret,[r33.v 0,r33.v 1,r33.v 2,r33.v 3,r33.v 4,r33.v 5,r33.v 6,r33.v 7,r33.v 8,r33.v 9,r33.v 10,r33.v 11],r33.h,r33.c,r33.df⟩)
  (cond (Z0t r33.e .normal)
   ((Z00 P .add 3 (r33.v 11) (.int .i64 1)).bind fun t144 =>
   some ⟨.normal,[r33.v 0,r33.v 1,r33.v 2,r33.v 3,r33.v 4,r33.v 5,r33.v 6,r33.v 7,r33.v 8,r33.v 9,r33.v 10,t144],r33.h,(r33.c+1),r33.df⟩)
   (none)))
 (some ⟨(.exit 2),[t4,t5,t8,t9,t10,t11,t12,t13,t14,t15,t53,t54],h,(c+1),df⟩)
theorem Zb6 (o:Orc H) (rd:Option Nat) (t4 t5 t8 t9 t10 t11 t12 t13 t14 t15 t53 t54:Value) (h:H) (c:Nat) (df:List Nat):jx P o 157 rd Z38 (Z0g [4,5,8,9,10,11,12,13,14,15,53,54] [t4,t5,t8,t9,t10,t11,t12,t13,t14,t15,t53,t54]) h c df (Klp [4,5,8,9,10,11,12,13,14,15,53,54])=Z74 o rd t4 t5 t8 t9 t10 t11 t12 t13 t14 t15 t53 t54 h c df:=by kernel_rfl
noncomputable def Z75 (o:Orc H) (rd:Option Nat) (t4 t5 t8 t9 t10 t11 t12 t13 t14:Value) (h:H) (c:Nat) (df:List Nat):Option (Rt H) :=
 (Z1f t13).bind fun t41 =>
 (Z00 P .lss 3 t14 t41).bind fun t42 =>
 Z09 t42
 ((ixS 1 t13 t14).bind fun t47 =>
 (ld1 h t47).bind fun t48 =>
 (Z01 t5 0).bind fun t49 =>
 (ld1 h t49).bind fun t50 =>
 (ixS 20 t50 t48).bind fun t52 =>
 (ldN h 20 t52).bind fun t53 =>
 (o (Zgc rd) [t4,t5,t8,t9,t10,t11,t12,t13,t14,t48,t53,(.int .i64 0)] h (c+1+1+1) df).bind fun r0 =>
 cond (Z0t r0.e (.exit 2))
  ((Z00 P .add 3 (r0.v 8) (.int .i64 1)).bind fun t44 =>
  some ⟨.normal,[r0.v 0,r0.v 1,r0.v 2,r0.v 3,r0.v 4,r0.v 5,r0.v 6,r0.v 7,t44],r0.h,(r0.c+1),r0.df⟩)
  (cond (Z0t r0.e .ret)
   (some ⟨.ret,[r0.v 0,r0.v 1,r0.v 2,r0.v 3,r0.v 4,r0.v 5,r0.v 6,r0.v 7,r0.v 8],r0.h,r0.c,r0.df⟩)
   (none)))
 (some ⟨(.exit 0),[t4,t5,t8,t9,t10,t11,t12,t13,t14],h,(c+1),df⟩)
theorem Zb7 (o:Orc H) (rd:Option Nat) (t4 t5 t8 t9 t10 t11 t12 t13 t14:Value) (h:H) (c:Nat) (df:List Nat):jx P o 157 rd Z39 (Z0g [4,5,8,9,10,11,12,13,14] [t4,t5,t8,t9,t10,t11,t12,t13,t14]) h c df (Klp [4,5,8,9,10,11,12,13,14])=Z75 o rd t4 t5 t8 t9 t10 t11 t12 t13 t14 h c df:=by kernel_rfl
noncomputable def Zno (o:Orc H) (t0 t1 t2 t3:Value) (h:H) (c:Nat):Option (Rt H) :=
 (bif (t0:Value).cells.toList.all Z08 then
 (bif (t1:Value).cells.toList.all Z08 then
 (bif (t3:Value).cells.toList.all Z08 then
 (Z01 (ptrTo (256*c+1)) 0).bind fun t20 =>
 (ld1 (newB (newB (newB (newB h (256*c+0) (t0:Value).cells.toList) (256*c+1) (t1:Value).cells.toList) (256*c+2) (t3:Value).cells.toList) (256*c+3) [(.slice none 0 0),(.slice none 0 0)]) t20).bind fun t21 =>
 (Z1f t21).bind fun t22 =>
 (mkS 1 8 [(.int .i64 0)] t22 t22).bind fun r0 =>
 (mkS 4 32 [(.int .i64 0),(.int .i64 0),(.int .i64 0),(.int .i64 0)] t22 t22).bind fun r1 =>
 (Z1v [(.slice none 0 0),(.slice none 0 0)] [(0,1,(.slice (some ⟨(256*(c+1+1)+1),0,none⟩) r0.2.1 r0.2.2)),(1,1,(.slice (some ⟨(256*(c+1+1)+3),0,none⟩) r1.2.1 r1.2.2))]).bind fun t27 =>
 (stN (newB (newB (newB (newB (newB (newB (newB h (256*c+0) (t0:Value).cells.toList) (256*c+1) (t1:Value).cells.toList) (256*c+2) (t3:Value).cells.toList) (256*c+3) [(.slice none 0 0),(.slice none 0 0)]) (256*(c+1+1)+1) r0.1) (256*(c+1+1)+3) r1.1) (256*(c+1+1)+5) [(.slice none 0 0),(.slice none 0 0)]) 2 (ptrTo (256*(c+1+1)+5)) t27).bind fun h3 =>
 (Z0T P (HeapC.set h3 (256*(c+1+1+1)+0) (.map [])) 92 (.map (some (256*(c+1+1+1)+0))) (.int .i64 0) (.bool true)).bind fun h5 =>
 (Z01 (ptrTo (256*(c+1+1)+5)) 0).bind fun t30 =>
 (ld1 h5 t30).bind fun t31 =>
 (Z01 (ptrTo (256*(c+1+1)+5)) 1).bind fun t32 =>
 (ld1 h5 t32).bind fun t33 =>
 (ldN h5 4 (ptrTo (256*c+2))).bind fun t35 =>
 (ixS 1 t31 (.int .i64 0)).bind fun t36 =>
 (stN h5 1 t36 t2).bind fun h7 =>
 (ixS 4 t33 (.int .i64 0)).bind fun t37 =>
 (stN h7 4 t37 t35).bind fun h9 =>
 (bif (Z14 (Z22 t32) h5 h7 && (Z14 (Z22 (ptrTo (256*c+2))) h5 h7 && true)) then
 (Z5d [(.int .i64 0)] [(0,1,(.int .i64 0))]).bind fun r10 =>
 (o (Zgd none) [(ptrTo (256*c+0)),(ptrTo (256*c+1)),(ptrTo (256*c+3)),(.bool false),t22,(ptrTo (256*(c+1+1)+5)),(.map (some (256*(c+1+1+1)+0))),(.slice (some ⟨(256*(c+1+1+1+1+1)+0),0,none⟩) 1 1),(.int .i64 0)] (newB h9 (256*(c+1+1+1+1+1)+0) r10) (c+1+1+1+1+1+1+1) []).bind fun r11 =>
 cond (Z0t r11.e (.exit 0))
 ((ldN r11.h 2 (r11.v 5)).bind fun t145 =>
 (Z1f (r11.v 7)).bind fun t147 =>
 (Z00 P .eql 3 t147 (r11.v 4)).bind fun t149 =>
 (gd t149 true r11.h (r11.c+1) (ldN r11.h 1 (r11.v 0))).bind fun r14 =>
 (gd t149 true r14.2.1 r14.2.2 (ldN r14.2.1 1 (r11.v 1))).bind fun r15 =>
 (gd t149 true r15.2.1 r15.2.2 (ldN r15.2.1 2 (r11.v 5))).bind fun r16 =>
 (gg t149 true r16.2.1 r16.2.2 (callF o 14 [r14.1,r15.1,r16.1] r16.2.1 r16.2.2)).bind fun r17 =>
 (gd t149 true r17.2.1 r17.2.2 (Z00 P .eql 26 r17.1 (.int .i64 0))).bind fun r18 =>
 (Z0v t149 r18.1 (.bool false)).bind fun t156 =>
 (stN r18.2.1 2 (r11.v 2) t145).bind fun h20 =>
 (bif (Z14 (Z22 (r11.v 5)) r16.2.1 r17.2.1 && true) then
 (Z07 h20 r11.df).bind fun h21 =>
 (ldN h21 2 (r11.v 2)).bind fun v22 =>
 some ⟨.ret,[.tuple #[v22,t156]],h21,r18.2.2,[]⟩
 else none))
 (cond (Z0t r11.e .ret)
  ((Z07 r11.h r11.df).bind fun h12 =>
  (ldN h12 2 (r11.v 2)).bind fun v13 =>
  some ⟨.ret,[.tuple #[v13,r11.v 3]],h12,r11.c,[]⟩)
  (none))
 else none)
 else none)
 else none)
 else none)
theorem Zl5 (o:Orc H) (t0 t1 t2 t3:Value) (h:H) (c:Nat):jx P o 157 none f35_c (Z0g (List.range 4) [t0,t1,t2,t3]) h c [] (Kfn P Try.f35.results.toList)=Zno o t0 t1 t2 t3 h c:=by kernel_rfl
noncomputable def Znn (o:Orc H) (h:H) (c:Nat):Option (Rt H) :=
 (Z1v [(.int .i64 0),(.int .i64 0),(.int .i64 0),(.int .i64 0)] [(0,1,(.int .i64 1)),(1,1,(.int .i64 0)),(2,1,(.int .i64 2)),(3,1,(.int .i64 3))]).bind fun t1 =>
 (Z1v [(.int .i64 0),(.int .i64 0),(.int .i64 0),(.int .i64 0),(.int .i64 0)] [(1,4,t1)]).bind fun t2 =>
 (Z1v [(.int .i64 0),(.int .i64 0),(.int .i64 0),(.int .i64 0)] [(0,1,(.int .i64 1)),(1,1,(.int .i64 0)),(2,1,(.int .i64 2)),(3,1,(.int .i64 3))]).bind fun t3 =>
 (Z1v [(.int .i64 0),(.int .i64 0),(.int .i64 0),(.int .i64 0),(.int .i64 0)] [(1,4,t3)]).bind fun t4 =>
 (Z1v [(.int .i64 0),(.int .i64 0),(.int .i64 0),(.int .i64 0)] [(0,1,(.int .i64 0)),(1,1,(.int .i64 1)),(2,1,(.int .i64 3)),(3,1,(.int .i64 2))]).bind fun t5 =>
 (Z1v [(.int .i64 0),(.int .i64 0),(.int .i64 0),(.int .i64 0),(.int .i64 0)] [(1,4,t5)]).bind fun t6 =>
 (Z1v [(.int .i64 0),(.int .i64 0),(.int .i64 0),(.int .i64 0)] [(0,1,(.int .i64 0)),(1,1,(.int .i64 1)),(2,1,(.int .i64 3)),(3,1,(.int .i64 2))]).bind fun t7 =>
 (Z1v [(.int .i64 0),(.int .i64 0),(.int .i64 0),(.int .i64 0),(.int .i64 0)] [(1,4,t7)]).bind fun t8 =>
 (Z1v [(.int .i64 0),(.int .i64 0),(.int .i64 0),(.int .i64 0),(.int .i64 0),(.int .i64 0),(.int .i64 0),(.int .i64 0),(.int .i64 0),(.int .i64 0),(.int .i64 0),(.int .i64 0),(.int .i64 0),(.int .i64 0),(.int .i64 0),(.int .i64 0),(.int .i64 0),(.int .i64 0),(.int .i64 0),(.int .i64 0)] [(0,5,t2),(5,5,t4),(10,5,t6),(15,5,t8)]).bind fun t9 =>
 (Z5d [(.int .i64 0),(.int .i64 0),(.int .i64 0),(.int .i64 0),(.int .i64 0),(.int .i64 0),(.int .i64 0),(.int .i64 0),(.int .i64 0),(.int .i64 0),(.int .i64 0),(.int .i64 0),(.int .i64 0),(.int .i64 0),(.int .i64 0),(.int .i64 0),(.int .i64 0),(.int .i64 0),(.int .i64 0),(.int .i64 0)] [(0,20,t9)]).bind fun r0 =>
 (Z1v [(.slice none 0 0)] [(0,1,(.slice (some ⟨(256*(c+1)+9),0,none⟩) 1 1))]).bind fun t11 =>
 (stN (newB (newB h (256*c+0) [(.slice none 0 0)]) (256*(c+1)+9) r0) 1 (ptrTo (256*c+0)) t11).bind fun h2 =>
 (ldN h2 1 (ptrTo (256*c+0))).bind fun v3 =>
 some ⟨.ret,[v3],h2,(c+1+1),[]⟩
theorem Zl4 (o:Orc H) (h:H) (c:Nat):jx P o 12 none f39_c (Z0g (List.range 0) []) h c [] (Kfn P Try.f39.results.toList)=Znn o h c:=by kernel_rfl
noncomputable def Z1r (o:Orc H) (rd:Option Nat) (t1 t2 t3 t6 t7 t9 t10 t11 t49 t50 t51:Value) (h:H) (c:Nat) (df:List Nat):Option (Rt H) :=
 (Z00 P .lss 3 t51 t50).bind fun t52 =>
 Z09 t52
 ((ixS 1 t49 t51).bind fun t54 =>
 (ld1 h t54).bind fun t55 =>
 (Z00 P .lss 3 t55 (.int .i64 0)).bind fun t57 =>
 (gd t57 false h (c+1+1+1) (some t55)).bind fun r0 =>
 (gd t57 false r0.2.1 r0.2.2 (some t9)).bind fun r1 =>
 (gd t57 false r1.2.1 r1.2.2 (Z00 P .geq 3 r0.1 r1.1)).bind fun r2 =>
 (Z0v t57 (.bool true) r2.1).bind fun t62 =>
 (gd t62 false r2.2.1 r2.2.2 (some t11)).bind fun r3 =>
 (gd t62 false r3.2.1 r3.2.2 (some t55)).bind fun r4 =>
 (gd t62 false r4.2.1 r4.2.2 (ixS 1 r3.1 r4.1)).bind fun r5 =>
 (gd t62 false r5.2.1 r5.2.2 (ld1 r5.2.1 r5.1)).bind fun r6 =>
 (Z0v t62 (.bool true) r6.1).bind fun t68 =>
 Z09 t68
  ((Z1v [(.slice none 0 0)] []).bind fun t69 =>
  (stN r6.2.1 1 t6 t69).bind fun h8 =>
  some ⟨.ret,[t1,t2,t3,t6,(.int .i64 1),t9,t10,t11,t49,t50,t51],h8,(r6.2.2+1),df⟩)
  ((ixS 1 t11 t55).bind fun t75 =>
  (stN r6.2.1 1 t75 (.bool true)).bind fun h11 =>
  (ixS 1 t10 t55).bind fun t76 =>
  (stN h11 1 t76 t51).bind fun h13 =>
  (Z00 P .add 3 t51 (.int .i64 1)).bind fun t77 =>
  some ⟨.normal,[t1,t2,t3,t6,t7,t9,t10,t11,t49,t50,t77],h13,(r6.2.2+1+1),df⟩))
 (some ⟨(.exit 0),[t1,t2,t3,t6,t7,t9,t10,t11,t49,t50,t51],h,(c+1),df⟩)
theorem Z2o (o:Orc H) (rd:Option Nat) (t1 t2 t3 t6 t7 t9 t10 t11 t49 t50 t51:Value) (h:H) (c:Nat) (df:List Nat):jx P o 139 rd Z37 (Z0g [1,2,3,6,7,9,10,11,49,50,51] [t1,t2,t3,t6,t7,t9,t10,t11,t49,t50,t51]) h c df (Klp [1,2,3,6,7,9,10,11,49,50,51])=Z1r o rd t1 t2 t3 t6 t7 t9 t10 t11 t49 t50 t51 h c df:=by kernel_rfl
noncomputable def Z41 (o:Orc H) (rd:Option Nat) (t2 t3 t6 t10 t14 t15 t16 t17 t78 t79 t80 t85:Value) (h:H) (c:Nat) (df:List Nat):Option (Rt H) :=
 (Z00 P .lss 3 t85 (.int .i64 4)).bind fun t86 =>
 Z09 t86
 ((Z01 t3 0).bind fun t89 =>
 (ld1 h t89).bind fun t90 =>
 (ixS 4 t2 t15).bind fun t95 =>
 (ixA 4 1 t95 t85).bind fun t96 =>
 (ld1 h t96).bind fun t97 =>
 (ixS 20 t90 t16).bind fun t98 =>
 (ixA 4 5 t98 t97).bind fun t99 =>
 (ldN h 5 t99).bind fun t100 =>
 (ixA 4 5 t17 t85).bind fun t101 =>
 (stN h 5 t101 t100).bind fun h1 =>
 (ixA 4 5 t17 t85).bind fun t103 =>
 (ldN h1 5 t103).bind fun t104 =>
 (stN (newB h1 (256*(c+1+1+1)+3) [(.int .i64 0),(.int .i64 0),(.int .i64 0),(.int .i64 0),(.int .i64 0)]) 5 (ptrTo (256*(c+1+1+1)+3)) t104).bind fun h3 =>
 (Z01 (ptrTo (256*(c+1+1+1)+3)) 0).bind fun t105 =>
 (ld1 h3 t105).bind fun t106 =>
 (Z00 P .geq 3 t106 (.int .i64 0)).bind fun t107 =>
 (Z09 t107
  ((Z01 (ptrTo (256*(c+1+1+1)+3)) 0).bind fun t109 =>
  (ld1 h3 t109).bind fun t110 =>
  (ixS 1 t10 t110).bind fun t111 =>
  (ld1 h3 t111).bind fun t112 =>
  (ixS 4 t2 t112).bind fun t117 =>
  (ldN h3 4 t117).bind fun t118 =>
  (callF o 66 [t118] h3 (c+1+1+1+1+1+1+1)).bind fun r4 =>
  (Z01 (ptrTo (256*(c+1+1+1)+3)) 1).bind fun t120 =>
  (ldN r4.2.1 4 t120).bind fun t121 =>
  (ixS 4 t2 t15).bind fun t124 =>
  (ldN r4.2.1 4 t124).bind fun t125 =>
  (callF o 65 [t121,t125] r4.2.1 r4.2.2).bind fun r5 =>
  (callF o 65 [r4.1,r5.1] r5.2.1 r5.2.2).bind fun r6 =>
  (Z1v [(.int .i64 0),(.int .i64 0),(.int .i64 0),(.int .i64 0),(.int .i64 0)] [(0,1,t112),(1,4,r6.1)]).bind fun t128 =>
  (ixA 4 5 t17 t85).bind fun t129 =>
  (stN r6.2.1 5 t129 t128).bind fun h8 =>
  (bif (Z14 (Z22 t120) h3 r4.2.1 && (Z14 (Z22 t124) h3 r4.2.1 && true)) then
  some ⟨.normal,[t2,t3,t6,t10,t14,t15,t16,t17,t78,t79,t80,t85],h8,r6.2.2,df⟩
  else none))
  (some ⟨.normal,[t2,t3,t6,t10,t14,t15,t16,t17,t78,t79,t80,t85],h3,(c+1+1+1+1+1),df⟩):Option (Rt H)).bind fun r9 =>
 cond (Z0t r9.e .normal)
  ((Z00 P .add 3 (r9.v 11) (.int .i64 1)).bind fun t130 =>
  some ⟨.normal,[r9.v 0,r9.v 1,r9.v 2,r9.v 3,r9.v 4,r9.v 5,r9.v 6,r9.v 7,r9.v 8,r9.v 9,r9.v 10,t130],r9.h,(r9.c+1),r9.df⟩)
  (none))
 (some ⟨(.exit 4),[t2,t3,t6,t10,t14,t15,t16,t17,t78,t79,t80,t85],h,(c+1),df⟩)
theorem Z4o (o:Orc H) (rd:Option Nat) (t2 t3 t6 t10 t14 t15 t16 t17 t78 t79 t80 t85:Value) (h:H) (c:Nat) (df:List Nat):jx P o 139 rd Z35 (Z0g [2,3,6,10,14,15,16,17,78,79,80,85] [t2,t3,t6,t10,t14,t15,t16,t17,t78,t79,t80,t85]) h c df (Klp [2,3,6,10,14,15,16,17,78,79,80,85])=Z41 o rd t2 t3 t6 t10 t14 t15 t16 t17 t78 t79 t80 t85 h c df:=by kernel_rfl
noncomputable def Z42 (o:Orc H) (rd:Option Nat) (t2 t3 t6 t10 t14 t78 t79 t80:Value) (h:H) (c:Nat) (df:List Nat):Option (Rt H) :=
 (Z00 P .lss 3 t80 t79).bind fun t81 =>
 Z09 t81
 ((ixS 1 t78 t80).bind fun t83 =>
 (ld1 h t83).bind fun t84 =>
 (o (Z9P rd) [t2,t3,t6,t10,t14,t80,t84,(ptrTo (256*(c+1+1)+0)),t78,t79,t80,(.int .i64 0)] (newB h (256*(c+1+1)+0) [(.int .i64 0),(.int .i64 0),(.int .i64 0),(.int .i64 0),(.int .i64 0),(.int .i64 0),(.int .i64 0),(.int .i64 0),(.int .i64 0),(.int .i64 0),(.int .i64 0),(.int .i64 0),(.int .i64 0),(.int .i64 0),(.int .i64 0),(.int .i64 0),(.int .i64 0),(.int .i64 0),(.int .i64 0),(.int .i64 0)]) (c+1+1+1+1) df).bind fun r0 =>
 cond (Z0t r0.e (.exit 4))
  ((Z01 (r0.v 4) 0).bind fun t131 =>
  (ld1 r0.h t131).bind fun t132 =>
  (ldN r0.h 20 (r0.v 7)).bind fun t133 =>
  (Z5d [(.int .i64 0),(.int .i64 0),(.int .i64 0),(.int .i64 0),(.int .i64 0),(.int .i64 0),(.int .i64 0),(.int .i64 0),(.int .i64 0),(.int .i64 0),(.int .i64 0),(.int .i64 0),(.int .i64 0),(.int .i64 0),(.int .i64 0),(.int .i64 0),(.int .i64 0),(.int .i64 0),(.int .i64 0),(.int .i64 0)] [(0,20,t133)]).bind fun r1 =>
  (Z67 (newB r0.h (256*r0.c+3) r1) (256*r0.c+4) 20 160 t132 (.slice (some ⟨(256*r0.c+3),0,none⟩) 1 1)).bind fun r2 =>
  (Z01 (r0.v 4) 0).bind fun t136 =>
  (stN r2.2 1 t136 r2.1).bind fun h4 =>
  (Z00 P .add 3 (r0.v 10) (.int .i64 1)).bind fun t137 =>
  some ⟨.normal,[r0.v 0,r0.v 1,r0.v 2,r0.v 3,r0.v 4,r0.v 8,r0.v 9,t137],h4,(r0.c+1+1),r0.df⟩)
  (none))
 (some ⟨(.exit 2),[t2,t3,t6,t10,t14,t78,t79,t80],h,(c+1),df⟩)
theorem Z4p (o:Orc H) (rd:Option Nat) (t2 t3 t6 t10 t14 t78 t79 t80:Value) (h:H) (c:Nat) (df:List Nat):jx P o 139 rd Z36 (Z0g [2,3,6,10,14,78,79,80] [t2,t3,t6,t10,t14,t78,t79,t80]) h c df (Klp [2,3,6,10,14,78,79,80])=Z42 o rd t2 t3 t6 t10 t14 t78 t79 t80 h c df:=by kernel_rfl
noncomputable def ZhW (o:Orc H) (t0 t1 t2:Value) (h:H) (c:Nat):Option (Rt H) :=
 (bif (t0:Value).cells.toList.all Z08 then
 (ldN (newB (newB h (256*c+0) (t0:Value).cells.toList) (256*c+1) [(.slice none 0 0)]) 1 (ptrTo (256*c+0))).bind fun t21 =>
 (callF o 57 [t21] (newB (newB h (256*c+0) (t0:Value).cells.toList) (256*c+1) [(.slice none 0 0)]) (c+1+1)).bind fun r0 =>
 (Z00 P .neq 26 r0.1 (.int .i64 0)).bind fun t24 =>
 Z09 t24
 ((Z1v [(.slice none 0 0)] []).bind fun t25 =>
 (stN r0.2.1 1 (ptrTo (256*c+1)) t25).bind fun h2 =>
 (ldN h2 1 (ptrTo (256*c+1))).bind fun v3 =>
 some ⟨.ret,[.tuple #[v3,r0.1]],h2,(r0.2.2+1+1),[]⟩)
 ((Z01 (ptrTo (256*c+0)) 0).bind fun t27 =>
 (ld1 r0.2.1 t27).bind fun t28 =>
 (Z1f t28).bind fun t29 =>
 (mkS 1 8 [(.int .i64 0)] t29 t29).bind fun r4 =>
 (mkS 1 1 [(.bool false)] t29 t29).bind fun r5 =>
 (Z1f t1).bind fun t35 =>
 (Z00 P .neq 3 t35 t29).bind fun t37 =>
 (gd t37 false (newB (newB r0.2.1 (256*(r0.2.2+1+1)+1) r4.1) (256*(r0.2.2+1+1+1)+1) r5.1) (r0.2.2+1+1+1+1+1) (some t2)).bind fun r6 =>
 (gg t37 false r6.2.1 r6.2.2 (((Z1f r6.1).bind fun v=>some (v,r6.2.1)).bind fun r=>some (r.1,r.2,r6.2.2))).bind fun r7 =>
 (gd t37 false r7.2.1 r7.2.2 (some t29)).bind fun r8 =>
 (gd t37 false r8.2.1 r8.2.2 (Z00 P .neq 3 r7.1 r8.1)).bind fun r9 =>
 (Z0v t37 (.bool true) r9.1).bind fun t43 =>
 (gd t43 false r9.2.1 r9.2.2 (some t2)).bind fun r10 =>
 (gg t43 false r10.2.1 r10.2.2 (callF o 63 [r10.1,(.func (.func 64) #[] #[])] r10.2.1 r10.2.2)).bind fun r11 =>
 (Z0v t43 (.bool true) r11.1).bind fun t47 =>
 Z09 t47
  ((Z1v [(.slice none 0 0)] []).bind fun t48 =>
  (stN r11.2.1 1 (ptrTo (256*c+1)) t48).bind fun h13 =>
  (ldN h13 1 (ptrTo (256*c+1))).bind fun v14 =>
  some ⟨.ret,[.tuple #[v14,(.int .i64 1)]],h13,(r11.2.2+1),[]⟩)
  ((Z1f t1).bind fun t50 =>
  (o (Z73 none) [t1,t2,(ptrTo (256*c+0)),(ptrTo (256*c+1)),(.int .i64 0),t29,(.slice (some ⟨(256*(r0.2.2+1+1)+1),0,none⟩) r4.2.1 r4.2.2),(.slice (some ⟨(256*(r0.2.2+1+1+1)+1),0,none⟩) r5.2.1 r5.2.2),t1,t50,(.int .i64 0)] r11.2.1 (r11.2.2+1) []).bind fun r15 =>
  cond (Z0t r15.e (.exit 0))
   ((Z1f (r15.v 0)).bind fun t79 =>
   (o (Z9Q none) [r15.v 1,r15.v 2,r15.v 3,r15.v 6,(ptrTo (256*r15.c+0)),r15.v 0,t79,(.int .i64 0)] (newB r15.h (256*r15.c+0) [(.slice none 0 0)]) (r15.c+1+1) r15.df).bind fun r18 =>
   cond (Z0t r18.e (.exit 2))
    ((ldN r18.h 1 (r18.v 4)).bind fun t138 =>
    (stN r18.h 1 (r18.v 2) t138).bind fun h20 =>
    (Z07 h20 r18.df).bind fun h21 =>
    (ldN h21 1 (r18.v 2)).bind fun v22 =>
    some ⟨.ret,[.tuple #[v22,(.int .i64 0)]],h21,(r18.c+1),[]⟩)
    (none))
   (cond (Z0t r15.e .ret)
    ((Z07 r15.h r15.df).bind fun h16 =>
    (ldN h16 1 (r15.v 3)).bind fun v17 =>
    some ⟨.ret,[.tuple #[v17,r15.v 4]],h16,r15.c,[]⟩)
    (none))))
 else none)
theorem ZeM (o:Orc H) (t0 t1 t2:Value) (h:H) (c:Nat):jx P o 139 none f40_c (Z0g (List.range 3) [t0,t1,t2]) h c [] (Kfn P Try.f40.results.toList)=ZhW o t0 t1 t2 h c:=by kernel_rfl
theorem f40_go {t0 t1 t2:Value} {h:FH} {c:Nat} {df:List Nat} {r:Rt FH} (e:ZhW G t0 t1 t2 h c=some r):G (.fn 40) [t0,t1,t2] h c df=some r:=Z0p (a:=ZcX) bk_40 rfl (fun args h c=>by cases args <;> rfl) rfl ((ZeM G t0 t1 t2 h c).trans e)

variable {H:Type} [HeapC H]
noncomputable def ZhV (o:Orc H) (t0 t1:Value) (h:H) (c:Nat):Option (Rt H) :=
 (bif (t0:Value).cells.toList.all Z08 then
 (bif (t1:Value).cells.toList.all Z08 then
 (Z01 (ptrTo (256*c+0)) 0).bind fun t5 =>
 (ld1 (newB (newB h (256*c+0) (t0:Value).cells.toList) (256*c+1) (t1:Value).cells.toList) t5).bind fun t6 =>
 (Z01 (ptrTo (256*c+1)) 0).bind fun t7 =>
 (ld1 (newB (newB h (256*c+0) (t0:Value).cells.toList) (256*c+1) (t1:Value).cells.toList) t7).bind fun t8 =>
 (callF o 67 [t6,t8] (newB (newB h (256*c+0) (t0:Value).cells.toList) (256*c+1) (t1:Value).cells.toList) (c+1+1)).bind fun r0 =>
 some ⟨.ret,[r0.1],r0.2.1,r0.2.2,[]⟩
 else none)
 else none)
theorem ZeL (o:Orc H) (t0 t1:Value) (h:H) (c:Nat):jx P o 10 none f41_c (Z0g (List.range 2) [t0,t1]) h c [] (Kfn P Try.f41.results.toList)=ZhV o t0 t1 h c:=by kernel_rfl
theorem f41_go {t0 t1:Value} {h:FH} {c:Nat} {df:List Nat} {r:Rt FH} (e:ZhV G t0 t1 h c=some r):G (.fn 41) [t0,t1] h c df=some (gcR h c [] r):=Z0p (a:=ZcW) bk_41 rfl (fun args h c=>by cases args <;> rfl) rfl ((ZeL G t0 t1 h c).trans e)
noncomputable def Z40 (o:Orc H) (rd:Option Nat) (t1 t2 t3 t4 t23 t24 t25:Value) (h:H) (c:Nat) (df:List Nat):Option (Rt H) :=
 (Z00 P .lss 3 t25 t24).bind fun t26 =>
 Z09 t26
 ((ixS 1 t23 t25).bind fun t27 =>
 (ld1 h t27).bind fun t28 =>
 (Z00 P .lss 3 t28 (.int .i64 0)).bind fun t30 =>
 (gd t30 false h (c+1+1+1) (some t28)).bind fun r0 =>
 (gd t30 false r0.2.1 r0.2.2 (some t3)).bind fun r1 =>
 (gd t30 false r1.2.1 r1.2.2 (Z00 P .geq 3 r0.1 r1.1)).bind fun r2 =>
 (Z0v t30 (.bool true) r2.1).bind fun t35 =>
 (gd t35 false r2.2.1 r2.2.2 (some t4)).bind fun r3 =>
 (gd t35 false r3.2.1 r3.2.2 (some t28)).bind fun r4 =>
 (gd t35 false r4.2.1 r4.2.2 (Z3v P r4.2.1 92 r3.1 r4.1 false)).bind fun r5 =>
 (Z0v t35 (.bool true) r5.1).bind fun t40 =>
 Z09 t40
  (some ⟨.ret,[t1,(.bool false),t3,t4,t23,t24,t25],r5.2.1,(r5.2.2+1),df⟩)
  ((Z0T P r5.2.1 92 t4 t28 (.bool true)).bind fun h8 =>
  (Z00 P .add 3 t25 (.int .i64 1)).bind fun t43 =>
  some ⟨.normal,[t1,t2,t3,t4,t23,t24,t43],h8,(r5.2.2+1+1),df⟩))
 (some ⟨(.exit 0),[t1,t2,t3,t4,t23,t24,t25],h,(c+1),df⟩)
theorem Z4n (o:Orc H) (rd:Option Nat) (t1 t2 t3 t4 t23 t24 t25:Value) (h:H) (c:Nat) (df:List Nat):jx P o 55 rd Z34 (Z0g [1,2,3,4,23,24,25] [t1,t2,t3,t4,t23,t24,t25]) h c df (Klp [1,2,3,4,23,24,25])=Z40 o rd t1 t2 t3 t4 t23 t24 t25 h c df:=by kernel_rfl
noncomputable def Z3Z (o:Orc H) (rd:Option Nat) (t2 t45 t46 t47:Value) (h:H) (c:Nat) (df:List Nat):Option (Rt H) :=
 (Z00 P .lss 3 t47 t46).bind fun t48 =>
 Z09 t48
 ((ixS 4 t45 t47).bind fun t49 =>
 (ldN h 4 t49).bind fun t50 =>
 (stN (newB h (256*(c+1)+2) [(.int .i64 0),(.int .i64 0),(.int .i64 0),(.int .i64 0)]) 4 (ptrTo (256*(c+1)+2)) t50).bind fun h1 =>
 (ldN h1 4 (ptrTo (256*(c+1)+2))).bind fun t51 =>
 (callF o 60 [t51] h1 (c+1+1+1)).bind fun r2 =>
 (Z10 .not r2.1).bind fun t53 =>
 Z09 t53
  (some ⟨.ret,[(.bool false),t45,t46,t47],r2.2.1,(r2.2.2+1),df⟩)
  ((Z00 P .add 3 t47 (.int .i64 1)).bind fun t54 =>
  some ⟨.normal,[t2,t45,t46,t54],r2.2.1,(r2.2.2+1),df⟩))
 (some ⟨(.exit 2),[t2,t45,t46,t47],h,(c+1),df⟩)
theorem Z4m (o:Orc H) (rd:Option Nat) (t2 t45 t46 t47:Value) (h:H) (c:Nat) (df:List Nat):jx P o 55 rd Z33 (Z0g [2,45,46,47] [t2,t45,t46,t47]) h c df (Klp [2,45,46,47])=Z3Z o rd t2 t45 t46 t47 h c df:=by kernel_rfl
noncomputable def ZhU (o:Orc H) (t0:Value) (h:H) (c:Nat):Option (Rt H) :=
 (bif (t0:Value).cells.toList.all Z08 then
 (Z01 (ptrTo (256*c+0)) 0).bind fun t9 =>
 (ld1 (newB h (256*c+0) (t0:Value).cells.toList) t9).bind fun t10 =>
 (Z1f t10).bind fun t11 =>
 (Z00 P .gtr 3 t11 (.int .i64 1000)).bind fun t13 =>
 (gd t13 false (newB h (256*c+0) (t0:Value).cells.toList) (c+1+1+1) (Z01 (ptrTo (256*c+0)) 1)).bind fun r0 =>
 (gd t13 false r0.2.1 r0.2.2 (ld1 r0.2.1 r0.1)).bind fun r1 =>
 (gg t13 false r1.2.1 r1.2.2 (((Z1f r1.1).bind fun v=>some (v,r1.2.1)).bind fun r=>some (r.1,r.2,r1.2.2))).bind fun r2 =>
 (gd t13 false r2.2.1 r2.2.2 (some t11)).bind fun r3 =>
 (gd t13 false r3.2.1 r3.2.2 (Z00 P .neq 3 r2.1 r3.1)).bind fun r4 =>
 (Z0v t13 (.bool true) r4.1).bind fun t20 =>
 Z09 t20
 (some ⟨.ret,[(.bool false)],r4.2.1,(r4.2.2+1),[]⟩)
 ((Z01 (ptrTo (256*c+0)) 0).bind fun t22 =>
 (ld1 (HeapC.set r4.2.1 (256*r4.2.2+0) (.map [])) t22).bind fun t23 =>
 (Z1f t23).bind fun t24 =>
 (o (Z9O none) [(ptrTo (256*c+0)),(.bool false),t11,(.map (some (256*r4.2.2+0))),t23,t24,(.int .i64 0)] (HeapC.set r4.2.1 (256*r4.2.2+0) (.map [])) (r4.2.2+1+1) []).bind fun r5 =>
 cond (Z0t r5.e (.exit 0))
  ((Z01 (r5.v 0) 1).bind fun t44 =>
  (ld1 r5.h t44).bind fun t45 =>
  (Z1f t45).bind fun t46 =>
  (o (Z9N none) [r5.v 1,t45,t46,(.int .i64 0)] r5.h (r5.c+1) r5.df).bind fun r7 =>
  cond (Z0t r7.e (.exit 2))
   ((Z07 r7.h r7.df).bind fun h9 =>
   some ⟨.ret,[(.bool true)],h9,(r7.c+1),[]⟩)
   (cond (Z0t r7.e .ret)
    ((Z07 r7.h r7.df).bind fun h8 =>
    some ⟨.ret,[r7.v 0],h8,r7.c,[]⟩)
    (none)))
  (cond (Z0t r5.e .ret)
   ((Z07 r5.h r5.df).bind fun h6 =>
   some ⟨.ret,[r5.v 1],h6,r5.c,[]⟩)
   (none)))
 else none)
theorem ZeK (o:Orc H) (t0:Value) (h:H) (c:Nat):jx P o 55 none f42_c (Z0g (List.range 1) [t0]) h c [] (Kfn P Try.f42.results.toList)=ZhU o t0 h c:=by kernel_rfl
theorem f42_go {t0:Value} {h:FH} {c:Nat} {df:List Nat} {r:Rt FH} (e:ZhU G t0 h c=some r):G (.fn 42) [t0] h c df=some (gcR h c [] r):=Z0p (a:=ZcV) bk_42 rfl (fun args h c=>by cases args <;> rfl) rfl ((ZeK G t0 h c).trans e)
noncomputable def Z3X (o:Orc H) (rd:Option Nat) (t2 t3 t4 t5 t9 t10 t11:Value) (h:H) (c:Nat) (df:List Nat):Option (Rt H) :=
 (Z00 P .lss 3 t11 t10).bind fun t12 =>
 Z09 t12
 ((ixS 1 t9 t11).bind fun t14 =>
 (ld1 h t14).bind fun t15 =>
 (Z01 t5 0).bind fun t16 =>
 (ld1 h t16).bind fun t17 =>
 (Z01 t2 0).bind fun t18 =>
 (ld1 h t18).bind fun t19 =>
 (ixS 1 t19 t15).bind fun t21 =>
 (ld1 h t21).bind fun t22 =>
 (Z5d [(.int .i64 0)] [(0,1,t22)]).bind fun r0 =>
 (Z67 (newB h (256*(c+1+1)+7) r0) (256*(c+1+1)+8) 1 8 t17 (.slice (some ⟨(256*(c+1+1)+7),0,none⟩) 1 1)).bind fun r1 =>
 (Z01 t5 0).bind fun t25 =>
 (stN r1.2 1 t25 r1.1).bind fun h3 =>
 (Z01 t5 1).bind fun t26 =>
 (ld1 h3 t26).bind fun t27 =>
 (Z01 t2 1).bind fun t28 =>
 (ld1 h3 t28).bind fun t29 =>
 (ixS 4 t29 t15).bind fun t31 =>
 (ldN h3 4 t31).bind fun t32 =>
 (Z01 t3 1).bind fun t33 =>
 (ld1 h3 t33).bind fun t34 =>
 (ixS 4 t34 t11).bind fun t36 =>
 (ldN h3 4 t36).bind fun t37 =>
 (callF o 61 [t32,t37] h3 (c+1+1+1+1)).bind fun r4 =>
 (Z5d [(.int .i64 0),(.int .i64 0),(.int .i64 0),(.int .i64 0)] [(0,4,r4.1)]).bind fun r5 =>
 (Z67 (newB r4.2.1 (256*(c+1+1+1)+13) r5) (256*(c+1+1+1)+14) 4 32 t27 (.slice (some ⟨(256*(c+1+1+1)+13),0,none⟩) 1 1)).bind fun r6 =>
 (Z01 t5 1).bind fun t41 =>
 (stN r6.2 1 t41 r6.1).bind fun h8 =>
 (bif (Z14 (Z22 t26) h3 r4.2.1 && true) then
 (Z00 P .add 3 t11 (.int .i64 1)).bind fun t42 =>
 some ⟨.normal,[t2,t3,t4,t5,t9,t10,t42],h8,(r4.2.2+1),df⟩
 else none))
 (some ⟨(.exit 0),[t2,t3,t4,t5,t9,t10,t11],h,(c+1),df⟩)
theorem Z4l (o:Orc H) (rd:Option Nat) (t2 t3 t4 t5 t9 t10 t11:Value) (h:H) (c:Nat) (df:List Nat):jx P o 44 rd Z32 (Z0g [2,3,4,5,9,10,11] [t2,t3,t4,t5,t9,t10,t11]) h c df (Klp [2,3,4,5,9,10,11])=Z3X o rd t2 t3 t4 t5 t9 t10 t11 h c df:=by kernel_rfl
noncomputable def ZhT (o:Orc H) (t0 t1:Value) (h:H) (c:Nat):Option (Rt H) :=
 (bif (t0:Value).cells.toList.all Z08 then
 (bif (t1:Value).cells.toList.all Z08 then
 (Z01 (ptrTo (256*c+1)) 0).bind fun t8 =>
 (ld1 (newB (newB (newB (newB h (256*c+0) (t0:Value).cells.toList) (256*c+1) (t1:Value).cells.toList) (256*c+2) [(.slice none 0 0),(.slice none 0 0)]) (256*(c+1)+0) [(.slice none 0 0),(.slice none 0 0)]) t8).bind fun t9 =>
 (Z1f t9).bind fun t10 =>
 (o (Z9M none) [(ptrTo (256*c+0)),(ptrTo (256*c+1)),(ptrTo (256*c+2)),(ptrTo (256*(c+1)+0)),t9,t10,(.int .i64 0)] (newB (newB (newB (newB h (256*c+0) (t0:Value).cells.toList) (256*c+1) (t1:Value).cells.toList) (256*c+2) [(.slice none 0 0),(.slice none 0 0)]) (256*(c+1)+0) [(.slice none 0 0),(.slice none 0 0)]) (c+1+1+1) []).bind fun r0 =>
 cond (Z0t r0.e (.exit 0))
 ((ldN r0.h 2 (r0.v 3)).bind fun t43 =>
 (stN r0.h 2 (r0.v 2) t43).bind fun h2 =>
 (Z07 h2 r0.df).bind fun h3 =>
 (ldN h3 2 (r0.v 2)).bind fun v4 =>
 some ⟨.ret,[v4],h3,(r0.c+1),[]⟩)
 (none)
 else none)
 else none)
theorem ZeJ (o:Orc H) (t0 t1:Value) (h:H) (c:Nat):jx P o 44 none f43_c (Z0g (List.range 2) [t0,t1]) h c [] (Kfn P Try.f43.results.toList)=ZhT o t0 t1 h c:=by kernel_rfl
theorem f43_go {t0 t1:Value} {h:FH} {c:Nat} {df:List Nat} {r:Rt FH} (e:ZhT G t0 t1 h c=some r):G (.fn 43) [t0,t1] h c df=some r:=Z0p (a:=ZcU) bk_43 rfl (fun args h c=>by cases args <;> rfl) rfl ((ZeJ G t0 t1 h c).trans e)
noncomputable def Znk (o:Orc H) (t0 t1:Value) (h:H) (c:Nat):Option (Rt H) :=
 (bif (t0:Value).cells.toList.all Z08 then
 (Z01 (ptrTo (256*c+0)) 0).bind fun t5 =>
 (ld1 (newB h (256*c+0) (t0:Value).cells.toList) t5).bind fun t6 =>
 (Z01 (ptrTo (256*c+0)) 1).bind fun t7 =>
 (ld1 (newB h (256*c+0) (t0:Value).cells.toList) t7).bind fun t8 =>
 (callF o 48 [t6,t8,t1] (newB h (256*c+0) (t0:Value).cells.toList) (c+1+1)).bind fun r0 =>
 some ⟨.ret,[r0.1],r0.2.1,r0.2.2,[]⟩
 else none)
theorem Zl3 (o:Orc H) (t0 t1:Value) (h:H) (c:Nat):jx P o 11 none f44_c (Z0g (List.range 2) [t0,t1]) h c [] (Kfn P Try.f44.results.toList)=Znk o t0 t1 h c:=by kernel_rfl
theorem f44_go {t0 t1:Value} {h:FH} {c:Nat} {df:List Nat} {r:Rt FH} (e:Znk G t0 t1 h c=some r):G (.fn 44) [t0,t1] h c df=some (gcR h c [] r):=Z0p (a:=Zl2) bk_44 rfl (fun args h c=>by cases args <;> rfl) rfl ((Zl3 G t0 t1 h c).trans e)
noncomputable def Z3W (o:Orc H) (rd:Option Nat) (t2 t3 t4 t5 t6:Value) (h:H) (c:Nat) (df:List Nat):Option (Rt H) :=
 (Z00 P .lss 3 t6 (.int .i64 4)).bind fun t17 =>
 Z09 t17
 ((ixA 4 1 t3 t6).bind fun t22 =>
 (ld1 h t22).bind fun t23 =>
 (ixA 4 1 t2 t23).bind fun t24 =>
 (ld1 h t24).bind fun t25 =>
 (ixA 4 1 t5 t6).bind fun t26 =>
 (stN h 1 t26 t25).bind fun h1 =>
 (Z00 P .add 3 t6 (.int .i64 1)).bind fun t19 =>
 some ⟨.normal,[t2,t3,t4,t5,t19],h1,(c+1+1+1),df⟩)
 (some ⟨(.exit 0),[t2,t3,t4,t5,t6],h,(c+1),df⟩)
theorem Z5U (o:Orc H) (rd:Option Nat) (t2 t3 t4 t5 t6:Value) (h:H) (c:Nat) (df:List Nat):jx P o 28 rd Z72 (Z0g [2,3,4,5,6] [t2,t3,t4,t5,t6]) h c df (Klp [2,3,4,5,6])=Z3W o rd t2 t3 t4 t5 t6 h c df:=by kernel_rfl
noncomputable def Zni (o:Orc H) (t0 t1:Value) (h:H) (c:Nat):Option (Rt H) :=
 (bif (t0:Value).cells.toList.all Z08 then
 (bif (t1:Value).cells.toList.all Z08 then
 (ldN (newB (newB (newB (newB h (256*c+0) (t0:Value).cells.toList) (256*c+1) (t1:Value).cells.toList) (256*c+2) [(.int .i64 0),(.int .i64 0),(.int .i64 0),(.int .i64 0)]) (256*(c+1)+0) [(.int .i64 0),(.int .i64 0),(.int .i64 0),(.int .i64 0)]) 4 (ptrTo (256*c+0))).bind fun t7 =>
 (callF o 50 [t7] (newB (newB (newB (newB h (256*c+0) (t0:Value).cells.toList) (256*c+1) (t1:Value).cells.toList) (256*c+2) [(.int .i64 0),(.int .i64 0),(.int .i64 0),(.int .i64 0)]) (256*(c+1)+0) [(.int .i64 0),(.int .i64 0),(.int .i64 0),(.int .i64 0)]) (c+1+1+1)).bind fun r0 =>
 (Z10 .not r0.1).bind fun t9 =>
 (gd t9 false r0.2.1 r0.2.2 (ldN r0.2.1 4 (ptrTo (256*c+1)))).bind fun r1 =>
 (gg t9 false r1.2.1 r1.2.2 (callF o 50 [r1.1] r1.2.1 r1.2.2)).bind fun r2 =>
 (gd t9 false r2.2.1 r2.2.2 (Z10 .not r2.1)).bind fun r3 =>
 (Z0v t9 (.bool true) r3.1).bind fun t14 =>
 Z09 t14
 ((ldN r3.2.1 4 (ptrTo (256*(c+1)+0))).bind fun t15 =>
 (stN r3.2.1 4 (ptrTo (256*c+2)) t15).bind fun h5 =>
 (ldN h5 4 (ptrTo (256*c+2))).bind fun v6 =>
 some ⟨.ret,[v6],h5,(r3.2.2+1),[]⟩)
 ((o (Z3V none) [(ptrTo (256*c+0)),(ptrTo (256*c+1)),(ptrTo (256*c+2)),(ptrTo (256*(c+1)+0)),(.int .i64 0)] r3.2.1 (r3.2.2+1) []).bind fun r7 =>
 cond (Z0t r7.e (.exit 0))
  ((ldN r7.h 4 (r7.v 3)).bind fun t27 =>
  (stN r7.h 4 (r7.v 2) t27).bind fun h9 =>
  (Z07 h9 r7.df).bind fun h10 =>
  (ldN h10 4 (r7.v 2)).bind fun v11 =>
  some ⟨.ret,[v11],h10,(r7.c+1),[]⟩)
  (none))
 else none)
 else none)
theorem Zl1 (o:Orc H) (t0 t1:Value) (h:H) (c:Nat):jx P o 28 none f45_c (Z0g (List.range 2) [t0,t1]) h c [] (Kfn P Try.f45.results.toList)=Zni o t0 t1 h c:=by kernel_rfl
theorem f45_go {t0 t1:Value} {h:FH} {c:Nat} {df:List Nat} {r:Rt FH} (e:Zni G t0 t1 h c=some r):G (.fn 45) [t0,t1] h c df=some (gcR h c [] r):=Z0p (a:=Zl0) bk_45 rfl (fun args h c=>by cases args <;> rfl) rfl ((Zl1 G t0 t1 h c).trans e)
theorem Zga {rd:Option Nat} {t2 t3 t4 t5 t6:Value} {h:FH} {c:Nat} {df:List Nat} {q r:Rt FH} (e:Z3W G rd t2 t3 t4 t5 t6 h c df=some q) (hq:q.e = .normal) (k:G (Z3V rd) q.vs (gcR h c df q).h (gcR h c df q).c q.df=some r):G (Z3V rd) [t2,t3,t4,t5,t6] h c df=some r:=Z0y ((Z5U G rd t2 t3 t4 t5 t6 h c df).trans e) hq k
theorem Zg9 {rd:Option Nat} {t2 t3 t4 t5 t6:Value} {h:FH} {c:Nat} {df:List Nat} {q:Rt FH} (e:Z3W G rd t2 t3 t4 t5 t6 h c df=some q) (hq:q.e ≠ .normal):G (Z3V rd) [t2,t3,t4,t5,t6] h c df=some (gcR h c df q):=Z0z ((Z5U G rd t2 t3 t4 t5 t6 h c df).trans e) hq
noncomputable def Z3U (o:Orc H) (rd:Option Nat) (t1 t2 t3 t16 t17 t18:Value) (h:H) (c:Nat) (df:List Nat):Option (Rt H) :=
 (Z00 P .lss 3 t18 t17).bind fun t19 =>
 Z09 t19
 ((ixS 1 t16 t18).bind fun t21 =>
 (ld1 h t21).bind fun t22 =>
 (Z01 t3 0).bind fun t23 =>
 (ld1 h t23).bind fun t24 =>
 (Z01 t3 1).bind fun t26 =>
 (ld1 h t26).bind fun t27 =>
 (Z01 t1 1).bind fun t30 =>
 (ld1 h t30).bind fun t31 =>
 (ixS 4 t31 t18).bind fun t33 =>
 (ldN h 4 t33).bind fun t34 =>
 (callF o 62 [t34] h (c+1+1+1)).bind fun r0 =>
 (ixS 1 t24 t22).bind fun t36 =>
 (stN r0.2.1 1 t36 t18).bind fun h2 =>
 (ixS 4 t27 t22).bind fun t37 =>
 (stN h2 4 t37 r0.1).bind fun h4 =>
 (bif (Z14 (Z22 t23) h r0.2.1 && (Z14 (Z22 t26) h r0.2.1 && (Z14 (Z22 t26) r0.2.1 h2 && true))) then
 (Z00 P .add 3 t18 (.int .i64 1)).bind fun t38 =>
 some ⟨.normal,[t1,t2,t3,t16,t17,t38],h4,(r0.2.2+1),df⟩
 else none))
 (some ⟨(.exit 0),[t1,t2,t3,t16,t17,t18],h,(c+1),df⟩)
theorem Z4k (o:Orc H) (rd:Option Nat) (t1 t2 t3 t16 t17 t18:Value) (h:H) (c:Nat) (df:List Nat):jx P o 40 rd Z31 (Z0g [1,2,3,16,17,18] [t1,t2,t3,t16,t17,t18]) h c df (Klp [1,2,3,16,17,18])=Z3U o rd t1 t2 t3 t16 t17 t18 h c df:=by kernel_rfl
noncomputable def ZhS (o:Orc H) (t0:Value) (h:H) (c:Nat):Option (Rt H) :=
 (bif (t0:Value).cells.toList.all Z08 then
 (Z01 (ptrTo (256*c+0)) 0).bind fun t6 =>
 (ld1 (newB (newB h (256*c+0) (t0:Value).cells.toList) (256*c+1) [(.slice none 0 0),(.slice none 0 0)]) t6).bind fun t7 =>
 (Z1f t7).bind fun t8 =>
 (mkS 1 8 [(.int .i64 0)] t8 t8).bind fun r0 =>
 (Z01 (ptrTo (256*c+0)) 0).bind fun t10 =>
 (ld1 (newB (newB (newB h (256*c+0) (t0:Value).cells.toList) (256*c+1) [(.slice none 0 0),(.slice none 0 0)]) (256*(c+1)+3) r0.1) t10).bind fun t11 =>
 (Z1f t11).bind fun t12 =>
 (mkS 4 32 [(.int .i64 0),(.int .i64 0),(.int .i64 0),(.int .i64 0)] t12 t12).bind fun r1 =>
 (Z1v [(.slice none 0 0),(.slice none 0 0)] [(0,1,(.slice (some ⟨(256*(c+1)+3),0,none⟩) r0.2.1 r0.2.2)),(1,1,(.slice (some ⟨(256*(c+1)+7),0,none⟩) r1.2.1 r1.2.2))]).bind fun t14 =>
 (stN (newB (newB (newB (newB (newB h (256*c+0) (t0:Value).cells.toList) (256*c+1) [(.slice none 0 0),(.slice none 0 0)]) (256*(c+1)+3) r0.1) (256*(c+1)+7) r1.1) (256*(c+1)+9) [(.slice none 0 0),(.slice none 0 0)]) 2 (ptrTo (256*(c+1)+9)) t14).bind fun h3 =>
 (Z01 (ptrTo (256*c+0)) 0).bind fun t15 =>
 (ld1 h3 t15).bind fun t16 =>
 (Z1f t16).bind fun t17 =>
 (o (Z9L none) [(ptrTo (256*c+0)),(ptrTo (256*c+1)),(ptrTo (256*(c+1)+9)),t16,t17,(.int .i64 0)] h3 (c+1+1+1) []).bind fun r4 =>
 cond (Z0t r4.e (.exit 0))
 ((ldN r4.h 2 (r4.v 2)).bind fun t39 =>
 (stN r4.h 2 (r4.v 1) t39).bind fun h6 =>
 (Z07 h6 r4.df).bind fun h7 =>
 (ldN h7 2 (r4.v 1)).bind fun v8 =>
 some ⟨.ret,[v8],h7,(r4.c+1),[]⟩)
 (none)
 else none)
theorem ZeI (o:Orc H) (t0:Value) (h:H) (c:Nat):jx P o 40 none f46_c (Z0g (List.range 1) [t0]) h c [] (Kfn P Try.f46.results.toList)=ZhS o t0 h c:=by kernel_rfl
theorem f46_go {t0:Value} {h:FH} {c:Nat} {df:List Nat} {r:Rt FH} (e:ZhS G t0 h c=some r):G (.fn 46) [t0] h c df=some r:=Z0p (a:=ZcT) bk_46 rfl (fun args h c=>by cases args <;> rfl) rfl ((ZeI G t0 h c).trans e)
noncomputable def Z3T (o:Orc H) (rd:Option Nat) (t1 t2 t3 t4:Value) (h:H) (c:Nat) (df:List Nat):Option (Rt H) :=
 (Z00 P .lss 3 t4 (.int .i64 4)).bind fun t10 =>
 Z09 t10
 ((ixA 4 1 t1 t4).bind fun t14 =>
 (ld1 h t14).bind fun t15 =>
 (ixA 4 1 t3 t15).bind fun t17 =>
 (stN h 1 t17 t4).bind fun h1 =>
 (Z00 P .add 3 t4 (.int .i64 1)).bind fun t12 =>
 some ⟨.normal,[t1,t2,t3,t12],h1,(c+1+1+1),df⟩)
 (some ⟨(.exit 0),[t1,t2,t3,t4],h,(c+1),df⟩)
theorem Z5T (o:Orc H) (rd:Option Nat) (t1 t2 t3 t4:Value) (h:H) (c:Nat) (df:List Nat):jx P o 19 rd Z71 (Z0g [1,2,3,4] [t1,t2,t3,t4]) h c df (Klp [1,2,3,4])=Z3T o rd t1 t2 t3 t4 h c df:=by kernel_rfl
noncomputable def Znh (o:Orc H) (t0:Value) (h:H) (c:Nat):Option (Rt H) :=
 (bif (t0:Value).cells.toList.all Z08 then
 (ldN (newB (newB (newB h (256*c+0) (t0:Value).cells.toList) (256*c+1) [(.int .i64 0),(.int .i64 0),(.int .i64 0),(.int .i64 0)]) (256*(c+1)+0) [(.int .i64 0),(.int .i64 0),(.int .i64 0),(.int .i64 0)]) 4 (ptrTo (256*c+0))).bind fun t5 =>
 (callF o 50 [t5] (newB (newB (newB h (256*c+0) (t0:Value).cells.toList) (256*c+1) [(.int .i64 0),(.int .i64 0),(.int .i64 0),(.int .i64 0)]) (256*(c+1)+0) [(.int .i64 0),(.int .i64 0),(.int .i64 0),(.int .i64 0)]) (c+1+1+1)).bind fun r0 =>
 (Z10 .not r0.1).bind fun t7 =>
 Z09 t7
 ((ldN r0.2.1 4 (ptrTo (256*(c+1)+0))).bind fun t8 =>
 (stN r0.2.1 4 (ptrTo (256*c+1)) t8).bind fun h2 =>
 (ldN h2 4 (ptrTo (256*c+1))).bind fun v3 =>
 some ⟨.ret,[v3],h2,(r0.2.2+1),[]⟩)
 ((o (Z3S none) [(ptrTo (256*c+0)),(ptrTo (256*c+1)),(ptrTo (256*(c+1)+0)),(.int .i64 0)] r0.2.1 (r0.2.2+1) []).bind fun r4 =>
 cond (Z0t r4.e (.exit 0))
  ((ldN r4.h 4 (r4.v 2)).bind fun t18 =>
  (stN r4.h 4 (r4.v 1) t18).bind fun h6 =>
  (Z07 h6 r4.df).bind fun h7 =>
  (ldN h7 4 (r4.v 1)).bind fun v8 =>
  some ⟨.ret,[v8],h7,(r4.c+1),[]⟩)
  (none))
 else none)
theorem ZkZ (o:Orc H) (t0:Value) (h:H) (c:Nat):jx P o 19 none f47_c (Z0g (List.range 1) [t0]) h c [] (Kfn P Try.f47.results.toList)=Znh o t0 h c:=by kernel_rfl
theorem f47_go {t0:Value} {h:FH} {c:Nat} {df:List Nat} {r:Rt FH} (e:Znh G t0 h c=some r):G (.fn 47) [t0] h c df=some (gcR h c [] r):=Z0p (a:=ZkY) bk_47 rfl (fun args h c=>by cases args <;> rfl) rfl ((ZkZ G t0 h c).trans e)
theorem Zg8 {rd:Option Nat} {t1 t2 t3 t4:Value} {h:FH} {c:Nat} {df:List Nat} {q r:Rt FH} (e:Z3T G rd t1 t2 t3 t4 h c df=some q) (hq:q.e = .normal) (k:G (Z3S rd) q.vs (gcR h c df q).h (gcR h c df q).c q.df=some r):G (Z3S rd) [t1,t2,t3,t4] h c df=some r:=Z0y ((Z5T G rd t1 t2 t3 t4 h c df).trans e) hq k
theorem Zg7 {rd:Option Nat} {t1 t2 t3 t4:Value} {h:FH} {c:Nat} {df:List Nat} {q:Rt FH} (e:Z3T G rd t1 t2 t3 t4 h c df=some q) (hq:q.e ≠ .normal):G (Z3S rd) [t1,t2,t3,t4] h c df=some (gcR h c df q):=Z0z ((Z5T G rd t1 t2 t3 t4 h c df).trans e) hq
noncomputable def Z70 (o:Orc H) (rd:Option Nat) (t0 t1 t2 t6 t7 t8:Value) (h:H) (c:Nat) (df:List Nat):Option (Rt H) :=
 (Z00 P .lss 3 t8 t2).bind fun t23 =>
 Z09 t23
 ((ixS 1 t0 t8).bind fun t28 =>
 (ld1 h t28).bind fun t29 =>
 (Z00 P .lss 3 t29 (.int .i64 0)).bind fun t30 =>
 (gd t30 false h (c+1+1) (some t0)).bind fun r0 =>
 (gd t30 false r0.2.1 r0.2.2 (some t8)).bind fun r1 =>
 (gd t30 false r1.2.1 r1.2.2 (ixS 1 r0.1 r1.1)).bind fun r2 =>
 (gd t30 false r2.2.1 r2.2.2 (ld1 r2.2.1 r2.1)).bind fun r3 =>
 (gd t30 false r3.2.1 r3.2.2 (some t2)).bind fun r4 =>
 (gd t30 false r4.2.1 r4.2.2 (Z00 P .geq 3 r3.1 r4.1)).bind fun r5 =>
 (Z0v t30 (.bool true) r5.1).bind fun t38 =>
 (gd t38 false r5.2.1 r5.2.2 (some t7)).bind fun r6 =>
 (gd t38 false r6.2.1 r6.2.2 (some t0)).bind fun r7 =>
 (gd t38 false r7.2.1 r7.2.2 (some t8)).bind fun r8 =>
 (gd t38 false r8.2.1 r8.2.2 (ixS 1 r7.1 r8.1)).bind fun r9 =>
 (gd t38 false r9.2.1 r9.2.2 (ld1 r9.2.1 r9.1)).bind fun r10 =>
 (gd t38 false r10.2.1 r10.2.2 (ixS 1 r6.1 r10.1)).bind fun r11 =>
 (gd t38 false r11.2.1 r11.2.2 (ld1 r11.2.1 r11.1)).bind fun r12 =>
 (Z0v t38 (.bool true) r12.1).bind fun t47 =>
 (gd t47 false r12.2.1 r12.2.2 (some t1)).bind fun r13 =>
 (gd t47 false r13.2.1 r13.2.2 (some t8)).bind fun r14 =>
 (gd t47 false r14.2.1 r14.2.2 (ixS 4 r13.1 r14.1)).bind fun r15 =>
 (gd t47 false r15.2.1 r15.2.2 (ldN r15.2.1 4 r15.1)).bind fun r16 =>
 (gg t47 false r16.2.1 r16.2.2 (callF o 50 [r16.1] r16.2.1 r16.2.2)).bind fun r17 =>
 (gd t47 false r17.2.1 r17.2.2 (Z10 .not r17.1)).bind fun r18 =>
 (Z0v t47 (.bool true) r18.1).bind fun t55 =>
 Z09 t55
  (some ⟨.ret,[t0,t1,t2,(.bool false),t7,t8],r18.2.1,(r18.2.2+1),df⟩)
  ((ixS 1 t0 t8).bind fun t59 =>
  (ld1 r18.2.1 t59).bind fun t60 =>
  (ixS 1 t7 t60).bind fun t61 =>
  (stN r18.2.1 1 t61 (.bool true)).bind fun h21 =>
  (Z00 P .add 3 t8 (.int .i64 1)).bind fun t25 =>
  some ⟨.normal,[t0,t1,t2,t6,t7,t25],h21,(r18.2.2+1+1),df⟩))
 (some ⟨(.exit 0),[t0,t1,t2,t6,t7,t8],h,(c+1),df⟩)
theorem Z5S (o:Orc H) (rd:Option Nat) (t0 t1 t2 t6 t7 t8:Value) (h:H) (c:Nat) (df:List Nat):jx P o 62 rd Z6Z (Z0g [0,1,2,6,7,8] [t0,t1,t2,t6,t7,t8]) h c df (Klp [0,1,2,6,7,8])=Z70 o rd t0 t1 t2 t6 t7 t8 h c df:=by kernel_rfl
noncomputable def Zng (o:Orc H) (t0 t1 t2:Value) (h:H) (c:Nat):Option (Rt H) :=
 (Z1f t0).bind fun t10 =>
 (Z00 P .neq 3 t10 t2).bind fun t12 =>
 (gd t12 false h (c+1+1) (some t1)).bind fun r0 =>
 (gg t12 false r0.2.1 r0.2.2 (((Z1f r0.1).bind fun v=>some (v,r0.2.1)).bind fun r=>some (r.1,r.2,r0.2.2))).bind fun r1 =>
 (gd t12 false r1.2.1 r1.2.2 (some t2)).bind fun r2 =>
 (gd t12 false r2.2.1 r2.2.2 (Z00 P .neq 3 r1.1 r2.1)).bind fun r3 =>
 (Z0v t12 (.bool true) r3.1).bind fun t18 =>
 Z09 t18
 (some ⟨.ret,[(.bool false)],r3.2.1,(r3.2.2+1),[]⟩)
 ((mkS 1 1 [(.bool false)] t2 t2).bind fun r4 =>
 (o (Z9K none) [t0,t1,t2,(.bool false),(.slice (some ⟨(256*r3.2.2+1),0,none⟩) r4.2.1 r4.2.2),(.int .i64 0)] (newB r3.2.1 (256*r3.2.2+1) r4.1) (r3.2.2+1+1) []).bind fun r5 =>
 cond (Z0t r5.e (.exit 0))
  ((Z07 r5.h r5.df).bind fun h7 =>
  some ⟨.ret,[(.bool true)],h7,(r5.c+1),[]⟩)
  (cond (Z0t r5.e .ret)
   ((Z07 r5.h r5.df).bind fun h6 =>
   some ⟨.ret,[r5.v 3],h6,r5.c,[]⟩)
   (none)))
theorem ZkX (o:Orc H) (t0 t1 t2:Value) (h:H) (c:Nat):jx P o 62 none f48_c (Z0g (List.range 3) [t0,t1,t2]) h c [] (Kfn P Try.f48.results.toList)=Zng o t0 t1 t2 h c:=by kernel_rfl
theorem f48_go {t0 t1 t2:Value} {h:FH} {c:Nat} {df:List Nat} {r:Rt FH} (e:Zng G t0 t1 t2 h c=some r):G (.fn 48) [t0,t1,t2] h c df=some (gcR h c [] r):=Z0p (a:=ZkW) bk_48 rfl (fun args h c=>by cases args <;> rfl) rfl ((ZkX G t0 t1 t2 h c).trans e)
end Go.Proofs.Ytemkjcpfgmbibaa
