/- Parts of a proof: S0 S1 S2. Conditions: none. -/
import Derived.Test.YtdodippbpdechaaM8
set_option linter.all false
set_option maxRecDepth 100000
namespace Go.Proofs.Ytdodippbpdechaa
open Go Go.Ab Go.Proofs
variable {H:Type} [HeapC H]
noncomputable def Za6 (o:Orc H) (rd:Option Nat) (t1 t3 t5 t7 t9 t10 t11 t12 t77 t78 t79:Value) (h:H) (c:Nat) (df:List Nat):Option (Rt H) :=
 (Z00 P .lss 3 t79 t78).bind fun t80 =>
 Z0b t80
 ((ixS 6 t77 t79).bind fun t81 =>
 (ldN h 6 t81).bind fun t82 =>
 (stN (newB h (256*(c+1)+2) [(.int .i64 0),(.int .i64 0),(.int .i64 0),(.int .i64 0),(.bool false),(.bool false)]) 6 (ptrTo (256*(c+1)+2)) t82).bind fun h1 =>
 (Z03 (ptrTo (256*(c+1)+2)) 3).bind fun t84 =>
 (ld1 h1 t84).bind fun t85 =>
 (Z00 P .add 3 t9 t85).bind fun t86 =>
 (Z03 (ptrTo (256*(c+1)+2)) 3).bind fun t88 =>
 (ld1 h1 t88).bind fun t89 =>
 (Z00 P .sub 3 (.int .i64 2) t89).bind fun t90 =>
 (Z00 P .add 3 t10 t90).bind fun t91 =>
 (Z00 P .add 3 t79 (.int .i64 1)).bind fun t92 =>
 some ⟨.normal,[t1,t3,t5,t7,t86,t91,t11,t12,t77,t78,t92],h1,(c+1+1+1+1+1),df⟩)
 (some ⟨(.exit 0),[t1,t3,t5,t7,t9,t10,t11,t12,t77,t78,t79],h,(c+1),df⟩)
theorem Z7R (o:Orc H) (rd:Option Nat) (t1 t3 t5 t7 t9 t10 t11 t12 t77 t78 t79:Value) (h:H) (c:Nat) (df:List Nat):jx P o 173 rd Za2 (Z0n [1,3,5,7,9,10,11,12,77,78,79] [t1,t3,t5,t7,t9,t10,t11,t12,t77,t78,t79]) h c df (Klp [1,3,5,7,9,10,11,12,77,78,79])=Za6 o rd t1 t3 t5 t7 t9 t10 t11 t12 t77 t78 t79 h c df:=by kernel_rfl
noncomputable def Za5 (o:Orc H) (rd:Option Nat) (t1 t3 t5 t7 t9 t10 t11 t12 t94 t95 t96:Value) (h:H) (c:Nat) (df:List Nat):Option (Rt H) :=
 (Z00 P .lss 3 t96 t95).bind fun t97 =>
 Z0b t97
 ((ixS 1 t94 t96).bind fun t98 =>
 (ld1 h t98).bind fun t99 =>
 (Z0b t99
  ((Z00 P .add 3 t11 (.int .i64 1)).bind fun t102 =>
  some ⟨.normal,[t1,t3,t5,t7,t9,t10,t102,t12,t94,t95,t96],h,(c+1+1+1+1),df⟩)
  (some ⟨.normal,[t1,t3,t5,t7,t9,t10,t11,t12,t94,t95,t96],h,(c+1+1+1),df⟩):Option (Rt H)).bind fun r1 =>
 cond (Z0B r1.e .normal)
  ((Z00 P .add 3 (r1.v 10) (.int .i64 1)).bind fun t103 =>
  some ⟨.normal,[r1.v 0,r1.v 1,r1.v 2,r1.v 3,r1.v 4,r1.v 5,r1.v 6,r1.v 7,r1.v 8,r1.v 9,t103],r1.h,(r1.c+1),r1.df⟩)
  (none))
 (some ⟨(.exit 2),[t1,t3,t5,t7,t9,t10,t11,t12,t94,t95,t96],h,(c+1),df⟩)
theorem Z7Q (o:Orc H) (rd:Option Nat) (t1 t3 t5 t7 t9 t10 t11 t12 t94 t95 t96:Value) (h:H) (c:Nat) (df:List Nat):jx P o 173 rd Za1 (Z0n [1,3,5,7,9,10,11,12,94,95,96] [t1,t3,t5,t7,t9,t10,t11,t12,t94,t95,t96]) h c df (Klp [1,3,5,7,9,10,11,12,94,95,96])=Za5 o rd t1 t3 t5 t7 t9 t10 t11 t12 t94 t95 t96 h c df:=by kernel_rfl
noncomputable def Za3 (o:Orc H) (rd:Option Nat) (t1 t3 t5 t7 t9 t10 t11 t12 t17 t18 t105 t106 t107 t112 t113:Value) (h:H) (c:Nat) (df:List Nat):Option (Rt H) :=
 (Z00 P .lss 3 t113 (.int .i64 4)).bind fun t114 =>
 Z0b t114
 ((ixV 4 false 1 t112 t113).bind fun t116 =>
 (Z00 P .add 3 t116 (.int .i64 1)).bind fun t119 =>
 (Z4u max2 [t12,t119]).bind fun t120 =>
 (Z03 t1 0).bind fun t121 =>
 (ld1 h t121).bind fun t122 =>
 (ixS 20 t122 t18).bind fun t125 =>
 (ixA 4 5 t125 t113).bind fun t126 =>
 (Z03 t126 0).bind fun t127 =>
 (ld1 h t127).bind fun t128 =>
 (Z00 P .lss 3 t128 (.int .i64 0)).bind fun t129 =>
 (Z0b t129
  ((Z00 P .add 3 t17 (.int .i64 1)).bind fun t131 =>
  some ⟨.normal,[t1,t3,t5,t7,t9,t10,t11,t120,t131,t18,t105,t106,t107,t112,t113],h,(c+1+1+1+1+1),df⟩)
  (some ⟨.normal,[t1,t3,t5,t7,t9,t10,t11,t120,t17,t18,t105,t106,t107,t112,t113],h,(c+1+1+1+1),df⟩):Option (Rt H)).bind fun r2 =>
 cond (Z0B r2.e .normal)
  ((Z00 P .add 3 (r2.v 14) (.int .i64 1)).bind fun t132 =>
  some ⟨.normal,[r2.v 0,r2.v 1,r2.v 2,r2.v 3,r2.v 4,r2.v 5,r2.v 6,r2.v 7,r2.v 8,r2.v 9,r2.v 10,r2.v 11,r2.v 12,r2.v 13,t132],r2.h,(r2.c+1),r2.df⟩)
  (none))
 (some ⟨(.exit 6),[t1,t3,t5,t7,t9,t10,t11,t12,t17,t18,t105,t106,t107,t112,t113],h,(c+1),df⟩)
theorem Z7O (o:Orc H) (rd:Option Nat) (t1 t3 t5 t7 t9 t10 t11 t12 t17 t18 t105 t106 t107 t112 t113:Value) (h:H) (c:Nat) (df:List Nat):jx P o 173 rd Z9Z (Z0n [1,3,5,7,9,10,11,12,17,18,105,106,107,112,113] [t1,t3,t5,t7,t9,t10,t11,t12,t17,t18,t105,t106,t107,t112,t113]) h c df (Klp [1,3,5,7,9,10,11,12,17,18,105,106,107,112,113])=Za3 o rd t1 t3 t5 t7 t9 t10 t11 t12 t17 t18 t105 t106 t107 t112 t113 h c df:=by kernel_rfl
noncomputable def Za4 (o:Orc H) (rd:Option Nat) (t1 t3 t5 t7 t9 t10 t11 t12 t17 t105 t106 t107:Value) (h:H) (c:Nat) (df:List Nat):Option (Rt H) :=
 (Z00 P .lss 3 t107 t106).bind fun t108 =>
 Z0b t108
 ((ixS 4 t105 t107).bind fun t110 =>
 (ldN h 4 t110).bind fun t111 =>
 (stN (newB h (256*(c+1)+3) [(.int .i64 0),(.int .i64 0),(.int .i64 0),(.int .i64 0)]) 4 (ptrTo (256*(c+1)+3)) t111).bind fun h1 =>
 (ldN h1 4 (ptrTo (256*(c+1)+3))).bind fun t112 =>
 (o (ZdK rd) [t1,t3,t5,t7,t9,t10,t11,t12,t17,t107,t105,t106,t107,t112,(.int .i64 0)] h1 (c+1+1+1) df).bind fun r2 =>
 cond (Z0B r2.e (.exit 6))
  ((Z00 P .add 3 (r2.v 12) (.int .i64 1)).bind fun t133 =>
  some ⟨.normal,[r2.v 0,r2.v 1,r2.v 2,r2.v 3,r2.v 4,r2.v 5,r2.v 6,r2.v 7,r2.v 8,r2.v 10,r2.v 11,t133],r2.h,(r2.c+1),r2.df⟩)
  (none))
 (some ⟨(.exit 4),[t1,t3,t5,t7,t9,t10,t11,t12,t17,t105,t106,t107],h,(c+1),df⟩)
theorem Z7P (o:Orc H) (rd:Option Nat) (t1 t3 t5 t7 t9 t10 t11 t12 t17 t105 t106 t107:Value) (h:H) (c:Nat) (df:List Nat):jx P o 173 rd Za0 (Z0n [1,3,5,7,9,10,11,12,17,105,106,107] [t1,t3,t5,t7,t9,t10,t11,t12,t17,t105,t106,t107]) h c df (Klp [1,3,5,7,9,10,11,12,17,105,106,107])=Za4 o rd t1 t3 t5 t7 t9 t10 t11 t12 t17 t105 t106 t107 h c df:=by kernel_rfl
noncomputable def f3_S (o:Orc H) (t0:Value) (h:H) (c:Nat):Option (Rt H) :=
 (bif (t0:Value).cells.toList.all Z09 then
 (Z03 (ptrTo (256*c+0)) 0).bind fun t22 =>
 (ld1 (newB h (256*c+0) (t0:Value).cells.toList) t22).bind fun t23 =>
 (Z3P t23).bind fun t24 =>
 (Z00 P .gtr 3 t24 (.int .i64 30)).bind fun t25 =>
 Z0b t25
 ((callF o 10 [] (newB h (256*c+0) (t0:Value).cells.toList) (c+1+1+1)).bind fun r0 =>
 some ⟨.ret,[r0.1],r0.2.1,r0.2.2,[]⟩)
 ((ldN (newB h (256*c+0) (t0:Value).cells.toList) 1 (ptrTo (256*c+0))).bind fun t28 =>
 (callF o 11 [t28] (newB h (256*c+0) (t0:Value).cells.toList) (c+1+1+1)).bind fun r1 =>
 (Z3K r1.1 0).bind fun t30 =>
 (Z3K r1.1 1).bind fun t31 =>
 (stN (newB r1.2.1 (256*(c+1+1)+5) [(.slice none 0 0),(.slice none 0 0),(.slice none 0 0),(.slice none 0 0),(.slice none 0 0),(.slice none 0 0)]) 6 (ptrTo (256*(c+1+1)+5)) t30).bind fun h3 =>
 (ldN h3 1 (ptrTo (256*c+0))).bind fun t33 =>
 (callF o 12 [t33] h3 (r1.2.2+1)).bind fun r4 =>
 (Z3K r4.1 0).bind fun t35 =>
 (Z3K r4.1 1).bind fun t36 =>
 (ldN r4.2.1 1 (ptrTo (256*c+0))).bind fun t38 =>
 (callF o 13 [t38] r4.2.1 (r4.2.2+1)).bind fun r5 =>
 (Z3K r5.1 0).bind fun t40 =>
 (Z3K r5.1 1).bind fun t41 =>
 (Z00 P .neq 33 t31 (.int .i64 0)).bind fun t43 =>
 (gd t43 false r5.2.1 (r5.2.2+1) (some t36)).bind fun r6 =>
 (gd t43 false r6.2.1 r6.2.2 (Z00 P .neq 33 r6.1 (.int .i64 0))).bind fun r7 =>
 (Z0X t43 (.bool true) r7.1).bind fun t47 =>
 (gd t47 false r7.2.1 r7.2.2 (some t41)).bind fun r8 =>
 (gd t47 false r8.2.1 r8.2.2 (Z00 P .neq 33 r8.1 (.int .i64 0))).bind fun r9 =>
 (Z0X t47 (.bool true) r9.1).bind fun t51 =>
 (gd t51 false r9.2.1 r9.2.2 (Z03 (ptrTo (256*(c+1+1)+5)) 2)).bind fun r10 =>
 (gd t51 false r10.2.1 r10.2.2 (ld1 r10.2.1 r10.1)).bind fun r11 =>
 (gg t51 false r11.2.1 r11.2.2 (((Z3P r11.1).bind fun v=>some (v,r11.2.1)).bind fun r=>some (r.1,r.2,r11.2.2))).bind fun r12 =>
 (gd t51 false r12.2.1 r12.2.2 (Z03 (ptrTo (256*c+0)) 0)).bind fun r13 =>
 (gd t51 false r13.2.1 r13.2.2 (ld1 r13.2.1 r13.1)).bind fun r14 =>
 (gg t51 false r14.2.1 r14.2.2 (((Z3P r14.1).bind fun v=>some (v,r14.2.1)).bind fun r=>some (r.1,r.2,r14.2.2))).bind fun r15 =>
 (gd t51 false r15.2.1 r15.2.2 (Z00 P .neq 3 r12.1 r15.1)).bind fun r16 =>
 (Z0X t51 (.bool true) r16.1).bind fun t60 =>
 (gd t60 false r16.2.1 r16.2.2 (Z03 (ptrTo (256*(c+1+1)+5)) 1)).bind fun r17 =>
 (gd t60 false r17.2.1 r17.2.2 (ld1 r17.2.1 r17.1)).bind fun r18 =>
 (gg t60 false r18.2.1 r18.2.2 (((Z3P r18.1).bind fun v=>some (v,r18.2.1)).bind fun r=>some (r.1,r.2,r18.2.2))).bind fun r19 =>
 (gd t60 false r19.2.1 r19.2.2 (Z03 (ptrTo (256*c+0)) 0)).bind fun r20 =>
 (gd t60 false r20.2.1 r20.2.2 (ld1 r20.2.1 r20.1)).bind fun r21 =>
 (gg t60 false r21.2.1 r21.2.2 (((Z3P r21.1).bind fun v=>some (v,r21.2.1)).bind fun r=>some (r.1,r.2,r21.2.2))).bind fun r22 =>
 (gd t60 false r22.2.1 r22.2.2 (Z00 P .neq 3 r19.1 r22.1)).bind fun r23 =>
 (Z0X t60 (.bool true) r23.1).bind fun t69 =>
 Z0b t69
  ((callF o 10 [] r23.2.1 (r23.2.2+1)).bind fun r24 =>
  (gd r24.1 true r24.2.1 r24.2.2 (ldN r24.2.1 1 (ptrTo (256*c+0)))).bind fun r25 =>
  (gg r24.1 true r25.2.1 r25.2.2 (callF o 14 [r25.1] r25.2.1 r25.2.2)).bind fun r26 =>
  (gd r24.1 true r26.2.1 r26.2.2 (Z00 P .neq 33 r26.1 (.int .i64 0))).bind fun r27 =>
  (Z0X r24.1 r27.1 (.bool false)).bind fun t75 =>
  some ⟨.ret,[t75],r27.2.1,r27.2.2,[]⟩)
  ((Z03 (ptrTo (256*(c+1+1)+5)) 5).bind fun t76 =>
  (ld1 r23.2.1 t76).bind fun t77 =>
  (Z3P t77).bind fun t78 =>
  (o (ZdN none) [(ptrTo (256*c+0)),(ptrTo (256*(c+1+1)+5)),t35,t40,(.int .i64 0),(.int .i64 0),(.int .i64 0),(.int .i64 0),t77,t78,(.int .i64 0)] r23.2.1 (r23.2.2+1+1) []).bind fun r28 =>
  cond (Z0B r28.e (.exit 0))
   ((Z03 (r28.v 1) 4).bind fun t93 =>
   (ld1 r28.h t93).bind fun t94 =>
   (Z3P t94).bind fun t95 =>
   (o (ZdM none) [r28.v 0,r28.v 1,r28.v 2,r28.v 3,r28.v 4,r28.v 5,r28.v 6,r28.v 7,t94,t95,(.int .i64 0)] r28.h (r28.c+1) r28.df).bind fun r29 =>
   cond (Z0B r29.e (.exit 2))
    ((Z03 (r29.v 1) 2).bind fun t104 =>
    (ld1 r29.h t104).bind fun t105 =>
    (Z3P t105).bind fun t106 =>
    (o (ZdL none) [r29.v 0,r29.v 1,r29.v 2,r29.v 3,r29.v 4,r29.v 5,r29.v 6,r29.v 7,(.int .i64 0),t105,t106,(.int .i64 0)] r29.h (r29.c+1+1) r29.df).bind fun r30 =>
    cond (Z0B r30.e (.exit 4))
     ((Z03 (r30.v 1) 3).bind fun t135 =>
     (ld1 r30.h t135).bind fun t136 =>
     (Z3P t136).bind fun t137 =>
     (Z00 P .mul 3 (.int .i64 2) t137).bind fun t138 =>
     (Z00 P .sub 3 t138 (r30.v 6)).bind fun t140 =>
     (Z00 P .mul 3 (.int .i64 3) (r30.v 7)).bind fun t142 =>
     (Z00 P .sub 3 t140 t142).bind fun t143 =>
     (Z03 (r30.v 0) 0).bind fun t144 =>
     (ld1 r30.h t144).bind fun t145 =>
     (Z3P t145).bind fun t146 =>
     (Z00 P .mul 3 (.int .i64 4) t146).bind fun t147 =>
     (Z00 P .add 3 t143 t147).bind fun t148 =>
     (Z00 P .neq 3 (r30.v 4) t148).bind fun t149 =>
     (gd t149 false r30.h (r30.c+1) (some (r30.v 3))).bind fun r31 =>
     (gd t149 false r31.2.1 r31.2.2 (Z00 P .eql 3 r31.1 (.int .i64 1))).bind fun r32 =>
     (gd t149 false r32.2.1 r32.2.2 (some r32.1)).bind fun r33 =>
     (gd r33.1 true r33.2.1 r33.2.2 (some (r30.v 2))).bind fun r34 =>
     (gd r33.1 true r34.2.1 r34.2.2 (Z00 P .neq 3 r34.1 (.int .i64 0))).bind fun r35 =>
     (gg t149 false r35.2.1 r35.2.2 (Z9z r35.2.1 r35.2.2 r33.1 r35.1 (.bool false))).bind fun r36 =>
     (Z0X t149 (.bool true) r36.1).bind fun t157 =>
     Z0b t157
      ((Z0c r36.2.1 r30.df).bind fun h37 =>
      some ⟨.ret,[(.bool false)],h37,(r36.2.2+1),[]⟩)
      ((callF o 10 [] r36.2.1 (r36.2.2+1)).bind fun r38 =>
      (gd r38.1 true r38.2.1 r38.2.2 (some (r30.v 8))).bind fun r39 =>
      (gd r38.1 true r39.2.1 r39.2.2 (Z00 P .gtr 3 r39.1 (.int .i64 0))).bind fun r40 =>
      (gd r38.1 true r40.2.1 r40.2.2 (some r40.1)).bind fun r41 =>
      (gd r41.1 false r41.2.1 r41.2.2 (some (r30.v 6))).bind fun r42 =>
      (gd r41.1 false r42.2.1 r42.2.2 (Z00 P .gtr 3 r42.1 (.int .i64 0))).bind fun r43 =>
      (gg r38.1 true r43.2.1 r43.2.2 (Z9z r43.2.1 r43.2.2 r41.1 (.bool true) r43.1)).bind fun r44 =>
      (gd r38.1 true r44.2.1 r44.2.2 (some r44.1)).bind fun r45 =>
      (gd r45.1 false r45.2.1 r45.2.2 (some (r30.v 2))).bind fun r46 =>
      (gd r45.1 false r46.2.1 r46.2.2 (Z00 P .mul 3 (.int .i64 2) r46.1)).bind fun r47 =>
      (gd r45.1 false r47.2.1 r47.2.2 (some (r30.v 5))).bind fun r48 =>
      (gd r45.1 false r48.2.1 r48.2.2 (Z00 P .eql 3 r47.1 r48.1)).bind fun r49 =>
      (gg r38.1 true r49.2.1 r49.2.2 (Z9z r49.2.1 r49.2.2 r45.1 (.bool true) r49.1)).bind fun r50 =>
      (Z0X r38.1 r50.1 (.bool false)).bind fun t172 =>
      (Z0c r50.2.1 r30.df).bind fun h51 =>
      some ⟨.ret,[t172],h51,r50.2.2,[]⟩))
     (none))
    (none))
   (none)))
 else none)
theorem Zlz (o:Orc H) (t0:Value) (h:H) (c:Nat):jx P o 173 none f3_c (Z0n (List.range 1) [t0]) h c [] (Kfn P Try.f3.results.toList)=f3_S o t0 h c:=by kernel_rfl
theorem f3_go {t0:Value} {h:FH} {c:Nat} {df:List Nat} {r:Rt FH} (e:f3_S G t0 h c=some r):G (.fn 3) [t0] h c df=some (gcR h c [] r):=Z0r (a:=f3_f) bk_3 rfl (fun args h c=>by cases args <;> rfl) rfl ((Zlz G t0 h c).trans e)
noncomputable def ZlD (o:Orc H) (h:H) (c:Nat):Option (Rt H) :=
 (callF o 37 [] h (c+1+1)).bind fun r0 =>
 (callF o 13 [r0.1] r0.2.1 r0.2.2).bind fun r1 =>
 (Z3K r1.1 0).bind fun t8 =>
 (Z3K r1.1 1).bind fun t9 =>
 (callF o 37 [] r1.2.1 (r1.2.2+1)).bind fun r2 =>
 (callF o 11 [r2.1] r2.2.1 r2.2.2).bind fun r3 =>
 (Z3K r3.1 0).bind fun t13 =>
 (Z3K r3.1 1).bind fun t14 =>
 (stN (newB r3.2.1 (256*r1.2.2+5) [(.slice none 0 0),(.slice none 0 0),(.slice none 0 0),(.slice none 0 0),(.slice none 0 0),(.slice none 0 0)]) 6 (ptrTo (256*r1.2.2+5)) t13).bind fun h5 =>
 (Z00 P .eql 33 t9 (.int .i64 0)).bind fun t16 =>
 (gd t16 true h5 (r3.2.2+1) (some t8)).bind fun r6 =>
 (gd t16 true r6.2.1 r6.2.2 (Z00 P .eql 3 r6.1 (.int .i64 1))).bind fun r7 =>
 (Z0X t16 r7.1 (.bool false)).bind fun t20 =>
 (gd t20 true r7.2.1 r7.2.2 (some t14)).bind fun r8 =>
 (gd t20 true r8.2.1 r8.2.2 (Z00 P .eql 33 r8.1 (.int .i64 0))).bind fun r9 =>
 (Z0X t20 r9.1 (.bool false)).bind fun t24 =>
 (gd t24 true r9.2.1 r9.2.2 (Z03 (ptrTo (256*r1.2.2+5)) 3)).bind fun r10 =>
 (gd t24 true r10.2.1 r10.2.2 (ld1 r10.2.1 r10.1)).bind fun r11 =>
 (gg t24 true r11.2.1 r11.2.2 ((Zag [(.int .i64 0),(.int .i64 0),(.int .i64 0)] [(0,1,(.int .i64 1)),(1,1,(.int .i64 4)),(2,1,(.int .i64 1))]).bind fun cs=>some (.slice (some ⟨(256*r3.2.2+13),0,none⟩) 3 3,newB r11.2.1 (256*r3.2.2+13) cs,r11.2.2))).bind fun r12 =>
 (gg t24 true r12.2.1 r12.2.2 (callF o 16 [r11.1,r12.1] r12.2.1 r12.2.2)).bind fun r13 =>
 (Z0X t24 r13.1 (.bool false)).bind fun t30 =>
 some ⟨.ret,[t30],r13.2.1,r13.2.2,[]⟩
theorem ZjJ (o:Orc H) (h:H) (c:Nat):jx P o 31 none f10_c (Z0n (List.range 0) []) h c [] (Kfn P Try.f10.results.toList)=ZlD o h c:=by kernel_rfl
noncomputable def ZeV (o:Orc H) (t0:Value) (h:H) (c:Nat):Option (Rt H) :=
 (bif (t0:Value).cells.toList.all Z09 then
 (ldN (newB (newB h (256*c+0) (t0:Value).cells.toList) (256*c+1) [(.slice none 0 0),(.slice none 0 0),(.slice none 0 0),(.slice none 0 0),(.slice none 0 0),(.slice none 0 0)]) 1 (ptrTo (256*c+0))).bind fun t4 =>
 (callF o 38 [t4] (newB (newB h (256*c+0) (t0:Value).cells.toList) (256*c+1) [(.slice none 0 0),(.slice none 0 0),(.slice none 0 0),(.slice none 0 0),(.slice none 0 0),(.slice none 0 0)]) (c+1+1)).bind fun r0 =>
 (Z00 P .neq 33 r0.1 (.int .i64 0)).bind fun t6 =>
 Z0b t6
 ((Z1M [(.slice none 0 0),(.slice none 0 0),(.slice none 0 0),(.slice none 0 0),(.slice none 0 0),(.slice none 0 0)] []).bind fun t7 =>
 (stN r0.2.1 6 (ptrTo (256*c+1)) t7).bind fun h2 =>
 (ldN h2 6 (ptrTo (256*c+1))).bind fun v3 =>
 some ⟨.ret,[.tuple #[v3,(.int .i64 7)]],h2,(r0.2.2+1),[]⟩)
 ((ldN r0.2.1 1 (ptrTo (256*c+0))).bind fun t8 =>
 (callF o 39 [t8] r0.2.1 (r0.2.2+1)).bind fun r4 =>
 (stN r4.2.1 6 (ptrTo (256*c+1)) r4.1).bind fun h6 =>
 (ldN h6 6 (ptrTo (256*c+1))).bind fun v7 =>
 some ⟨.ret,[.tuple #[v7,(.int .i64 0)]],h6,r4.2.2,[]⟩)
 else none)
theorem ZdT (o:Orc H) (t0:Value) (h:H) (c:Nat):jx P o 10 none f11_c (Z0n (List.range 1) [t0]) h c [] (Kfn P Try.f11.results.toList)=ZeV o t0 h c:=by kernel_rfl
theorem Zkq {t0:Value} {h:FH} {c:Nat} {df:List Nat} {r:Rt FH} (e:ZeV G t0 h c=some r):G (.fn 11) [t0] h c df=some r:=Z0r (a:=ZbZ) bk_11 rfl (fun args h c=>by cases args <;> rfl) rfl ((ZdT G t0 h c).trans e)
noncomputable def ZlC (o:Orc H) (t0:Value) (h:H) (c:Nat):Option (Rt H) :=
 (bif (t0:Value).cells.toList.all Z09 then
 (ldN (newB h (256*c+0) (t0:Value).cells.toList) 1 (ptrTo (256*c+0))).bind fun t11 =>
 (callF o 38 [t11] (newB h (256*c+0) (t0:Value).cells.toList) (c+1+1)).bind fun r0 =>
 (Z00 P .neq 33 r0.1 (.int .i64 0)).bind fun t13 =>
 Z0b t13
 (some ⟨.ret,[.tuple #[(.int .i64 0),(.int .i64 7)]],r0.2.1,(r0.2.2+1),[]⟩)
 ((ldN r0.2.1 1 (ptrTo (256*c+0))).bind fun t14 =>
 (callF o 40 [t14] r0.2.1 (r0.2.2+1)).bind fun r1 =>
 (Z0a r1.1).bind fun t18 =>
 (Z03 t18 1).bind fun t19 =>
 (Z03 t19 0).bind fun t20 =>
 (callF o 41 [t20] r1.2.1 (r1.2.2+1)).bind fun r2 =>
 (Z3K r2.1 0).bind fun t22 =>
 (Z3K r2.1 1).bind fun t23 =>
 (Z0a r1.1).bind fun t26 =>
 (Z03 t26 3).bind fun t27 =>
 (Z03 t27 0).bind fun t28 =>
 (callF o 41 [t28] r2.2.1 (r2.2.2+1)).bind fun r3 =>
 (Z3K r3.1 0).bind fun t30 =>
 (Z3K r3.1 1).bind fun t31 =>
 (Z0a r1.1).bind fun t34 =>
 (Z03 t34 4).bind fun t35 =>
 (Z03 t35 0).bind fun t36 =>
 (callF o 41 [t36] r3.2.1 (r3.2.2+1)).bind fun r4 =>
 (Z3K r4.1 0).bind fun t38 =>
 (Z3K r4.1 1).bind fun t39 =>
 (Z00 P .sub 3 t23 t31).bind fun t42 =>
 (Z00 P .add 3 t42 t39).bind fun t44 =>
 (Z03 (ptrTo (256*c+0)) 0).bind fun t45 =>
 (ld1 r4.2.1 t45).bind fun t46 =>
 (Z3P t46).bind fun t47 =>
 (Z00 P .sub 3 t44 t47).bind fun t48 =>
 some ⟨.ret,[.tuple #[t48,(.int .i64 0)]],r4.2.1,(r4.2.2+1),[]⟩)
 else none)
theorem ZjI (o:Orc H) (t0:Value) (h:H) (c:Nat):jx P o 49 none f12_c (Z0n (List.range 1) [t0]) h c [] (Kfn P Try.f12.results.toList)=ZlC o t0 h c:=by kernel_rfl
theorem f12_go {t0:Value} {h:FH} {c:Nat} {df:List Nat} {r:Rt FH} (e:ZlC G t0 h c=some r):G (.fn 12) [t0] h c df=some (gcR h c [] r):=Z0r (a:=ZjH) bk_12 rfl (fun args h c=>by cases args <;> rfl) rfl ((ZjI G t0 h c).trans e)
noncomputable def Z4h (o:Orc H) (rd:Option Nat) (t2 t3 t4 t12 t13:Value) (h:H) (c:Nat) (df:List Nat):Option (Rt H) :=
 (Z00 P .lss 3 t13 (.int .i64 4)).bind fun t14 =>
 Z0b t14
 ((ixV 4 true 2 t12 t13).bind fun t15 =>
 (stN (newB h (256*(c+1)+1) [(.int .i64 0),.nilFunc]) 2 (ptrTo (256*(c+1)+1)) t15).bind fun h1 =>
 (Z03 (ptrTo (256*(c+1)+1)) 1).bind fun t16 =>
 (ld1 h1 t16).bind fun t17 =>
 (ldN h1 4 t4).bind fun t18 =>
 (Z3A o h1 (c+1+1+1) t17 [t18]).bind fun r2 =>
 Z0b r2.1
  ((Z03 (ptrTo (256*(c+1)+1)) 0).bind fun t20 =>
  (ld1 r2.2.1 t20).bind fun t21 =>
  some ⟨.ret,[t21,(.int .i64 0),t4,t12,t13],r2.2.1,(r2.2.2+1),df⟩)
  ((Z00 P .add 3 t13 (.int .i64 1)).bind fun t22 =>
  some ⟨.normal,[t2,t3,t4,t12,t22],r2.2.1,(r2.2.2+1),df⟩))
 (some ⟨(.exit 0),[t2,t3,t4,t12,t13],h,(c+1),df⟩)
theorem Z4T (o:Orc H) (rd:Option Nat) (t2 t3 t4 t12 t13:Value) (h:H) (c:Nat) (df:List Nat):jx P o 23 rd Z3m (Z0n [2,3,4,12,13] [t2,t3,t4,t12,t13]) h c df (Klp [2,3,4,12,13])=Z4h o rd t2 t3 t4 t12 t13 h c df:=by kernel_rfl
noncomputable def ZgS (o:Orc H) (t0:Value) (h:H) (c:Nat):Option (Rt H) :=
 (bif (t0:Value).cells.toList.all Z09 then
 (ldN (newB h (256*c+0) (t0:Value).cells.toList) 1 (ptrTo (256*c+0))).bind fun t7 =>
 (callF o 38 [t7] (newB h (256*c+0) (t0:Value).cells.toList) (c+1+1)).bind fun r0 =>
 (Z00 P .neq 33 r0.1 (.int .i64 0)).bind fun t9 =>
 Z0b t9
 (some ⟨.ret,[.tuple #[(.int .i64 0),(.int .i64 7)]],r0.2.1,(r0.2.2+1),[]⟩)
 ((ldN r0.2.1 1 (ptrTo (256*c+0))).bind fun t10 =>
 (callF o 42 [t10] r0.2.1 (r0.2.2+1)).bind fun r1 =>
 (stN (newB r1.2.1 (256*r0.2.2+2) [(.bool false),(.bool false),(.bool false),(.bool false)]) 4 (ptrTo (256*r0.2.2+2)) r1.1).bind fun h3 =>
 (callF o 43 [] h3 (r1.2.2+1)).bind fun r4 =>
 (o (Z4g none) [(.int .i64 0),(.int .i64 0),(ptrTo (256*r0.2.2+2)),r4.1,(.int .i64 0)] r4.2.1 r4.2.2 []).bind fun r5 =>
 cond (Z0B r5.e (.exit 0))
  ((Z0c r5.h r5.df).bind fun h7 =>
  some ⟨.ret,[.tuple #[(.int .i64 4),(.int .i64 0)]],h7,(r5.c+1),[]⟩)
  (cond (Z0B r5.e .ret)
   ((Z0c r5.h r5.df).bind fun h6 =>
   some ⟨.ret,[.tuple #[r5.v 0,r5.v 1]],h6,r5.c,[]⟩)
   (none)))
 else none)
theorem ZdS (o:Orc H) (t0:Value) (h:H) (c:Nat):jx P o 23 none f13_c (Z0n (List.range 1) [t0]) h c [] (Kfn P Try.f13.results.toList)=ZgS o t0 h c:=by kernel_rfl
theorem f13_go {t0:Value} {h:FH} {c:Nat} {df:List Nat} {r:Rt FH} (e:ZgS G t0 h c=some r):G (.fn 13) [t0] h c df=some (gcR h c [] r):=Z0r (a:=ZbY) bk_13 rfl (fun args h c=>by cases args <;> rfl) rfl ((ZdS G t0 h c).trans e)

variable {H:Type} [HeapC H]
noncomputable def Z1K (o:Orc H) (rd:Option Nat) (t1 t2 t3 t4 t5:Value) (h:H) (c:Nat) (df:List Nat):Option (Rt H) :=
 (Z00 P .lss 3 t5 (.int .i64 4)).bind fun t18 =>
 Z0b t18
 (((Z03 t1 0).bind fun t21 =>
  (ld1 h t21).bind fun t22 =>
  (ixS 20 t22 t4).bind fun t25 =>
  (ixA 4 5 t25 t5).bind fun t26 =>
  (ldN h 5 t26).bind fun t27 =>
  (stN (newB h (256*(c+1)+7) [(.int .i64 0),(.int .i64 0),(.int .i64 0),(.int .i64 0),(.int .i64 0)]) 5 (ptrTo (256*(c+1)+7)) t27).bind fun h1 =>
  (Z03 (ptrTo (256*(c+1)+7)) 0).bind fun t28 =>
  (ld1 h1 t28).bind fun t29 =>
  (Z00 P .eql 3 t29 (.int .i64 (-1))).bind fun t30 =>
  (gd t30 true h1 (c+1+1+1) (Z03 (ptrTo (256*(c+1)+7)) 1)).bind fun r2 =>
  (gd t30 true r2.2.1 r2.2.2 (ldN r2.2.1 4 r2.1)).bind fun r3 =>
  (gd t30 true r3.2.1 r3.2.2 (Z1M [(.int .i64 0),(.int .i64 0),(.int .i64 0),(.int .i64 0)] [])).bind fun r4 =>
  (gd t30 true r4.2.1 r4.2.2 (Z00 P .eql 42 r3.1 r4.1)).bind fun r5 =>
  (Z0X t30 r5.1 (.bool false)).bind fun t36 =>
  Z0b t36
   (some ⟨.normal,[t1,t2,t3,t4,t5],r5.2.1,r5.2.2,df⟩)
   ((Z03 (ptrTo (256*(c+1)+7)) 0).bind fun t37 =>
   (ld1 r5.2.1 t37).bind fun t38 =>
   (Z00 P .lss 3 t38 (.int .i64 0)).bind fun t39 =>
   (gd t39 false r5.2.1 (r5.2.2+1) (Z03 (ptrTo (256*(c+1)+7)) 0)).bind fun r6 =>
   (gd t39 false r6.2.1 r6.2.2 (ld1 r6.2.1 r6.1)).bind fun r7 =>
   (gd t39 false r7.2.1 r7.2.2 (some t3)).bind fun r8 =>
   (gd t39 false r8.2.1 r8.2.2 (Z00 P .geq 3 r7.1 r8.1)).bind fun r9 =>
   (Z0X t39 (.bool true) r9.1).bind fun t45 =>
   (gd t45 false r9.2.1 r9.2.2 (Z03 (ptrTo (256*(c+1)+7)) 1)).bind fun r10 =>
   (gd t45 false r10.2.1 r10.2.2 (ldN r10.2.1 4 r10.1)).bind fun r11 =>
   (gg t45 false r11.2.1 r11.2.2 (callF o 44 [r11.1] r11.2.1 r11.2.2)).bind fun r12 =>
   (gd t45 false r12.2.1 r12.2.2 (Z3O .not r12.1)).bind fun r13 =>
   (Z0X t45 (.bool true) r13.1).bind fun t51 =>
   (gd t51 false r13.2.1 r13.2.2 (Z03 (ptrTo (256*(c+1)+7)) 0)).bind fun r14 =>
   (gd t51 false r14.2.1 r14.2.2 (ld1 r14.2.1 r14.1)).bind fun r15 =>
   (gd t51 false r15.2.1 r15.2.2 (some t4)).bind fun r16 =>
   (gd t51 false r16.2.1 r16.2.2 (Z00 P .eql 3 r15.1 r16.1)).bind fun r17 =>
   (gd t51 false r17.2.1 r17.2.2 (some r17.1)).bind fun r18 =>
   (gd r18.1 true r18.2.1 r18.2.2 (some t5)).bind fun r19 =>
   (gd r18.1 true r19.2.1 r19.2.2 (Z03 (ptrTo (256*(c+1)+7)) 1)).bind fun r20 =>
   (gd r18.1 true r20.2.1 r20.2.2 (ixA 4 1 r20.1 r19.1)).bind fun r21 =>
   (gd r18.1 true r21.2.1 r21.2.2 (ld1 r21.2.1 r21.1)).bind fun r22 =>
   (gd r18.1 true r22.2.1 r22.2.2 (some t5)).bind fun r23 =>
   (gd r18.1 true r23.2.1 r23.2.2 (Z00 P .eql 3 r22.1 r23.1)).bind fun r24 =>
   (gg t51 false r24.2.1 r24.2.2 (Z9z r24.2.1 r24.2.2 r18.1 r24.1 (.bool false))).bind fun r25 =>
   (Z0X t51 (.bool true) r25.1).bind fun t65 =>
   Z0b t65
    (some ⟨.ret,[t1,(.int .i64 7),t3,t4,t5],r25.2.1,(r25.2.2+1),df⟩)
    ((Z03 t1 0).bind fun t66 =>
    (ld1 r25.2.1 t66).bind fun t67 =>
    (Z03 (ptrTo (256*(c+1)+7)) 0).bind fun t68 =>
    (ld1 r25.2.1 t68).bind fun t69 =>
    (Z03 (ptrTo (256*(c+1)+7)) 1).bind fun t71 =>
    (ixA 4 1 t71 t5).bind fun t72 =>
    (ld1 r25.2.1 t72).bind fun t73 =>
    (ixS 20 t67 t69).bind fun t74 =>
    (ixA 4 5 t74 t73).bind fun t75 =>
    (ldN r25.2.1 5 t75).bind fun t76 =>
    (Z03 (ptrTo (256*(c+1)+7)) 1).bind fun t78 =>
    (ldN r25.2.1 4 t78).bind fun t79 =>
    (callF o 45 [t79] r25.2.1 (r25.2.2+1)).bind fun r27 =>
    (Z1M [(.int .i64 0),(.int .i64 0),(.int .i64 0),(.int .i64 0),(.int .i64 0)] [(0,1,t4),(1,4,r27.1)]).bind fun t81 =>
    (Z00 P .neq 44 t76 t81).bind fun t82 =>
    (bif (Z1r (Z2y t66) r25.2.1 r27.2.1 && (Z1r (Z2y t68) r25.2.1 r27.2.1 && (Z1r (Z2y t72) r25.2.1 r27.2.1 && (Z1r (Z2y t75) r25.2.1 r27.2.1 && true)))) then
    Z0b t82
     (some ⟨.ret,[t1,(.int .i64 7),t3,t4,t5],r27.2.1,(r27.2.2+1),df⟩)
     (some ⟨.normal,[t1,t2,t3,t4,t5],r27.2.1,r27.2.2,df⟩)
    else none))):Option (Rt H)).bind fun r29 =>
 cond (Z0B r29.e .normal)
  ((Z00 P .add 3 (r29.v 4) (.int .i64 1)).bind fun t20 =>
  some ⟨.normal,[r29.v 0,r29.v 1,r29.v 2,r29.v 3,t20],r29.h,(r29.c+1),r29.df⟩)
  (cond (Z0B r29.e .ret)
   (some ⟨.ret,[r29.v 0,r29.v 1,r29.v 2,r29.v 3,r29.v 4],r29.h,r29.c,r29.df⟩)
   (none)))
 (some ⟨(.exit 2),[t1,t2,t3,t4,t5],h,(c+1),df⟩)
theorem Z4R (o:Orc H) (rd:Option Nat) (t1 t2 t3 t4 t5:Value) (h:H) (c:Nat) (df:List Nat):jx P o 83 rd Z3k (Z0n [1,2,3,4,5] [t1,t2,t3,t4,t5]) h c df (Klp [1,2,3,4,5])=Z1K o rd t1 t2 t3 t4 t5 h c df:=by kernel_rfl
noncomputable def Z19 (o:Orc H) (rd:Option Nat) (t1 t2 t3 t4:Value) (h:H) (c:Nat) (df:List Nat):Option (Rt H) :=
 (Z00 P .lss 3 t4 t3).bind fun t14 =>
 Z0b t14
 ((o (Z3i rd) [t1,t2,t3,t4,(.int .i64 0)] h (c+1+1) df).bind fun r0 =>
 cond (Z0B r0.e (.exit 2))
  ((Z00 P .add 3 (r0.v 3) (.int .i64 1)).bind fun t16 =>
  some ⟨.normal,[r0.v 0,r0.v 1,r0.v 2,t16],r0.h,(r0.c+1),r0.df⟩)
  (cond (Z0B r0.e .ret)
   (some ⟨.ret,[r0.v 0,r0.v 1,r0.v 2,r0.v 3],r0.h,r0.c,r0.df⟩)
   (none)))
 (some ⟨(.exit 0),[t1,t2,t3,t4],h,(c+1),df⟩)
theorem Z4S (o:Orc H) (rd:Option Nat) (t1 t2 t3 t4:Value) (h:H) (c:Nat) (df:List Nat):jx P o 83 rd Z3l (Z0n [1,2,3,4] [t1,t2,t3,t4]) h c df (Klp [1,2,3,4])=Z19 o rd t1 t2 t3 t4 h c df:=by kernel_rfl
noncomputable def ZgR (o:Orc H) (t0:Value) (h:H) (c:Nat):Option (Rt H) :=
 (bif (t0:Value).cells.toList.all Z09 then
 (Z03 (ptrTo (256*c+0)) 0).bind fun t7 =>
 (ld1 (newB h (256*c+0) (t0:Value).cells.toList) t7).bind fun t8 =>
 (Z3P t8).bind fun t9 =>
 (Z00 P .gtr 3 t9 (.int .i64 1000)).bind fun t11 =>
 Z0b t11
 (some ⟨.ret,[(.int .i64 7)],(newB h (256*c+0) (t0:Value).cells.toList),(c+1+1+1+1),[]⟩)
 ((o (Z3j none) [(ptrTo (256*c+0)),(.int .i64 0),t9,(.int .i64 0)] (newB h (256*c+0) (t0:Value).cells.toList) (c+1+1+1+1) []).bind fun r0 =>
 cond (Z0B r0.e (.exit 0))
  ((Z0c r0.h r0.df).bind fun h2 =>
  some ⟨.ret,[(.int .i64 0)],h2,(r0.c+1),[]⟩)
  (cond (Z0B r0.e .ret)
   ((Z0c r0.h r0.df).bind fun h1 =>
   some ⟨.ret,[r0.v 1],h1,r0.c,[]⟩)
   (none)))
 else none)
theorem ZdR (o:Orc H) (t0:Value) (h:H) (c:Nat):jx P o 83 none f14_c (Z0n (List.range 1) [t0]) h c [] (Kfn P Try.f14.results.toList)=ZgR o t0 h c:=by kernel_rfl
theorem f14_go {t0:Value} {h:FH} {c:Nat} {df:List Nat} {r:Rt FH} (e:ZgR G t0 h c=some r):G (.fn 14) [t0] h c df=some (gcR h c [] r):=Z0r (a:=ZbX) bk_14 rfl (fun args h c=>by cases args <;> rfl) rfl ((ZdR G t0 h c).trans e)
theorem Z99 {rd:Option Nat} {t1 t2 t3 t4 t5:Value} {h:FH} {c:Nat} {df:List Nat} {q r:Rt FH} (e:Z1K G rd t1 t2 t3 t4 t5 h c df=some q) (hq:q.e = .normal) (k:G (Z3i rd) q.vs (gcR h c df q).h (gcR h c df q).c q.df=some r):G (Z3i rd) [t1,t2,t3,t4,t5] h c df=some r:=Z0I ((Z4R G rd t1 t2 t3 t4 t5 h c df).trans e) hq k
theorem Z97 {rd:Option Nat} {t1 t2 t3 t4 t5:Value} {h:FH} {c:Nat} {df:List Nat} {q:Rt FH} (e:Z1K G rd t1 t2 t3 t4 t5 h c df=some q) (hq:q.e ≠ .normal):G (Z3i rd) [t1,t2,t3,t4,t5] h c df=some (gcR h c df q):=Z0J ((Z4R G rd t1 t2 t3 t4 t5 h c df).trans e) hq
theorem Z9a {rd:Option Nat} {t1 t2 t3 t4:Value} {h:FH} {c:Nat} {df:List Nat} {q r:Rt FH} (e:Z19 G rd t1 t2 t3 t4 h c df=some q) (hq:q.e = .normal) (k:G (Z3j rd) q.vs (gcR h c df q).h (gcR h c df q).c q.df=some r):G (Z3j rd) [t1,t2,t3,t4] h c df=some r:=Z0I ((Z4S G rd t1 t2 t3 t4 h c df).trans e) hq k
theorem Z98 {rd:Option Nat} {t1 t2 t3 t4:Value} {h:FH} {c:Nat} {df:List Nat} {q:Rt FH} (e:Z19 G rd t1 t2 t3 t4 h c df=some q) (hq:q.e ≠ .normal):G (Z3j rd) [t1,t2,t3,t4] h c df=some (gcR h c df q):=Z0J ((Z4S G rd t1 t2 t3 t4 h c df).trans e) hq
noncomputable def Z6z (o:Orc H) (rd:Option Nat) (t0 t1 t4 t5:Value) (h:H) (c:Nat) (df:List Nat):Option (Rt H) :=
 (Z3P t0).bind fun t13 =>
 (Z00 P .lss 3 t5 t13).bind fun t14 =>
 Z0b t14
 ((ixS 1 t0 t5).bind fun t19 =>
 (ld1 h t19).bind fun t20 =>
 (ixS 1 t1 t5).bind fun t23 =>
 (ld1 h t23).bind fun t24 =>
 (Z00 P .neq 3 t20 t24).bind fun t25 =>
 Z0b t25
  (some ⟨.ret,[t0,t1,(.bool false),t5],h,(c+1+1+1),df⟩)
  ((Z00 P .add 3 t5 (.int .i64 1)).bind fun t16 =>
  some ⟨.normal,[t0,t1,t4,t16],h,(c+1+1+1),df⟩))
 (some ⟨(.exit 0),[t0,t1,t4,t5],h,(c+1),df⟩)
theorem Za8 (o:Orc H) (rd:Option Nat) (t0 t1 t4 t5:Value) (h:H) (c:Nat) (df:List Nat):jx P o 26 rd Z3h (Z0n [0,1,4,5] [t0,t1,t4,t5]) h c df (Klp [0,1,4,5])=Z6z o rd t0 t1 t4 t5 h c df:=by kernel_rfl
noncomputable def ZlB (o:Orc H) (t0 t1:Value) (h:H) (c:Nat):Option (Rt H) :=
 (Z3P t0).bind fun t7 =>
 (Z3P t1).bind fun t9 =>
 (Z00 P .neq 3 t7 t9).bind fun t10 =>
 Z0b t10
 (some ⟨.ret,[(.bool false)],h,(c+1+1+1),[]⟩)
 ((o (ZeT none) [t0,t1,(.bool false),(.int .i64 0)] h (c+1+1+1) []).bind fun r0 =>
 cond (Z0B r0.e (.exit 0))
  ((Z0c r0.h r0.df).bind fun h2 =>
  some ⟨.ret,[(.bool true)],h2,(r0.c+1),[]⟩)
  (cond (Z0B r0.e .ret)
   ((Z0c r0.h r0.df).bind fun h1 =>
   some ⟨.ret,[r0.v 2],h1,r0.c,[]⟩)
   (none)))
theorem ZjG (o:Orc H) (t0 t1:Value) (h:H) (c:Nat):jx P o 26 none f16_c (Z0n (List.range 2) [t0,t1]) h c [] (Kfn P Try.f16.results.toList)=ZlB o t0 t1 h c:=by kernel_rfl
noncomputable def Z4f (o:Orc H) (rd:Option Nat) (t0 t1 t4 t7 t8:Value) (h:H) (c:Nat) (df:List Nat):Option (Rt H) :=
 (Z00 P .lss 3 t8 (.int .i64 6)).bind fun t9 =>
 Z0b t9
 ((ixV 6 true 2 t7 t8).bind fun t11 =>
 (stN (newB h (256*(c+1)+2) [(.int .i64 0),(.int .i64 0)]) 2 (ptrTo (256*(c+1)+2)) t11).bind fun h1 =>
 (ldN h1 2 (ptrTo (256*(c+1)+2))).bind fun t12 =>
 (Z1M [(.int .i64 0),(.int .i64 0)] [(0,1,t0),(1,1,t1)]).bind fun t15 =>
 (Z00 P .eql 106 t12 t15).bind fun t16 =>
 (gd t16 false h1 (c+1+1+1) (ldN h1 2 (ptrTo (256*(c+1)+2)))).bind fun r2 =>
 (gd t16 false r2.2.1 r2.2.2 (some t1)).bind fun r3 =>
 (gd t16 false r3.2.1 r3.2.2 (some t0)).bind fun r4 =>
 (gd t16 false r4.2.1 r4.2.2 (Z1M [(.int .i64 0),(.int .i64 0)] [(0,1,r3.1),(1,1,r4.1)])).bind fun r5 =>
 (gd t16 false r5.2.1 r5.2.2 (Z00 P .eql 106 r2.1 r5.1)).bind fun r6 =>
 (Z0X t16 (.bool true) r6.1).bind fun t23 =>
 Z0b t23
  (some ⟨.ret,[t0,t1,t8,t7,t8],r6.2.1,(r6.2.2+1),df⟩)
  ((Z00 P .add 3 t8 (.int .i64 1)).bind fun t25 =>
  some ⟨.normal,[t0,t1,t4,t7,t25],r6.2.1,(r6.2.2+1),df⟩))
 (some ⟨(.exit 0),[t0,t1,t4,t7,t8],h,(c+1),df⟩)
theorem Z4Q (o:Orc H) (rd:Option Nat) (t0 t1 t4 t7 t8:Value) (h:H) (c:Nat) (df:List Nat):jx P o 26 rd Z3g (Z0n [0,1,4,7,8] [t0,t1,t4,t7,t8]) h c df (Klp [0,1,4,7,8])=Z4f o rd t0 t1 t4 t7 t8 h c df:=by kernel_rfl
noncomputable def ZgQ (o:Orc H) (t0 t1:Value) (h:H) (c:Nat):Option (Rt H) :=
 (callF o 54 [] h (c+1+1)).bind fun r0 =>
 (o (Z96 none) [t0,t1,(.int .i64 0),r0.1,(.int .i64 0)] r0.2.1 r0.2.2 []).bind fun r1 =>
 cond (Z0B r1.e (.exit 0))
 ((Z0c r1.h r1.df).bind fun h3 =>
 some ⟨.ret,[(.int .i64 (-1))],h3,(r1.c+1),[]⟩)
 (cond (Z0B r1.e .ret)
  ((Z0c r1.h r1.df).bind fun h2 =>
  some ⟨.ret,[r1.v 2],h2,r1.c,[]⟩)
  (none))
theorem ZdQ (o:Orc H) (t0 t1:Value) (h:H) (c:Nat):jx P o 26 none f27_c (Z0n (List.range 2) [t0,t1]) h c [] (Kfn P Try.f27.results.toList)=ZgQ o t0 t1 h c:=by kernel_rfl
theorem f27_go {t0 t1:Value} {h:FH} {c:Nat} {df:List Nat} {r:Rt FH} (e:ZgQ G t0 t1 h c=some r):G (.fn 27) [t0,t1] h c df=some (gcR h c [] r):=Z0r (a:=ZbW) bk_27 rfl (fun args h c=>by cases args <;> rfl) rfl ((ZdQ G t0 t1 h c).trans e)
noncomputable def ZlA (o:Orc H) (h:H) (c:Nat):Option (Rt H) :=
 (callF o 62 [(.string (ByteArray.mk #[49,32,48,32,49,48,50,51,32,48,32,49,48,50,51,32,48,32,48,49,51,50,32,48,32,48,49,51,50]))] (newB h (256*c+0) [(.slice none 0 0)]) (c+1+1)).bind fun r0 =>
 (Z3K r0.1 0).bind fun t5 =>
 (Z3K r0.1 1).bind fun t6 =>
 (stN (newB r0.2.1 (256*(c+1)+4) [(.slice none 0 0)]) 1 (ptrTo (256*(c+1)+4)) t5).bind fun h2 =>
 (ldN h2 1 (ptrTo (256*(c+1)+4))).bind fun t7 =>
 (stN h2 1 (ptrTo (256*c+0)) t7).bind fun h4 =>
 (ldN h4 1 (ptrTo (256*c+0))).bind fun v5 =>
 some ⟨.ret,[v5],h4,(r0.2.2+1),[]⟩
theorem ZjF (o:Orc H) (h:H) (c:Nat):jx P o 8 none f37_c (Z0n (List.range 0) []) h c [] (Kfn P Try.f37.results.toList)=ZlA o h c:=by kernel_rfl
noncomputable def Z3f (o:Orc H) (l:Nat) (t13 t14 t1 t2 t3:Value) (h:H) (c:Nat):Option (Rt H) :=
 (stN (newB h (256*c+0) [(.int .i64 0),(.int .i64 0)]) 2 (ptrTo (256*c+0)) t13).bind fun h1 =>
 (stN (newB h1 (256*(c+1)+0) [(.int .i64 0),(.int .i64 0),(.int .i64 0),(.int .i64 0),(.int .i64 0)]) 5 (ptrTo (256*(c+1)+0)) t14).bind fun h3 =>
 (Z3N h3 l).bind fun h4 =>
 ((ldN h4 5 (ptrTo (256*(c+1)+0))).bind fun t15 =>
 (ldN h4 5 t3).bind fun t16 =>
 (Z00 P .eql 44 t15 t16).bind fun t17 =>
 Z0b t17
  (some ⟨.normal,[],h4,(c+1+1+1),[]⟩)
  ((Z03 (ptrTo (256*(c+1)+0)) 0).bind fun t18 =>
  (ld1 h4 t18).bind fun t19 =>
  (Z00 P .lss 3 t19 (.int .i64 0)).bind fun t20 =>
  (gd t20 false h4 (c+1+1+1+1) (Z03 (ptrTo (256*(c+1)+0)) 0)).bind fun r5 =>
  (gd t20 false r5.2.1 r5.2.2 (ld1 r5.2.1 r5.1)).bind fun r6 =>
  (gd t20 false r6.2.1 r6.2.2 (Z03 t1 0)).bind fun r7 =>
  (gd t20 false r7.2.1 r7.2.2 (ld1 r7.2.1 r7.1)).bind fun r8 =>
  (gg t20 false r8.2.1 r8.2.2 (((Z3P r8.1).bind fun v=>some (v,r8.2.1)).bind fun r=>some (r.1,r.2,r8.2.2))).bind fun r9 =>
  (gd t20 false r9.2.1 r9.2.2 (Z00 P .geq 3 r6.1 r9.1)).bind fun r10 =>
  (Z0X t20 (.bool true) r10.1).bind fun t28 =>
  (gd t28 false r10.2.1 r10.2.2 (Z03 (ptrTo (256*(c+1)+0)) 1)).bind fun r11 =>
  (gd t28 false r11.2.1 r11.2.2 (ldN r11.2.1 4 r11.1)).bind fun r12 =>
  (gg t28 false r12.2.1 r12.2.2 (callF o 56 [r12.1] r12.2.1 r12.2.2)).bind fun r13 =>
  (gd t28 false r13.2.1 r13.2.2 (Z3O .not r13.1)).bind fun r14 =>
  (Z0X t28 (.bool true) r14.1).bind fun t34 =>
  (gd t34 false r14.2.1 r14.2.2 (Z03 (ptrTo (256*(c+1)+0)) 0)).bind fun r15 =>
  (gd t34 false r15.2.1 r15.2.2 (ld1 r15.2.1 r15.1)).bind fun r16 =>
  (gd t34 false r16.2.1 r16.2.2 (Z03 (ptrTo (256*c+0)) 0)).bind fun r17 =>
  (gd t34 false r17.2.1 r17.2.2 (ld1 r17.2.1 r17.1)).bind fun r18 =>
  (gd t34 false r18.2.1 r18.2.2 (Z00 P .eql 3 r16.1 r18.1)).bind fun r19 =>
  (gd t34 false r19.2.1 r19.2.2 (some r19.1)).bind fun r20 =>
  (gd r20.1 true r20.2.1 r20.2.2 (Z03 (ptrTo (256*c+0)) 1)).bind fun r21 =>
  (gd r20.1 true r21.2.1 r21.2.2 (ld1 r21.2.1 r21.1)).bind fun r22 =>
  (gd r20.1 true r22.2.1 r22.2.2 (Z03 (ptrTo (256*(c+1)+0)) 1)).bind fun r23 =>
  (gd r20.1 true r23.2.1 r23.2.2 (ixA 4 1 r23.1 r22.1)).bind fun r24 =>
  (gd r20.1 true r24.2.1 r24.2.2 (ld1 r24.2.1 r24.1)).bind fun r25 =>
  (gd r20.1 true r25.2.1 r25.2.2 (Z03 (ptrTo (256*c+0)) 1)).bind fun r26 =>
  (gd r20.1 true r26.2.1 r26.2.2 (ld1 r26.2.1 r26.1)).bind fun r27 =>
  (gd r20.1 true r27.2.1 r27.2.2 (Z00 P .eql 3 r25.1 r27.1)).bind fun r28 =>
  (gg t34 false r28.2.1 r28.2.2 (Z9z r28.2.1 r28.2.2 r20.1 r28.1 (.bool false))).bind fun r29 =>
  (Z0X t34 (.bool true) r29.1).bind fun t51 =>
  Z0b t51
   ((stN r29.2.1 1 t2 (.int .i64 7)).bind fun h31 =>
   some ⟨.ret,[],h31,(r29.2.2+1),[]⟩)
   ((Z03 t1 0).bind fun t52 =>
   (ld1 r29.2.1 t52).bind fun t53 =>
   (Z03 (ptrTo (256*(c+1)+0)) 0).bind fun t54 =>
   (ld1 r29.2.1 t54).bind fun t55 =>
   (Z03 (ptrTo (256*c+0)) 1).bind fun t56 =>
   (ld1 r29.2.1 t56).bind fun t57 =>
   (Z03 (ptrTo (256*(c+1)+0)) 1).bind fun t58 =>
   (ixA 4 1 t58 t57).bind fun t59 =>
   (ld1 r29.2.1 t59).bind fun t60 =>
   (ixS 20 t53 t55).bind fun t61 =>
   (ixA 4 5 t61 t60).bind fun t62 =>
   (ldN r29.2.1 5 t62).bind fun t63 =>
   (Z03 (ptrTo (256*c+0)) 0).bind fun t64 =>
   (ld1 r29.2.1 t64).bind fun t65 =>
   (Z03 (ptrTo (256*(c+1)+0)) 1).bind fun t66 =>
   (ldN r29.2.1 4 t66).bind fun t67 =>
   (callF o 64 [t67] r29.2.1 (r29.2.2+1)).bind fun r32 =>
   (Z1M [(.int .i64 0),(.int .i64 0),(.int .i64 0),(.int .i64 0),(.int .i64 0)] [(0,1,t65),(1,4,r32.1)]).bind fun t69 =>
   (Z00 P .neq 44 t63 t69).bind fun t70 =>
   (bif (Z1r (Z2y t52) r29.2.1 r32.2.1 && (Z1r (Z2y t54) r29.2.1 r32.2.1 && (Z1r (Z2y t56) r29.2.1 r32.2.1 && (Z1r (Z2y t59) r29.2.1 r32.2.1 && (Z1r (Z2y t62) r29.2.1 r32.2.1 && (Z1r (Z2y t64) r29.2.1 r32.2.1 && true)))))) then
   Z0b t70
    ((stN r32.2.1 1 t2 (.int .i64 7)).bind fun h34 =>
    some ⟨.ret,[],h34,(r32.2.2+1),[]⟩)
    (some ⟨.normal,[],r32.2.1,r32.2.2,[]⟩)
   else none))):Option (Rt H)).bind fun r35 =>
 cond (Z0B r35.e .normal)
 ((Z0O r35.h l .ready none).bind fun h37 =>
 cond (List.isEmpty (r35.df:List Nat)) (some ⟨.ret,[.bool true],h37,r35.c,[]⟩) none)
 (cond (Z0B r35.e .ret)
  ((Z0O r35.h l .done (some .ret)).bind fun h36 =>
  cond (List.isEmpty (r35.df:List Nat)) (some ⟨.ret,[.bool false],h36,r35.c,[]⟩) none)
  (none))
theorem Z66 (o:Orc H) (l:Nat) (t13 t14 t1 t2 t3:Value) (h:H) (c:Nat):jx P o 71 (some l) Z1o (Z0n ([13,14]++[1,2,3]) [t13,t14,t1,t2,t3]) h c [] (Zm1 P o 71 l Z1n)=Z3f o l t13 t14 t1 t2 t3 h c:=by kernel_rfl
noncomputable def ZgP (o:Orc H) (t0:Value) (h:H) (c:Nat):Option (Rt H) :=
 (bif (t0:Value).cells.toList.all Z09 then
 (Z03 (ptrTo (256*c+0)) 0).bind fun t6 =>
 (ld1 (newB (newB h (256*c+0) (t0:Value).cells.toList) (256*c+1) [(.int .i64 0)]) t6).bind fun t7 =>
 (Z3P t7).bind fun t8 =>
 (Z00 P .gtr 3 t8 (.int .i64 1000)).bind fun t9 =>
 Z0b t9
 ((stN (newB (newB h (256*c+0) (t0:Value).cells.toList) (256*c+1) [(.int .i64 0)]) 1 (ptrTo (256*c+1)) (.int .i64 7)).bind fun h1 =>
 (ld1 h1 (ptrTo (256*c+1))).bind fun v2 =>
 some ⟨.ret,[v2],h1,(c+1+1+1),[]⟩)
 ((Z1M [(.int .i64 0),(.int .i64 0),(.int .i64 0),(.int .i64 0),(.int .i64 0)] [(0,1,(.int .i64 (-1)))]).bind fun t10 =>
 (stN (newB (newB (newB h (256*c+0) (t0:Value).cells.toList) (256*c+1) [(.int .i64 0)]) (256*(c+1+1)+1) [(.int .i64 0),(.int .i64 0),(.int .i64 0),(.int .i64 0),(.int .i64 0)]) 5 (ptrTo (256*(c+1+1)+1)) t10).bind fun h4 =>
 (ldN h4 1 (ptrTo (256*c+0))).bind fun t11 =>
 (callF o 63 [t11] h4 (c+1+1+1+1)).bind fun r5 =>
 (Z5V o 71 none [1,2,3] [] #[13,14] Z1o Z1n r5.1 [(ptrTo (256*c+0)),(ptrTo (256*c+1)),(ptrTo (256*(c+1+1)+1))] r5.2.1 r5.2.2 []).bind fun q6 =>
 cond (Z0B q6.1 .normal)
  ((stN q6.2.1 1 (ptrTo (256*c+1)) (.int .i64 0)).bind fun h10 =>
  (Z0c h10 q6.2.2.2).bind fun h11 =>
  (ld1 h11 (ptrTo (256*c+1))).bind fun v12 =>
  some ⟨.ret,[v12],h11,(q6.2.2.1+1),[]⟩)
  (cond (Z0B q6.1 .ret)
   ((Z0c q6.2.1 q6.2.2.2).bind fun h7 =>
   (ld1 h7 (ptrTo (256*c+1))).bind fun v8 =>
   some ⟨.ret,[v8],h7,q6.2.2.1,[]⟩)
   (none)))
 else none)
theorem ZdP (o:Orc H) (t0:Value) (h:H) (c:Nat):jx P o 71 none f38_c (Z0n (List.range 1) [t0]) h c [] (Kfn P Try.f38.results.toList)=ZgP o t0 h c:=by kernel_rfl
theorem f38_go {t0:Value} {h:FH} {c:Nat} {df:List Nat} {r:Rt FH} (e:ZgP G t0 h c=some r):G (.fn 38) [t0] h c df=some (gcR h c [] r):=Z0r (a:=ZbV) bk_38 rfl (fun args h c=>by cases args <;> rfl) rfl ((ZdP G t0 h c).trans e)
theorem ZeR {t13 t14 t1 t2 t3:Value} {l:Nat} {h:FH} {c:Nat} {df:List Nat} {r:Rt FH} (e:Z3f G l t13 t14 t1 t2 t3 h c=some r):G (.rnd 71 [1,2,3] [] [13,14] l Z1o Z1n) [t13,t14,t1,t2,t3] h c df=some r:=ZhJ ((Z66 G l t13 t14 t1 t2 t3 h c).trans e)

variable {H:Type} [HeapC H]
noncomputable def Z3e (o:Orc H) (rd:Option Nat) (t2 t3 t4 t5 t6 t8 t10 t12 t13 t59 t60 t105 t106:Value) (h:H) (c:Nat) (df:List Nat):Option (Rt H) :=
 (Z00 P .lss 3 t106 (.int .i64 6)).bind fun t107 =>
 Z0b t107
 ((ixV 6 true 2 t105 t106).bind fun t109 =>
 (stN (newB h (256*(c+1)+2) [(.int .i64 0),(.int .i64 0)]) 2 (ptrTo (256*(c+1)+2)) t109).bind fun h1 =>
 (Z00 P .mul 3 (.int .i64 6) t13).bind fun t112 =>
 (Z00 P .add 3 t112 t106).bind fun t114 =>
 (ixS 1 t8 t114).bind fun t115 =>
 (ld1 h1 t115).bind fun t116 =>
 (Z03 t12 3).bind fun t117 =>
 (ld1 h1 t117).bind fun t118 =>
 (ixS 1 t118 t116).bind fun t120 =>
 (ld1 h1 t120).bind fun t121 =>
 (Z00 P .add 3 t121 (.int .i64 1)).bind fun t122 =>
 (ixS 1 t118 t116).bind fun t123 =>
 (stN h1 1 t123 t122).bind fun h3 =>
 (Z00 P .mul 3 (.int .i64 16) t13).bind fun t126 =>
 (ixA 2 1 (ptrTo (256*(c+1)+2)) (.int .i64 0)).bind fun t127 =>
 (ld1 h3 t127).bind fun t128 =>
 (Z00 P .mul 3 (.int .i64 4) t128).bind fun t129 =>
 (Z00 P .add 3 t126 t129).bind fun t130 =>
 (ixA 2 1 (ptrTo (256*(c+1)+2)) (.int .i64 1)).bind fun t131 =>
 (ld1 h3 t131).bind fun t132 =>
 (Z00 P .add 3 t130 t132).bind fun t133 =>
 (ixS 1 t6 t133).bind fun t134 =>
 (ld1 h3 t134).bind fun t135 =>
 (Z00 P .mul 3 (.int .i64 16) t13).bind fun t138 =>
 (ixA 2 1 (ptrTo (256*(c+1)+2)) (.int .i64 1)).bind fun t139 =>
 (ld1 h3 t139).bind fun t140 =>
 (Z00 P .mul 3 (.int .i64 4) t140).bind fun t141 =>
 (Z00 P .add 3 t138 t141).bind fun t142 =>
 (ixA 2 1 (ptrTo (256*(c+1)+2)) (.int .i64 0)).bind fun t143 =>
 (ld1 h3 t143).bind fun t144 =>
 (Z00 P .add 3 t142 t144).bind fun t145 =>
 (ixS 1 t6 t145).bind fun t146 =>
 (ld1 h3 t146).bind fun t147 =>
 (Z00 P .eql 3 t135 t147).bind fun t148 =>
 (Z0b t148
  ((Z03 t12 4).bind fun t149 =>
  (ld1 h3 t149).bind fun t150 =>
  (ixS 1 t150 t116).bind fun t152 =>
  (stN h3 1 t152 (.bool true)).bind fun h5 =>
  some ⟨.normal,[t2,t3,t4,t5,t6,t8,t10,t12,t13,t59,t60,t105,t106],h5,(c+1+1+1+1+1+1),df⟩)
  (some ⟨.normal,[t2,t3,t4,t5,t6,t8,t10,t12,t13,t59,t60,t105,t106],h3,(c+1+1+1+1+1),df⟩):Option (Rt H)).bind fun r6 =>
 cond (Z0B r6.e .normal)
  ((Z00 P .add 3 (r6.v 12) (.int .i64 1)).bind fun t153 =>
  some ⟨.normal,[r6.v 0,r6.v 1,r6.v 2,r6.v 3,r6.v 4,r6.v 5,r6.v 6,r6.v 7,r6.v 8,r6.v 9,r6.v 10,r6.v 11,t153],r6.h,(r6.c+1),r6.df⟩)
  (none))
 (some ⟨(.exit 2),[t2,t3,t4,t5,t6,t8,t10,t12,t13,t59,t60,t105,t106],h,(c+1),df⟩)
theorem Z2v (o:Orc H) (rd:Option Nat) (t2 t3 t4 t5 t6 t8 t10 t12 t13 t59 t60 t105 t106:Value) (h:H) (c:Nat) (df:List Nat):jx P o 172 rd Z3c (Z0n [2,3,4,5,6,8,10,12,13,59,60,105,106] [t2,t3,t4,t5,t6,t8,t10,t12,t13,t59,t60,t105,t106]) h c df (Klp [2,3,4,5,6,8,10,12,13,59,60,105,106])=Z3e o rd t2 t3 t4 t5 t6 t8 t10 t12 t13 t59 t60 t105 t106 h c df:=by kernel_rfl
noncomputable def Z4e (o:Orc H) (rd:Option Nat) (t2 t3 t4 t5 t6 t8 t10 t12 t59 t60:Value) (h:H) (c:Nat) (df:List Nat):Option (Rt H) :=
 (Z00 P .lss 3 t60 t59).bind fun t61 =>
 Z0b t61
 ((Z03 t12 0).bind fun t63 =>
 (ld1 h t63).bind fun t64 =>
 (Z00 P .mul 3 (.int .i64 4) t60).bind fun t67 =>
 (Z00 P .mul 3 (.int .i64 4) t60).bind fun t69 =>
 (Z00 P .add 3 t69 (.int .i64 4)).bind fun t70 =>
 (slS h 1 t4 (some t67) (some t70) none).bind fun t71 =>
 (Z4W P 41 t71).bind fun t72 =>
 (ldN h 4 t72).bind fun t73 =>
 (Zag [(.int .i64 0),(.int .i64 0),(.int .i64 0),(.int .i64 0)] [(0,4,t73)]).bind fun r0 =>
 (Z6X (newB h (256*(c+1+1)+11) r0) (256*(c+1+1)+12) 4 32 t64 (.slice (some ⟨(256*(c+1+1)+11),0,none⟩) 1 1)).bind fun r1 =>
 (Z03 t12 0).bind fun t76 =>
 (stN r1.2 1 t76 r1.1).bind fun h3 =>
 (Z03 t12 1).bind fun t77 =>
 (ld1 h3 t77).bind fun t78 =>
 (Z00 P .mul 3 (.int .i64 6) t60).bind fun t81 =>
 (Z00 P .mul 3 (.int .i64 6) t60).bind fun t83 =>
 (Z00 P .add 3 t83 (.int .i64 6)).bind fun t84 =>
 (slS h3 1 t8 (some t81) (some t84) none).bind fun t85 =>
 (Z4W P 64 t85).bind fun t86 =>
 (ldN h3 6 t86).bind fun t87 =>
 (Zag [(.int .i64 0),(.int .i64 0),(.int .i64 0),(.int .i64 0),(.int .i64 0),(.int .i64 0)] [(0,6,t87)]).bind fun r4 =>
 (Z6X (newB h3 (256*(c+1+1+1)+11) r4) (256*(c+1+1+1)+12) 6 48 t78 (.slice (some ⟨(256*(c+1+1+1)+11),0,none⟩) 1 1)).bind fun r5 =>
 (Z03 t12 1).bind fun t90 =>
 (stN r5.2 1 t90 r5.1).bind fun h7 =>
 (Z03 t12 2).bind fun t91 =>
 (ld1 h7 t91).bind fun t92 =>
 (Z00 P .mul 3 (.int .i64 4) t60).bind fun t95 =>
 (Z00 P .mul 3 (.int .i64 4) t60).bind fun t97 =>
 (Z00 P .add 3 t97 (.int .i64 4)).bind fun t98 =>
 (slS h7 1 t10 (some t95) (some t98) none).bind fun t99 =>
 (Z4W P 41 t99).bind fun t100 =>
 (ldN h7 4 t100).bind fun t101 =>
 (Zag [(.int .i64 0),(.int .i64 0),(.int .i64 0),(.int .i64 0)] [(0,4,t101)]).bind fun r8 =>
 (Z6X (newB h7 (256*(c+1+1+1+1)+11) r8) (256*(c+1+1+1+1)+12) 4 32 t92 (.slice (some ⟨(256*(c+1+1+1+1)+11),0,none⟩) 1 1)).bind fun r9 =>
 (Z03 t12 2).bind fun t104 =>
 (stN r9.2 1 t104 r9.1).bind fun h11 =>
 (callF o 54 [] h11 (c+1+1+1+1+1+1)).bind fun r12 =>
 (o (Z94 rd) [t2,t3,t4,t5,t6,t8,t10,t12,t60,t59,t60,r12.1,(.int .i64 0)] r12.2.1 r12.2.2 df).bind fun r13 =>
 cond (Z0B r13.e (.exit 2))
  ((Z00 P .add 3 (r13.v 10) (.int .i64 1)).bind fun t154 =>
  some ⟨.normal,[r13.v 0,r13.v 1,r13.v 2,r13.v 3,r13.v 4,r13.v 5,r13.v 6,r13.v 7,r13.v 9,t154],r13.h,(r13.c+1),r13.df⟩)
  (none))
 (some ⟨(.exit 0),[t2,t3,t4,t5,t6,t8,t10,t12,t59,t60],h,(c+1),df⟩)
theorem Z4P (o:Orc H) (rd:Option Nat) (t2 t3 t4 t5 t6 t8 t10 t12 t59 t60:Value) (h:H) (c:Nat) (df:List Nat):jx P o 172 rd Z3d (Z0n [2,3,4,5,6,8,10,12,59,60] [t2,t3,t4,t5,t6,t8,t10,t12,t59,t60]) h c df (Klp [2,3,4,5,6,8,10,12,59,60])=Z4e o rd t2 t3 t4 t5 t6 t8 t10 t12 t59 t60 h c df:=by kernel_rfl
noncomputable def Z4d (o:Orc H) (rd:Option Nat) (t2 t3 t4 t6 t12 t155 t156:Value) (h:H) (c:Nat) (df:List Nat):Option (Rt H) :=
 (Z00 P .lss 3 t156 t155).bind fun t157 =>
 Z0b t157
 ((Z03 t12 5).bind fun t159 =>
 (ld1 h t159).bind fun t160 =>
 (callF o 60 [t3,t4,t156] h (c+1+1+1)).bind fun r0 =>
 (callF o 65 [r0.1,t6] r0.2.1 r0.2.2).bind fun r1 =>
 (Zag [(.int .i64 0),(.int .i64 0),(.int .i64 0),(.int .i64 0),(.bool false),(.bool false)] [(0,6,r1.1)]).bind fun r2 =>
 (Z6X (newB r1.2.1 (256*(c+1+1)+8) r2) (256*(c+1+1)+9) 6 40 t160 (.slice (some ⟨(256*(c+1+1)+8),0,none⟩) 1 1)).bind fun r3 =>
 (Z03 t12 5).bind fun t169 =>
 (stN r3.2 1 t169 r3.1).bind fun h5 =>
 (bif (Z1r (Z2y t159) h r0.2.1 && (Z1r (Z2y t159) r0.2.1 r1.2.1 && true)) then
 (Z00 P .add 3 t156 (.int .i64 1)).bind fun t170 =>
 some ⟨.normal,[t2,t3,t4,t6,t12,t155,t170],h5,(r1.2.2+1),df⟩
 else none))
 (some ⟨(.exit 4),[t2,t3,t4,t6,t12,t155,t156],h,(c+1),df⟩)
theorem Z4O (o:Orc H) (rd:Option Nat) (t2 t3 t4 t6 t12 t155 t156:Value) (h:H) (c:Nat) (df:List Nat):jx P o 172 rd Z3b (Z0n [2,3,4,6,12,155,156] [t2,t3,t4,t6,t12,t155,t156]) h c df (Klp [2,3,4,6,12,155,156])=Z4d o rd t2 t3 t4 t6 t12 t155 t156 h c df:=by kernel_rfl
noncomputable def ZgO (o:Orc H) (t0:Value) (h:H) (c:Nat):Option (Rt H) :=
 (bif (t0:Value).cells.toList.all Z09 then
 (ldN (newB (newB h (256*c+0) (t0:Value).cells.toList) (256*c+1) [(.slice none 0 0),(.slice none 0 0),(.slice none 0 0),(.slice none 0 0),(.slice none 0 0),(.slice none 0 0)]) 1 (ptrTo (256*c+0))).bind fun t18 =>
 (callF o 40 [t18] (newB (newB h (256*c+0) (t0:Value).cells.toList) (256*c+1) [(.slice none 0 0),(.slice none 0 0),(.slice none 0 0),(.slice none 0 0),(.slice none 0 0),(.slice none 0 0)]) (c+1+1)).bind fun r0 =>
 (Z0a r0.1).bind fun t22 =>
 (Z03 t22 1).bind fun t23 =>
 (Z03 t23 0).bind fun t24 =>
 (callF o 41 [t24] r0.2.1 (r0.2.2+1)).bind fun r1 =>
 (Z3K r1.1 0).bind fun t26 =>
 (Z3K r1.1 1).bind fun t27 =>
 (Z0a r0.1).bind fun t30 =>
 (Z03 t30 2).bind fun t31 =>
 (Z03 t31 0).bind fun t32 =>
 (callF o 41 [t32] r1.2.1 (r1.2.2+1)).bind fun r2 =>
 (Z3K r2.1 0).bind fun t34 =>
 (Z3K r2.1 1).bind fun t35 =>
 (Z0a r0.1).bind fun t38 =>
 (Z03 t38 3).bind fun t39 =>
 (Z03 t39 0).bind fun t40 =>
 (callF o 41 [t40] r2.2.1 (r2.2.2+1)).bind fun r3 =>
 (Z3K r3.1 0).bind fun t42 =>
 (Z3K r3.1 1).bind fun t43 =>
 (Z0a r0.1).bind fun t46 =>
 (Z03 t46 4).bind fun t47 =>
 (Z03 t47 0).bind fun t48 =>
 (callF o 41 [t48] r3.2.1 (r3.2.2+1)).bind fun r4 =>
 (Z3K r4.1 0).bind fun t50 =>
 (Z3K r4.1 1).bind fun t51 =>
 (mkS 1 8 [(.int .i64 0)] t43 t43).bind fun r5 =>
 (mkS 1 1 [(.bool false)] t43 t43).bind fun r6 =>
 (Z1M [(.slice none 0 0),(.slice none 0 0),(.slice none 0 0),(.slice none 0 0),(.slice none 0 0),(.slice none 0 0)] [(3,1,(.slice (some ⟨(256*r4.2.2+1),0,none⟩) r5.2.1 r5.2.2)),(4,1,(.slice (some ⟨(256*r4.2.2+3),0,none⟩) r6.2.1 r6.2.2))]).bind fun t56 =>
 (stN (newB (newB (newB r4.2.1 (256*r4.2.2+1) r5.1) (256*r4.2.2+3) r6.1) (256*r4.2.2+5) [(.slice none 0 0),(.slice none 0 0),(.slice none 0 0),(.slice none 0 0),(.slice none 0 0),(.slice none 0 0)]) 6 (ptrTo (256*r4.2.2+5)) t56).bind fun h8 =>
 (Z03 (ptrTo (256*c+0)) 0).bind fun t57 =>
 (ld1 h8 t57).bind fun t58 =>
 (Z3P t58).bind fun t59 =>
 (o (Z95 none) [(ptrTo (256*c+1)),r0.1,t26,t27,t34,t42,t50,(ptrTo (256*r4.2.2+5)),t59,(.int .i64 0)] h8 (r4.2.2+1+1) []).bind fun r9 =>
 cond (Z0B r9.e (.exit 0))
 ((o (Z93 none) [r9.v 0,r9.v 1,r9.v 2,r9.v 4,r9.v 7,r9.v 3,(.int .i64 0)] r9.h (r9.c+1) r9.df).bind fun r10 =>
 cond (Z0B r10.e (.exit 4))
  ((ldN r10.h 6 (r10.v 4)).bind fun t171 =>
  (stN r10.h 6 (r10.v 0) t171).bind fun h12 =>
  (Z0c h12 r10.df).bind fun h13 =>
  (ldN h13 6 (r10.v 0)).bind fun v14 =>
  some ⟨.ret,[v14],h13,(r10.c+1),[]⟩)
  (none))
 (none)
 else none)
theorem ZdO (o:Orc H) (t0:Value) (h:H) (c:Nat):jx P o 172 none f39_c (Z0n (List.range 1) [t0]) h c [] (Kfn P Try.f39.results.toList)=ZgO o t0 h c:=by kernel_rfl
theorem f39_go {t0:Value} {h:FH} {c:Nat} {df:List Nat} {r:Rt FH} (e:ZgO G t0 h c=some r):G (.fn 39) [t0] h c df=some r:=Z0r (a:=ZbU) bk_39 rfl (fun args h c=>by cases args <;> rfl) rfl ((ZdO G t0 h c).trans e)
noncomputable def Z38 (o:Orc H) (rd:Option Nat) (t4 t5 t7 t8 t9 t10 t35 t36 t37 t42 t43 t68 t90:Value) (h:H) (c:Nat) (df:List Nat):Option (Rt H) :=
 (Z00 P .lss 3 t90 (.int .i64 4)).bind fun t91 =>
 Z0b t91
 ((Z00 P .neq 3 t90 t7).bind fun t95 =>
 (gd t95 true h (c+1+1+1) (some t90)).bind fun r0 =>
 (gd t95 true r0.2.1 r0.2.2 (some t10)).bind fun r1 =>
 (gd t95 true r1.2.1 r1.2.2 (Z00 P .neq 3 r0.1 r1.1)).bind fun r2 =>
 (Z0X t95 r2.1 (.bool false)).bind fun t100 =>
 (Z0b t100
  ((Z0a t4).bind fun t102 =>
  (Z03 t102 2).bind fun t103 =>
  (Z03 t103 0).bind fun t104 =>
  (Z00 P .mul 3 (.int .i64 16) t5).bind fun t106 =>
  (Z00 P .mul 3 (.int .i64 4) t10).bind fun t108 =>
  (Z00 P .add 3 t106 t108).bind fun t109 =>
  (Z00 P .add 3 t109 t90).bind fun t111 =>
  (Z03 t8 0).bind fun t112 =>
  (ld1 r2.2.1 t112).bind fun t113 =>
  (Z00 P .mul 3 (.int .i64 16) t113).bind fun t114 =>
  (ixA 4 1 t9 t10).bind fun t116 =>
  (ld1 r2.2.1 t116).bind fun t117 =>
  (Z00 P .mul 3 (.int .i64 4) t117).bind fun t118 =>
  (Z00 P .add 3 t114 t118).bind fun t119 =>
  (ixA 4 1 t9 t90).bind fun t121 =>
  (ld1 r2.2.1 t121).bind fun t122 =>
  (Z00 P .add 3 t119 t122).bind fun t123 =>
  (callF o 67 [t104,t111,t123] r2.2.1 (r2.2.2+1)).bind fun r3 =>
  (Z0a t4).bind fun t126 =>
  (Z03 t126 3).bind fun t127 =>
  (Z03 t127 0).bind fun t128 =>
  (Z00 P .mul 3 (.int .i64 6) t5).bind fun t130 =>
  (callF o 27 [t10,t90] r3.2.1 (r3.2.2+1)).bind fun r4 =>
  (Z00 P .add 3 t130 r4.1).bind fun t134 =>
  (Z03 t8 0).bind fun t135 =>
  (ld1 r4.2.1 t135).bind fun t136 =>
  (Z00 P .mul 3 (.int .i64 6) t136).bind fun t137 =>
  (ixA 4 1 t9 t10).bind fun t139 =>
  (ld1 r4.2.1 t139).bind fun t140 =>
  (ixA 4 1 t9 t90).bind fun t142 =>
  (ld1 r4.2.1 t142).bind fun t143 =>
  (callF o 27 [t140,t143] r4.2.1 r4.2.2).bind fun r5 =>
  (Z00 P .add 3 t137 r5.1).bind fun t145 =>
  (callF o 67 [t128,t134,t145] r5.2.1 r5.2.2).bind fun r6 =>
  (bif (Z1r (Z2y t135) r3.2.1 r4.2.1 && (Z1r (Z2y t135) r4.2.1 r5.2.1 && (Z1r (Z2y t139) r3.2.1 r4.2.1 && (Z1r (Z2y t142) r3.2.1 r4.2.1 && true)))) then
  some ⟨.normal,[t4,t5,t7,t8,t9,t10,t35,t36,t37,t42,t43,t68,t90],r6.2.1,r6.2.2,df⟩
  else none))
  (some ⟨.normal,[t4,t5,t7,t8,t9,t10,t35,t36,t37,t42,t43,t68,t90],r2.2.1,r2.2.2,df⟩):Option (Rt H)).bind fun r7 =>
 cond (Z0B r7.e .normal)
  ((Z00 P .add 3 (r7.v 12) (.int .i64 1)).bind fun t147 =>
  some ⟨.normal,[r7.v 0,r7.v 1,r7.v 2,r7.v 3,r7.v 4,r7.v 5,r7.v 6,r7.v 7,r7.v 8,r7.v 9,r7.v 10,r7.v 11,t147],r7.h,(r7.c+1),r7.df⟩)
  (none))
 (some ⟨(.exit 6),[t4,t5,t7,t8,t9,t10,t35,t36,t37,t42,t43,t68,t90],h,(c+1),df⟩)
theorem Z2s (o:Orc H) (rd:Option Nat) (t4 t5 t7 t8 t9 t10 t35 t36 t37 t42 t43 t68 t90:Value) (h:H) (c:Nat) (df:List Nat):jx P o 152 rd Z34 (Z0n [4,5,7,8,9,10,35,36,37,42,43,68,90] [t4,t5,t7,t8,t9,t10,t35,t36,t37,t42,t43,t68,t90]) h c df (Klp [4,5,7,8,9,10,35,36,37,42,43,68,90])=Z38 o rd t4 t5 t7 t8 t9 t10 t35 t36 t37 t42 t43 t68 t90 h c df:=by kernel_rfl
noncomputable def Z39 (o:Orc H) (rd:Option Nat) (t4 t5 t7 t8 t9 t35 t36 t37 t42 t43 t68:Value) (h:H) (c:Nat) (df:List Nat):Option (Rt H) :=
 (Z00 P .lss 3 t68 (.int .i64 4)).bind fun t69 =>
 Z0b t69
 (((Z00 P .eql 3 t68 t7).bind fun t73 =>
  Z0b t73
   (some ⟨.normal,[t4,t5,t7,t8,t9,t35,t36,t37,t42,t43,t68],h,(c+1+1+1),df⟩)
   ((Z0a t4).bind fun t75 =>
   (Z03 t75 1).bind fun t76 =>
   (Z03 t76 0).bind fun t77 =>
   (Z00 P .mul 3 (.int .i64 4) t5).bind fun t79 =>
   (Z00 P .add 3 t79 t68).bind fun t81 =>
   (Z03 t8 0).bind fun t82 =>
   (ld1 h t82).bind fun t83 =>
   (Z00 P .mul 3 (.int .i64 4) t83).bind fun t84 =>
   (ixA 4 1 t9 t68).bind fun t86 =>
   (ld1 h t86).bind fun t87 =>
   (Z00 P .add 3 t84 t87).bind fun t88 =>
   (callF o 67 [t77,t81,t88] h (c+1+1+1+1)).bind fun r0 =>
   (o (Z8Z rd) [t4,t5,t7,t8,t9,t68,t35,t36,t37,t42,t43,t68,(.int .i64 0)] r0.2.1 (r0.2.2+1) df).bind fun r1 =>
   cond (Z0B r1.e (.exit 6))
    (some ⟨.normal,[r1.v 0,r1.v 1,r1.v 2,r1.v 3,r1.v 4,r1.v 6,r1.v 7,r1.v 8,r1.v 9,r1.v 10,r1.v 11],r1.h,r1.c,r1.df⟩)
    (none)):Option (Rt H)).bind fun r2 =>
 cond (Z0B r2.e .normal)
  ((Z00 P .add 3 (r2.v 10) (.int .i64 1)).bind fun t148 =>
  some ⟨.normal,[r2.v 0,r2.v 1,r2.v 2,r2.v 3,r2.v 4,r2.v 5,r2.v 6,r2.v 7,r2.v 8,r2.v 9,t148],r2.h,(r2.c+1),r2.df⟩)
  (none))
 (some ⟨(.exit 4),[t4,t5,t7,t8,t9,t35,t36,t37,t42,t43,t68],h,(c+1),df⟩)
theorem Z2t (o:Orc H) (rd:Option Nat) (t4 t5 t7 t8 t9 t35 t36 t37 t42 t43 t68:Value) (h:H) (c:Nat) (df:List Nat):jx P o 152 rd Z35 (Z0n [4,5,7,8,9,35,36,37,42,43,68] [t4,t5,t7,t8,t9,t35,t36,t37,t42,t43,t68]) h c df (Klp [4,5,7,8,9,35,36,37,42,43,68])=Z39 o rd t4 t5 t7 t8 t9 t35 t36 t37 t42 t43 t68 h c df:=by kernel_rfl
noncomputable def Z3a (o:Orc H) (rd:Option Nat) (t4 t5 t35 t36 t37 t42 t43:Value) (h:H) (c:Nat) (df:List Nat):Option (Rt H) :=
 (Z00 P .lss 3 t43 (.int .i64 4)).bind fun t44 =>
 Z0b t44
 (((ixV 4 true 5 t42 t43).bind fun t46 =>
  (stN (newB h (256*(c+1)+2) [(.int .i64 0),(.int .i64 0),(.int .i64 0),(.int .i64 0),(.int .i64 0)]) 5 (ptrTo (256*(c+1)+2)) t46).bind fun h1 =>
  (Z03 (ptrTo (256*(c+1)+2)) 0).bind fun t47 =>
  (ld1 h1 t47).bind fun t48 =>
  (Z00 P .lss 3 t48 (.int .i64 0)).bind fun t49 =>
  Z0b t49
   (some ⟨.normal,[t4,t5,t35,t36,t37,t42,t43],h1,(c+1+1+1),df⟩)
   ((Z03 (ptrTo (256*(c+1)+2)) 1).bind fun t50 =>
   (ldN h1 4 t50).bind fun t51 =>
   (stN (newB h1 (256*(c+1+1+1)+2) [(.int .i64 0),(.int .i64 0),(.int .i64 0),(.int .i64 0)]) 4 (ptrTo (256*(c+1+1+1)+2)) t51).bind fun h3 =>
   (Z0a t4).bind fun t53 =>
   (Z03 t53 4).bind fun t54 =>
   (Z03 t54 0).bind fun t55 =>
   (Z00 P .mul 3 (.int .i64 4) t5).bind fun t57 =>
   (Z00 P .add 3 t57 t43).bind fun t59 =>
   (Z03 (ptrTo (256*(c+1)+2)) 0).bind fun t60 =>
   (ld1 h3 t60).bind fun t61 =>
   (Z00 P .mul 3 (.int .i64 4) t61).bind fun t62 =>
   (ixA 4 1 (ptrTo (256*(c+1+1+1)+2)) t43).bind fun t64 =>
   (ld1 h3 t64).bind fun t65 =>
   (Z00 P .add 3 t62 t65).bind fun t66 =>
   (callF o 67 [t55,t59,t66] h3 (c+1+1+1+1+1)).bind fun r4 =>
   (o (Z90 rd) [t4,t5,t43,(ptrTo (256*(c+1)+2)),(ptrTo (256*(c+1+1+1)+2)),t35,t36,t37,t42,t43,(.int .i64 0)] r4.2.1 (r4.2.2+1) df).bind fun r5 =>
   cond (Z0B r5.e (.exit 4))
    (some ⟨.normal,[r5.v 0,r5.v 1,r5.v 5,r5.v 6,r5.v 7,r5.v 8,r5.v 9],r5.h,r5.c,r5.df⟩)
    (none)):Option (Rt H)).bind fun r6 =>
 cond (Z0B r6.e .normal)
  ((Z00 P .add 3 (r6.v 6) (.int .i64 1)).bind fun t149 =>
  some ⟨.normal,[r6.v 0,r6.v 1,r6.v 2,r6.v 3,r6.v 4,r6.v 5,t149],r6.h,(r6.c+1),r6.df⟩)
  (none))
 (some ⟨(.exit 2),[t4,t5,t35,t36,t37,t42,t43],h,(c+1),df⟩)
theorem Z2u (o:Orc H) (rd:Option Nat) (t4 t5 t35 t36 t37 t42 t43:Value) (h:H) (c:Nat) (df:List Nat):jx P o 152 rd Z36 (Z0n [4,5,35,36,37,42,43] [t4,t5,t35,t36,t37,t42,t43]) h c df (Klp [4,5,35,36,37,42,43])=Z3a o rd t4 t5 t35 t36 t37 t42 t43 h c df:=by kernel_rfl
noncomputable def Z4c (o:Orc H) (rd:Option Nat) (t4 t35 t36 t37:Value) (h:H) (c:Nat) (df:List Nat):Option (Rt H) :=
 (Z00 P .lss 3 t37 t36).bind fun t38 =>
 Z0b t38
 ((ixS 20 t35 t37).bind fun t40 =>
 (ldN h 20 t40).bind fun t41 =>
 (stN (newB h (256*(c+1)+3) [(.int .i64 0),(.int .i64 0),(.int .i64 0),(.int .i64 0),(.int .i64 0),(.int .i64 0),(.int .i64 0),(.int .i64 0),(.int .i64 0),(.int .i64 0),(.int .i64 0),(.int .i64 0),(.int .i64 0),(.int .i64 0),(.int .i64 0),(.int .i64 0),(.int .i64 0),(.int .i64 0),(.int .i64 0),(.int .i64 0)]) 20 (ptrTo (256*(c+1)+3)) t41).bind fun h1 =>
 (ldN h1 20 (ptrTo (256*(c+1)+3))).bind fun t42 =>
 (o (Z91 rd) [t4,t37,t35,t36,t37,t42,(.int .i64 0)] h1 (c+1+1+1) df).bind fun r2 =>
 cond (Z0B r2.e (.exit 2))
  ((Z00 P .add 3 (r2.v 4) (.int .i64 1)).bind fun t150 =>
  some ⟨.normal,[r2.v 0,r2.v 2,r2.v 3,t150],r2.h,(r2.c+1),r2.df⟩)
  (none))
 (some ⟨(.exit 0),[t4,t35,t36,t37],h,(c+1),df⟩)
theorem Z4N (o:Orc H) (rd:Option Nat) (t4 t35 t36 t37:Value) (h:H) (c:Nat) (df:List Nat):jx P o 152 rd Z37 (Z0n [4,35,36,37] [t4,t35,t36,t37]) h c df (Klp [4,35,36,37])=Z4c o rd t4 t35 t36 t37 h c df:=by kernel_rfl
noncomputable def ZgN (o:Orc H) (t0:Value) (h:H) (c:Nat):Option (Rt H) :=
 (bif (t0:Value).cells.toList.all Z09 then
 (Z03 (ptrTo (256*c+0)) 0).bind fun t12 =>
 (ld1 (newB h (256*c+0) (t0:Value).cells.toList) t12).bind fun t13 =>
 (Z3P t13).bind fun t14 =>
 (ldN (newB h (256*c+0) (t0:Value).cells.toList) 1 (ptrTo (256*c+0))).bind fun t15 =>
 (Z00 P .mul 3 (.int .i64 4) t14).bind fun t17 =>
 (callF o 66 [t17] (newB h (256*c+0) (t0:Value).cells.toList) (c+1+1+1)).bind fun r0 =>
 (Z1M [(.slice none 0 0)] [(0,1,r0.1)]).bind fun t19 =>
 (Z00 P .mul 3 (.int .i64 16) t14).bind fun t21 =>
 (callF o 66 [t21] r0.2.1 r0.2.2).bind fun r1 =>
 (Z1M [(.slice none 0 0)] [(0,1,r1.1)]).bind fun t23 =>
 (Z00 P .mul 3 (.int .i64 6) t14).bind fun t25 =>
 (callF o 66 [t25] r1.2.1 r1.2.2).bind fun r2 =>
 (Z1M [(.slice none 0 0)] [(0,1,r2.1)]).bind fun t27 =>
 (Z00 P .mul 3 (.int .i64 4) t14).bind fun t29 =>
 (callF o 66 [t29] r2.2.1 r2.2.2).bind fun r3 =>
 (Z1M [(.slice none 0 0)] [(0,1,r3.1)]).bind fun t31 =>
 (Z1M [(.slice none 0 0),(.slice none 0 0),(.slice none 0 0),(.slice none 0 0),(.slice none 0 0)] [(0,1,t15),(1,1,t19),(2,1,t23),(3,1,t27),(4,1,t31)]).bind fun t32 =>
 (bif (t32:Value).cells.toList.all Z09 then
 (bif (Z1r (Z2y (ptrTo (256*c+0))) (newB h (256*c+0) (t0:Value).cells.toList) r0.2.1 && (Z1r (Z2y (ptrTo (256*c+0))) r0.2.1 r1.2.1 && (Z1r (Z2y (ptrTo (256*c+0))) r1.2.1 r2.2.1 && (Z1r (Z2y (ptrTo (256*c+0))) r2.2.1 r3.2.1 && true)))) then
 (Z03 (ptrTo (256*c+0)) 0).bind fun t34 =>
 (ld1 (newB r3.2.1 (256*(c+1+1)+18) (t32:Value).cells.toList) t34).bind fun t35 =>
 (Z3P t35).bind fun t36 =>
 (o (Z92 none) [(ptrTo (256*(c+1+1)+18)),t35,t36,(.int .i64 0)] (newB r3.2.1 (256*(c+1+1)+18) (t32:Value).cells.toList) (r3.2.2+1) []).bind fun r4 =>
 cond (Z0B r4.e (.exit 0))
 ((Z0c r4.h r4.df).bind fun h5 =>
 some ⟨.ret,[r4.v 0],h5,(r4.c+1),[]⟩)
 (none)
 else none)
 else none)
 else none)
theorem ZdJ (o:Orc H) (t0:Value) (h:H) (c:Nat):jx P o 152 none f40_c (Z0n (List.range 1) [t0]) h c [] (Kfn P Try.f40.results.toList)=ZgN o t0 h c:=by kernel_rfl
theorem f40_go {t0:Value} {h:FH} {c:Nat} {df:List Nat} {r:Rt FH} (e:ZgN G t0 h c=some r):G (.fn 40) [t0] h c df=some r:=Z0r (a:=ZbT) bk_40 rfl (fun args h c=>by cases args <;> rfl) rfl ((ZdJ G t0 h c).trans e)
noncomputable def Z4b (o:Orc H) (rd:Option Nat) (t0 t4 t5 t15 t16:Value) (h:H) (c:Nat) (df:List Nat):Option (Rt H) :=
 (Z00 P .lss 3 t16 t15).bind fun t17 =>
 Z0b t17
 ((callF o 68 [t0,t16] h (c+1+1+1)).bind fun r0 =>
 (Z00 P .eql 3 r0.1 t16).bind fun t24 =>
 (Z0b t24
  ((ixS 1 t4 t16).bind fun t28 =>
  (stN r0.2.1 1 t28 t5).bind fun h2 =>
  (Z00 P .add 3 t5 (.int .i64 1)).bind fun t30 =>
  some ⟨.normal,[t0,t4,t30,t15,t16],h2,(r0.2.2+1+1+1),df⟩)
  ((ixS 1 t4 r0.1).bind fun t35 =>
  (ld1 r0.2.1 t35).bind fun t36 =>
  (ixS 1 t4 t16).bind fun t37 =>
  (stN r0.2.1 1 t37 t36).bind fun h5 =>
  some ⟨.normal,[t0,t4,t5,t15,t16],h5,(r0.2.2+1+1),df⟩):Option (Rt H)).bind fun r6 =>
 cond (Z0B r6.e .normal)
  ((Z00 P .add 3 (r6.v 4) (.int .i64 1)).bind fun t38 =>
  some ⟨.normal,[r6.v 0,r6.v 1,r6.v 2,r6.v 3,t38],r6.h,(r6.c+1),r6.df⟩)
  (none))
 (some ⟨(.exit 0),[t0,t4,t5,t15,t16],h,(c+1),df⟩)
theorem Z4M (o:Orc H) (rd:Option Nat) (t0 t4 t5 t15 t16:Value) (h:H) (c:Nat) (df:List Nat):jx P o 41 rd Z33 (Z0n [0,4,5,15,16] [t0,t4,t5,t15,t16]) h c df (Klp [0,4,5,15,16])=Z4b o rd t0 t4 t5 t15 t16 h c df:=by kernel_rfl
noncomputable def ZgM (o:Orc H) (t0:Value) (h:H) (c:Nat):Option (Rt H) :=
 (Z0a t0).bind fun t9 =>
 (Z03 t9 0).bind fun t10 =>
 (ld1 h t10).bind fun t11 =>
 (Z3P t11).bind fun t12 =>
 (mkS 1 8 [(.int .i64 0)] t12 t12).bind fun r0 =>
 (Z3P (.slice (some ⟨(256*(c+1)+5),0,none⟩) r0.2.1 r0.2.2)).bind fun t15 =>
 (o (Z8Y none) [t0,(.slice (some ⟨(256*(c+1)+5),0,none⟩) r0.2.1 r0.2.2),(.int .i64 0),t15,(.int .i64 0)] (newB h (256*(c+1)+5) r0.1) (c+1+1+1+1) []).bind fun r1 =>
 cond (Z0B r1.e (.exit 0))
 ((Z0c r1.h r1.df).bind fun h2 =>
 some ⟨.ret,[.tuple #[r1.v 1,r1.v 2]],h2,(r1.c+1),[]⟩)
 (none)
theorem ZdI (o:Orc H) (t0:Value) (h:H) (c:Nat):jx P o 41 none f41_c (Z0n (List.range 1) [t0]) h c [] (Kfn P Try.f41.results.toList)=ZgM o t0 h c:=by kernel_rfl
theorem f41_go {t0:Value} {h:FH} {c:Nat} {df:List Nat} {r:Rt FH} (e:ZgM G t0 h c=some r):G (.fn 41) [t0] h c df=some r:=Z0r (a:=ZbS) bk_41 rfl (fun args h c=>by cases args <;> rfl) rfl ((ZdI G t0 h c).trans e)
end Go.Proofs.Ytdodippbpdechaa
