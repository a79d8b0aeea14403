/- Parts of a proof: S0 S1 S2. Conditions: none. -/
import Derived.Test.YtcnndelmnobigaaM9
set_option linter.all false
set_option maxRecDepth 100000
namespace Go.Proofs.Ytcnndelmnobigaa
open Go Go.Ab Go.Proofs
variable {H:Type} [HeapC H]
noncomputable def f6_S (o:Orc H) (t0 t1:Value) (h:H) (c:Nat):Option (Rt H) :=
 (bif (t0:Value).cells.toList.all Z0e then
 (callF o 11 [] (newB h (256 * c + 0) (t0:Value).cells.toList) (c + 1 + 1)).bind fun r0 =>
 (Z1A .not r0.1).bind fun t16 =>
 Z08 t16
 (some ⟨.ret,[(.bool false)],r0.2.1,(r0.2.2 + 1),[]⟩)
 ((ldN r0.2.1 1 (ptrTo (256 * c + 0))).bind fun t17 =>
 (callF o 12 [t17] r0.2.1 (r0.2.2 + 1)).bind fun r1 =>
 (Z1A .not r1.1).bind fun t19 =>
 (gd t19 false r1.2.1 r1.2.2 (some t1)).bind fun r2 =>
 (gg t19 false r2.2.1 r2.2.2 ((Z48 [(.slice none 0 0)] [(0,1,r2.1)]).bind fun cs=>some (.slice (some ⟨(256 * r0.2.2 + 5),0,none⟩) 1 1,newB r2.2.1 (256 * r0.2.2 + 5) cs,r2.2.2))).bind fun r3 =>
 (gg t19 false r3.2.1 r3.2.2 (callF o 18 [r3.1] r3.2.1 r3.2.2)).bind fun r4 =>
 (gd t19 false r4.2.1 r4.2.2 (Z1A .not r4.1)).bind fun r5 =>
 (Z0x t19 (.bool true) r5.1).bind fun t25 =>
 Z08 t25
  (some ⟨.ret,[(.bool true)],r5.2.1,(r5.2.2 + 1),[]⟩)
  ((ldN r5.2.1 1 (ptrTo (256 * c + 0))).bind fun t27 =>
  (callF o 26 [t27] r5.2.1 (r5.2.2 + 1)).bind fun r6 =>
  (Z1E r6.1 0).bind fun t29 =>
  (Z1E r6.1 1).bind fun t30 =>
  (ldN r6.2.1 1 (ptrTo (256 * c + 0))).bind fun t32 =>
  (callF o 27 [t32] r6.2.1 (r6.2.2 + 1)).bind fun r7 =>
  (Z1E r7.1 0).bind fun t34 =>
  (Z1E r7.1 1).bind fun t35 =>
  (ldN r7.2.1 1 (ptrTo (256 * c + 0))).bind fun t36 =>
  (callF o 17 [t36,t1] r7.2.1 (r7.2.2 + 1)).bind fun r8 =>
  (ldN r8.2.1 1 (ptrTo (256 * c + 0))).bind fun t39 =>
  (callF o 28 [t39,t1] r8.2.1 r8.2.2).bind fun r9 =>
  (Z00 P .neq 27 r8.1 r9.1).bind fun t42 =>
  (gd t42 false r9.2.1 r9.2.2 (some t35)).bind fun r10 =>
  (gd t42 false r10.2.1 r10.2.2 (some t30)).bind fun r11 =>
  (gd t42 false r11.2.1 r11.2.2 (Z00 P .neq 27 r10.1 r11.1)).bind fun r12 =>
  (Z0x t42 (.bool true) r12.1).bind fun t47 =>
  (gd t47 false r12.2.1 r12.2.2 (some t34)).bind fun r13 =>
  (gd t47 false r13.2.1 r13.2.2 (some t29)).bind fun r14 =>
  (gg t47 false r14.2.1 r14.2.2 (callF o 29 [r13.1,r14.1] r14.2.1 r14.2.2)).bind fun r15 =>
  (gd t47 false r15.2.1 r15.2.2 (Z1A .not r15.1)).bind fun r16 =>
  (Z0x t47 (.bool true) r16.1).bind fun t53 =>
  (bif (Z0Y (Z2f (ptrTo (256 * c + 0))) r7.2.1 r8.2.1 && true) then
  Z08 t53
   (some ⟨.ret,[(.bool false)],r16.2.1,(r16.2.2 + 1),[]⟩)
   ((ldN r16.2.1 1 (ptrTo (256 * c + 0))).bind fun t55 =>
   (callF o 30 [t55] r16.2.1 (r16.2.2 + 1)).bind fun r17 =>
   (Z1E r17.1 0).bind fun t57 =>
   (Z1E r17.1 1).bind fun t58 =>
   (ldN r17.2.1 1 (ptrTo (256 * c + 0))).bind fun t60 =>
   (callF o 14 [t60] r17.2.1 (r17.2.2 + 1)).bind fun r18 =>
   (Z1E r18.1 0).bind fun t62 =>
   (Z1E r18.1 1).bind fun t63 =>
   (Z00 P .neq 27 t63 t58).bind fun t66 =>
   (gd t66 false r18.2.1 (r18.2.2 + 1) (some t62)).bind fun r19 =>
   (gd t66 false r19.2.1 r19.2.2 (some t57)).bind fun r20 =>
   (gg t66 false r20.2.1 r20.2.2 (callF o 29 [r19.1,r20.1] r20.2.1 r20.2.2)).bind fun r21 =>
   (gd t66 false r21.2.1 r21.2.2 (Z1A .not r21.1)).bind fun r22 =>
   (Z0x t66 (.bool true) r22.1).bind fun t72 =>
   Z08 t72
    (some ⟨.ret,[(.bool false)],r22.2.1,(r22.2.2 + 1),[]⟩)
    ((ldN r22.2.1 1 (ptrTo (256 * c + 0))).bind fun t74 =>
    (callF o 31 [t74,t1] r22.2.1 (r22.2.2 + 1)).bind fun r23 =>
    (Z1E r23.1 0).bind fun t77 =>
    (Z1E r23.1 1).bind fun t78 =>
    (ldN r23.2.1 1 (ptrTo (256 * c + 0))).bind fun t80 =>
    (callF o 32 [t80,t1] r23.2.1 (r23.2.2 + 1)).bind fun r24 =>
    (Z1E r24.1 0).bind fun t83 =>
    (Z1E r24.1 1).bind fun t84 =>
    (ldN r24.2.1 1 (ptrTo (256 * c + 0))).bind fun t86 =>
    (callF o 16 [t86,t1] r24.2.1 (r24.2.2 + 1)).bind fun r25 =>
    (Z1E r25.1 0).bind fun t89 =>
    (Z1E r25.1 1).bind fun t90 =>
    (ldN r25.2.1 1 (ptrTo (256 * c + 0))).bind fun t92 =>
    (callF o 15 [t92,t1] r25.2.1 (r25.2.2 + 1)).bind fun r26 =>
    (Z1E r26.1 0).bind fun t95 =>
    (Z1E r26.1 1).bind fun t96 =>
    (Z00 P .eql 27 t90 t78).bind fun t99 =>
    (gd t99 true r26.2.1 (r26.2.2 + 1) (some t89)).bind fun r27 =>
    (gd t99 true r27.2.1 r27.2.2 (some t77)).bind fun r28 =>
    (gg t99 true r28.2.1 r28.2.2 (callF o 21 [r27.1,r28.1] r28.2.1 r28.2.2)).bind fun r29 =>
    (Z0x t99 r29.1 (.bool false)).bind fun t104 =>
    (gd t104 true r29.2.1 r29.2.2 (some t96)).bind fun r30 =>
    (gd t104 true r30.2.1 r30.2.2 (some t84)).bind fun r31 =>
    (gd t104 true r31.2.1 r31.2.2 (Z00 P .eql 27 r30.1 r31.1)).bind fun r32 =>
    (Z0x t104 r32.1 (.bool false)).bind fun t109 =>
    (gd t109 true r32.2.1 r32.2.2 (some t95)).bind fun r33 =>
    (gd t109 true r33.2.1 r33.2.2 (some t83)).bind fun r34 =>
    (gd t109 true r34.2.1 r34.2.2 (Z00 P .eql 3 r33.1 r34.1)).bind fun r35 =>
    (Z0x t109 r35.1 (.bool false)).bind fun t114 =>
    some ⟨.ret,[t114],r35.2.1,r35.2.2,[]⟩))
  else none)))
 else none)
theorem ZqA (o:Orc H) (t0 t1:Value) (h:H) (c:Nat):jx P o 115 none f6_c (Z0f (List.range 2) [t0,t1]) h c [] (Kfn P Try.f6.results.toList) = f6_S o t0 t1 h c:=by kernel_rfl
theorem f6_go {t0 t1:Value} {h:FH} {c:Nat} {df:List Nat} {r:Rt FH} (e:f6_S G t0 t1 h c = some r):G (.fn 6) [t0,t1] h c df = some (gcR h c [] r):=Z0d (a:=f6_f) bk_6 rfl (fun args h c=>by cases args <;> rfl) rfl ((ZqA G t0 t1 h c).trans e)
noncomputable def Zr5 (o:Orc H) (h:H) (c:Nat):Option (Rt H) :=
 (callF o 40 [(.string (ByteArray.mk #[49,32,48,32,49,48,50,51,32,48,32,49,48,50,51,32,48,32,48,49,51,50,32,48,32,48,49,51,50]))] h (c + 1 + 1)).bind fun r0 =>
 (Z1E r0.1 0).bind fun t20 =>
 (Z1E r0.1 1).bind fun t21 =>
 (stN (newB r0.2.1 (256 * (c + 1) + 4) [(.slice none 0 0)]) 1 (ptrTo (256 * (c + 1) + 4)) t20).bind fun h2 =>
 (Z48 [(.int .i64 0),(.int .i64 0),(.int .i64 0),(.int .i64 0),(.int .i64 0),(.int .i64 0),(.int .i64 0)] [(0,1,(.int .i64 0)),(1,1,(.int .i64 0)),(2,1,(.int .i64 0)),(3,1,(.int .i64 0)),(4,1,(.int .i64 1)),(5,1,(.int .i64 0)),(6,1,(.int .i64 0))]).bind fun r3 =>
 (ldN (newB h2 (256 * r0.2.2 + 0) r3) 1 (ptrTo (256 * (c + 1) + 4))).bind fun t24 =>
 (callF o 14 [t24] (newB h2 (256 * r0.2.2 + 0) r3) (r0.2.2 + 1 + 1)).bind fun r4 =>
 (Z1E r4.1 0).bind fun t26 =>
 (Z1E r4.1 1).bind fun t27 =>
 (Z00 P .neq 27 t27 (.int .i64 0)).bind fun t29 =>
 (gd t29 false r4.2.1 (r4.2.2 + 1) (some t26)).bind fun r5 =>
 (gg t29 false r5.2.1 r5.2.2 (((Z11 r5.1).bind fun v=>some (v,r5.2.1)).bind fun r=>some (r.1,r.2,r5.2.2))).bind fun r6 =>
 (gd t29 false r6.2.1 r6.2.2 (Z00 P .neq 3 r6.1 (.int .i64 2))).bind fun r7 =>
 (Z0x t29 (.bool true) r7.1).bind fun t34 =>
 (gd t34 false r7.2.1 r7.2.2 (some t26)).bind fun r8 =>
 (gd t34 false r8.2.1 r8.2.2 (ixS 1 r8.1 (.int .i64 0))).bind fun r9 =>
 (gd t34 false r9.2.1 r9.2.2 (ld1 r9.2.1 r9.1)).bind fun r10 =>
 (gg t34 false r10.2.1 r10.2.2 ((Z48 [(.int .i64 0),(.int .i64 0),(.int .i64 0),(.int .i64 0),(.int .i64 0),(.int .i64 0),(.int .i64 0)] [(0,1,(.int .i64 1)),(1,1,(.int .i64 1)),(2,1,(.int .i64 0)),(3,1,(.int .i64 0)),(4,1,(.int .i64 0)),(5,1,(.int .i64 0)),(6,1,(.int .i64 0))]).bind fun cs=>some (.slice (some ⟨(256 * r4.2.2 + 11),0,none⟩) 7 7,newB r10.2.1 (256 * r4.2.2 + 11) cs,r10.2.2))).bind fun r11 =>
 (gg t34 false r11.2.1 r11.2.2 (callF o 21 [r10.1,r11.1] r11.2.1 r11.2.2)).bind fun r12 =>
 (gd t34 false r12.2.1 r12.2.2 (Z1A .not r12.1)).bind fun r13 =>
 (Z0x t34 (.bool true) r13.1).bind fun t42 =>
 (gd t42 false r13.2.1 r13.2.2 (some t26)).bind fun r14 =>
 (gd t42 false r14.2.1 r14.2.2 (ixS 1 r14.1 (.int .i64 1))).bind fun r15 =>
 (gd t42 false r15.2.1 r15.2.2 (ld1 r15.2.1 r15.1)).bind fun r16 =>
 (gg t42 false r16.2.1 r16.2.2 ((Z48 [(.int .i64 0),(.int .i64 0),(.int .i64 0),(.int .i64 0),(.int .i64 0),(.int .i64 0),(.int .i64 0)] [(0,1,(.int .i64 0)),(1,1,(.int .i64 0)),(2,1,(.int .i64 1)),(3,1,(.int .i64 1)),(4,1,(.int .i64 0)),(5,1,(.int .i64 0)),(6,1,(.int .i64 0))]).bind fun cs=>some (.slice (some ⟨(256 * r4.2.2 + 19),0,none⟩) 7 7,newB r16.2.1 (256 * r4.2.2 + 19) cs,r16.2.2))).bind fun r17 =>
 (gg t42 false r17.2.1 r17.2.2 (callF o 21 [r16.1,r17.1] r17.2.1 r17.2.2)).bind fun r18 =>
 (gd t42 false r18.2.1 r18.2.2 (Z1A .not r18.1)).bind fun r19 =>
 (Z0x t42 (.bool true) r19.1).bind fun t50 =>
 Z08 t50
 (some ⟨.ret,[(.bool false)],r19.2.1,(r19.2.2 + 1),[]⟩)
 ((ldN r19.2.1 1 (ptrTo (256 * (c + 1) + 4))).bind fun t52 =>
 (ixS 1 t26 (.int .i64 0)).bind fun t54 =>
 (ld1 r19.2.1 t54).bind fun t55 =>
 (callF o 15 [t52,t55] r19.2.1 (r19.2.2 + 1)).bind fun r20 =>
 (Z1E r20.1 0).bind fun t57 =>
 (Z1E r20.1 1).bind fun t58 =>
 (ldN r20.2.1 1 (ptrTo (256 * (c + 1) + 4))).bind fun t60 =>
 (ixS 1 t26 (.int .i64 1)).bind fun t62 =>
 (ld1 r20.2.1 t62).bind fun t63 =>
 (callF o 15 [t60,t63] r20.2.1 (r20.2.2 + 1)).bind fun r21 =>
 (Z1E r21.1 0).bind fun t65 =>
 (Z1E r21.1 1).bind fun t66 =>
 (ldN r21.2.1 1 (ptrTo (256 * (c + 1) + 4))).bind fun t68 =>
 (ixS 1 t26 (.int .i64 0)).bind fun t70 =>
 (ld1 r21.2.1 t70).bind fun t71 =>
 (callF o 16 [t68,t71] r21.2.1 (r21.2.2 + 1)).bind fun r22 =>
 (Z1E r22.1 0).bind fun t73 =>
 (Z1E r22.1 1).bind fun t74 =>
 (ldN r22.2.1 1 (ptrTo (256 * (c + 1) + 4))).bind fun t76 =>
 (callF o 16 [t76,(.slice (some ⟨(256 * r0.2.2 + 0),0,none⟩) 7 7)] r22.2.1 (r22.2.2 + 1)).bind fun r23 =>
 (Z1E r23.1 0).bind fun t79 =>
 (Z1E r23.1 1).bind fun t80 =>
 (ldN r23.2.1 1 (ptrTo (256 * (c + 1) + 4))).bind fun t82 =>
 (callF o 15 [t82,(.slice (some ⟨(256 * r0.2.2 + 0),0,none⟩) 7 7)] r23.2.1 (r23.2.2 + 1)).bind fun r24 =>
 (Z1E r24.1 0).bind fun t85 =>
 (Z1E r24.1 1).bind fun t86 =>
 (Z00 P .neq 27 t58 (.int .i64 0)).bind fun t88 =>
 (gd t88 false r24.2.1 (r24.2.2 + 1) (some t66)).bind fun r25 =>
 (gd t88 false r25.2.1 r25.2.2 (Z00 P .neq 27 r25.1 (.int .i64 0))).bind fun r26 =>
 (Z0x t88 (.bool true) r26.1).bind fun t92 =>
 (gd t92 false r26.2.1 r26.2.2 (some t74)).bind fun r27 =>
 (gd t92 false r27.2.1 r27.2.2 (Z00 P .neq 27 r27.1 (.int .i64 0))).bind fun r28 =>
 (Z0x t92 (.bool true) r28.1).bind fun t96 =>
 (gd t96 false r28.2.1 r28.2.2 (some t80)).bind fun r29 =>
 (gd t96 false r29.2.1 r29.2.2 (Z00 P .neq 27 r29.1 (.int .i64 0))).bind fun r30 =>
 (Z0x t96 (.bool true) r30.1).bind fun t100 =>
 (gd t100 false r30.2.1 r30.2.2 (some t86)).bind fun r31 =>
 (gd t100 false r31.2.1 r31.2.2 (Z00 P .neq 27 r31.1 (.int .i64 0))).bind fun r32 =>
 (Z0x t100 (.bool true) r32.1).bind fun t104 =>
 (gd t104 false r32.2.1 r32.2.2 (some t57)).bind fun r33 =>
 (gd t104 false r33.2.1 r33.2.2 (Z00 P .neq 3 r33.1 (.int .i64 2))).bind fun r34 =>
 (Z0x t104 (.bool true) r34.1).bind fun t108 =>
 (gd t108 false r34.2.1 r34.2.2 (some t65)).bind fun r35 =>
 (gd t108 false r35.2.1 r35.2.2 (Z00 P .neq 3 r35.1 (.int .i64 2))).bind fun r36 =>
 (Z0x t108 (.bool true) r36.1).bind fun t112 =>
 (gd t112 false r36.2.1 r36.2.2 (some t85)).bind fun r37 =>
 (gd t112 false r37.2.1 r37.2.2 (Z00 P .neq 3 r37.1 (.int .i64 0))).bind fun r38 =>
 (Z0x t112 (.bool true) r38.1).bind fun t116 =>
 (gd t116 false r38.2.1 r38.2.2 (some t73)).bind fun r39 =>
 (gg t116 false r39.2.1 r39.2.2 ((Z48 [(.int .i64 0),(.int .i64 0),(.int .i64 0)] [(0,1,(.int .i64 2)),(1,1,(.int .i64 1)),(2,1,(.int .i64 0))]).bind fun cs=>some (.slice (some ⟨(256 * r24.2.2 + 32),0,none⟩) 3 3,newB r39.2.1 (256 * r24.2.2 + 32) cs,r39.2.2))).bind fun r40 =>
 (gg t116 false r40.2.1 r40.2.2 (callF o 21 [r39.1,r40.1] r40.2.1 r40.2.2)).bind fun r41 =>
 (gd t116 false r41.2.1 r41.2.2 (Z1A .not r41.1)).bind fun r42 =>
 (Z0x t116 (.bool true) r42.1).bind fun t122 =>
 (gd t122 false r42.2.1 r42.2.2 (some t79)).bind fun r43 =>
 (gg t122 false r43.2.1 r43.2.2 ((Z48 [(.int .i64 0),(.int .i64 0),(.int .i64 0)] [(0,1,(.int .i64 0)),(1,1,(.int .i64 1)),(2,1,(.int .i64 0))]).bind fun cs=>some (.slice (some ⟨(256 * r24.2.2 + 38),0,none⟩) 3 3,newB r43.2.1 (256 * r24.2.2 + 38) cs,r43.2.2))).bind fun r44 =>
 (gg t122 false r44.2.1 r44.2.2 (callF o 21 [r43.1,r44.1] r44.2.1 r44.2.2)).bind fun r45 =>
 (gd t122 false r45.2.1 r45.2.2 (Z1A .not r45.1)).bind fun r46 =>
 (Z0x t122 (.bool true) r46.1).bind fun t128 =>
 Z08 t128
  (some ⟨.ret,[(.bool false)],r46.2.1,(r46.2.2 + 1),[]⟩)
  ((ldN r46.2.1 1 (ptrTo (256 * (c + 1) + 4))).bind fun t130 =>
  (Z48 [(.int .i64 0),(.int .i64 0),(.int .i64 0)] [(0,1,(.int .i64 1)),(1,1,(.int .i64 0)),(2,1,(.int .i64 0))]).bind fun r47 =>
  (callF o 25 [t130,(.slice (some ⟨(256 * r46.2.2 + 1),0,none⟩) 3 3)] (newB r46.2.1 (256 * r46.2.2 + 1) r47) (r46.2.2 + 1)).bind fun r48 =>
  (Z1E r48.1 0).bind fun t133 =>
  (Z1E r48.1 1).bind fun t134 =>
  (ldN r48.2.1 1 (ptrTo (256 * (c + 1) + 4))).bind fun t136 =>
  (Z48 [(.int .i64 0),(.int .i64 0),(.int .i64 0),(.int .i64 0),(.int .i64 0),(.int .i64 0),(.int .i64 0)] [(0,1,(.int .i64 3)),(1,1,(.int .i64 3)),(2,1,(.int .i64 1)),(3,1,(.int .i64 1)),(4,1,(.int .i64 2)),(5,1,(.int .i64 0)),(6,1,(.int .i64 0))]).bind fun r49 =>
  (callF o 23 [t136,(.slice (some ⟨(256 * r48.2.2 + 1),0,none⟩) 7 7)] (newB r48.2.1 (256 * r48.2.2 + 1) r49) (r48.2.2 + 1)).bind fun r50 =>
  (Z1E r50.1 0).bind fun t139 =>
  (Z1E r50.1 1).bind fun t140 =>
  (Z1E r50.1 2).bind fun t141 =>
  (Z00 P .eql 27 t134 (.int .i64 0)).bind fun t143 =>
  (gd t143 true r50.2.1 (r50.2.2 + 1) (some t141)).bind fun r51 =>
  (gd t143 true r51.2.1 r51.2.2 (Z00 P .eql 27 r51.1 (.int .i64 0))).bind fun r52 =>
  (Z0x t143 r52.1 (.bool false)).bind fun t147 =>
  (gd t147 true r52.2.1 r52.2.2 (some t133)).bind fun r53 =>
  (gd t147 true r53.2.1 r53.2.2 (some (.slice (some ⟨(256 * r0.2.2 + 0),0,none⟩) 7 7))).bind fun r54 =>
  (gg t147 true r54.2.1 r54.2.2 (callF o 21 [r53.1,r54.1] r54.2.1 r54.2.2)).bind fun r55 =>
  (Z0x t147 r55.1 (.bool false)).bind fun t152 =>
  (gd t152 true r55.2.1 r55.2.2 (some t139)).bind fun r56 =>
  (gg t152 true r56.2.1 r56.2.2 ((Z48 [(.int .i64 0),(.int .i64 0)] [(0,1,(.int .i64 3)),(1,1,(.int .i64 1))]).bind fun cs=>some (.slice (some ⟨(256 * r50.2.2 + 13),0,none⟩) 2 2,newB r56.2.1 (256 * r50.2.2 + 13) cs,r56.2.2))).bind fun r57 =>
  (gg t152 true r57.2.1 r57.2.2 (callF o 21 [r56.1,r57.1] r57.2.1 r57.2.2)).bind fun r58 =>
  (Z0x t152 r58.1 (.bool false)).bind fun t157 =>
  (gd t157 true r58.2.1 r58.2.2 (some t140)).bind fun r59 =>
  (gg t157 true r59.2.1 r59.2.2 ((Z48 [(.int .i64 0),(.int .i64 0),(.int .i64 0),(.int .i64 0),(.int .i64 0),(.int .i64 0),(.int .i64 0)] [(0,1,(.int .i64 0)),(1,1,(.int .i64 0)),(2,1,(.int .i64 0)),(3,1,(.int .i64 0)),(4,1,(.int .i64 2)),(5,1,(.int .i64 0)),(6,1,(.int .i64 0))]).bind fun cs=>some (.slice (some ⟨(256 * r50.2.2 + 18),0,none⟩) 7 7,newB r59.2.1 (256 * r50.2.2 + 18) cs,r59.2.2))).bind fun r60 =>
  (gg t157 true r60.2.1 r60.2.2 (callF o 21 [r59.1,r60.1] r60.2.1 r60.2.2)).bind fun r61 =>
  (Z0x t157 r61.1 (.bool false)).bind fun t162 =>
  (gd t162 true r61.2.1 r61.2.2 (ldN r61.2.1 1 (ptrTo (256 * (c + 1) + 4)))).bind fun r62 =>
  (gd t162 true r62.2.1 r62.2.2 (some (.slice (some ⟨(256 * r0.2.2 + 0),0,none⟩) 7 7))).bind fun r63 =>
  (gg t162 true r63.2.1 r63.2.2 (callF o 17 [r62.1,r63.1] r63.2.1 r63.2.2)).bind fun r64 =>
  (gd t162 true r64.2.1 r64.2.2 (Z00 P .eql 27 r64.1 (.int .i64 0))).bind fun r65 =>
  (Z0x t162 r65.1 (.bool false)).bind fun t168 =>
  (gd t168 true r65.2.1 r65.2.2 (ldN r65.2.1 1 (ptrTo (256 * (c + 1) + 4)))).bind fun r66 =>
  (gg t168 true r66.2.1 r66.2.2 ((Z48 [(.int .i64 0),(.int .i64 0),(.int .i64 0),(.int .i64 0),(.int .i64 0),(.int .i64 0),(.int .i64 0)] [(0,1,(.int .i64 0)),(1,1,(.int .i64 0)),(2,1,(.int .i64 0)),(3,1,(.int .i64 0)),(4,1,(.int .i64 0)),(5,1,(.int .i64 1)),(6,1,(.int .i64 0))]).bind fun cs=>some (.slice (some ⟨(256 * r50.2.2 + 29),0,none⟩) 7 7,newB r66.2.1 (256 * r50.2.2 + 29) cs,r66.2.2))).bind fun r67 =>
  (gg t168 true r67.2.1 r67.2.2 (callF o 17 [r66.1,r67.1] r67.2.1 r67.2.2)).bind fun r68 =>
  (gd t168 true r68.2.1 r68.2.2 (Z00 P .eql 27 r68.1 (.int .i64 130))).bind fun r69 =>
  (Z0x t168 r69.1 (.bool false)).bind fun t174 =>
  some ⟨.ret,[t174],r69.2.1,r69.2.2,[]⟩))
theorem ZoG (o:Orc H) (h:H) (c:Nat):jx P o 175 none f11_c (Z0f (List.range 0) []) h c [] (Kfn P Try.f11.results.toList) = Zr5 o h c:=by kernel_rfl
noncomputable def Zr4 (o:Orc H) (t0:Value) (h:H) (c:Nat):Option (Rt H) :=
 (bif (t0:Value).cells.toList.all Z0e then
 (Z05 (ptrTo (256 * c + 0)) 0).bind fun t3 =>
 (ld1 (newB h (256 * c + 0) (t0:Value).cells.toList) t3).bind fun t4 =>
 (Z11 t4).bind fun t5 =>
 (Z00 P .leq 3 t5 (.int .i64 6)).bind fun t6 =>
 some ⟨.ret,[t6],(newB h (256 * c + 0) (t0:Value).cells.toList),(c + 1 + 1),[]⟩
 else none)
theorem ZoF (o:Orc H) (t0:Value) (h:H) (c:Nat):jx P o 7 none f12_c (Z0f (List.range 1) [t0]) h c [] (Kfn P Try.f12.results.toList) = Zr4 o t0 h c:=by kernel_rfl
theorem f12_go {t0:Value} {h:FH} {c:Nat} {df:List Nat} {r:Rt FH} (e:Zr4 G t0 h c = some r):G (.fn 12) [t0] h c df = some (gcR h c [] r):=Z0d (a:=ZoE) bk_12 rfl (fun args h c=>by cases args <;> rfl) rfl ((ZoF G t0 h c).trans e)
end Go.Proofs.Ytcnndelmnobigaa

namespace Go.Proofs.Ytcnndelmnobigaa
open Go Go.Ab Go.Proofs
variable {H:Type} [HeapC H]
noncomputable def Z20 (o:Orc H) (rd:Option Nat) (t1 t2 t3 t4 t5:Value) (h:H) (c:Nat) (df:List Nat):Option (Rt H) :=
 (Z00 P .lss 3 t5 (.int .i64 4)).bind fun t18 =>
 Z08 t18
 (((Z05 t1 0).bind fun t21 =>
  (ld1 h t21).bind fun t22 =>
  (ixS 20 t22 t4).bind fun t25 =>
  (ixA 4 5 t25 t5).bind fun t26 =>
  (ldN h 5 t26).bind fun t27 =>
  (stN (newB h (256 * (c + 1) + 7) [(.int .i64 0),(.int .i64 0),(.int .i64 0),(.int .i64 0),(.int .i64 0)]) 5 (ptrTo (256 * (c + 1) + 7)) t27).bind fun h1 =>
  (Z05 (ptrTo (256 * (c + 1) + 7)) 0).bind fun t28 =>
  (ld1 h1 t28).bind fun t29 =>
  (Z00 P .eql 3 t29 (.int .i64 (-1))).bind fun t30 =>
  (gd t30 true h1 (c + 1 + 1 + 1) (Z05 (ptrTo (256 * (c + 1) + 7)) 1)).bind fun r2 =>
  (gd t30 true r2.2.1 r2.2.2 (ldN r2.2.1 4 r2.1)).bind fun r3 =>
  (gd t30 true r3.2.1 r3.2.2 (Z4f [(.int .i64 0),(.int .i64 0),(.int .i64 0),(.int .i64 0)] [])).bind fun r4 =>
  (gd t30 true r4.2.1 r4.2.2 (Z00 P .eql 39 r3.1 r4.1)).bind fun r5 =>
  (Z0x t30 r5.1 (.bool false)).bind fun t36 =>
  Z08 t36
   (some ⟨.normal,[t1,t2,t3,t4,t5],r5.2.1,r5.2.2,df⟩)
   ((Z05 (ptrTo (256 * (c + 1) + 7)) 0).bind fun t37 =>
   (ld1 r5.2.1 t37).bind fun t38 =>
   (Z00 P .lss 3 t38 (.int .i64 0)).bind fun t39 =>
   (gd t39 false r5.2.1 (r5.2.2 + 1) (Z05 (ptrTo (256 * (c + 1) + 7)) 0)).bind fun r6 =>
   (gd t39 false r6.2.1 r6.2.2 (ld1 r6.2.1 r6.1)).bind fun r7 =>
   (gd t39 false r7.2.1 r7.2.2 (some t3)).bind fun r8 =>
   (gd t39 false r8.2.1 r8.2.2 (Z00 P .geq 3 r7.1 r8.1)).bind fun r9 =>
   (Z0x t39 (.bool true) r9.1).bind fun t45 =>
   (gd t45 false r9.2.1 r9.2.2 (Z05 (ptrTo (256 * (c + 1) + 7)) 1)).bind fun r10 =>
   (gd t45 false r10.2.1 r10.2.2 (ldN r10.2.1 4 r10.1)).bind fun r11 =>
   (gg t45 false r11.2.1 r11.2.2 (callF o 41 [r11.1] r11.2.1 r11.2.2)).bind fun r12 =>
   (gd t45 false r12.2.1 r12.2.2 (Z1A .not r12.1)).bind fun r13 =>
   (Z0x t45 (.bool true) r13.1).bind fun t51 =>
   (gd t51 false r13.2.1 r13.2.2 (Z05 (ptrTo (256 * (c + 1) + 7)) 0)).bind fun r14 =>
   (gd t51 false r14.2.1 r14.2.2 (ld1 r14.2.1 r14.1)).bind fun r15 =>
   (gd t51 false r15.2.1 r15.2.2 (some t4)).bind fun r16 =>
   (gd t51 false r16.2.1 r16.2.2 (Z00 P .eql 3 r15.1 r16.1)).bind fun r17 =>
   (gd t51 false r17.2.1 r17.2.2 (some r17.1)).bind fun r18 =>
   (gd r18.1 true r18.2.1 r18.2.2 (some t5)).bind fun r19 =>
   (gd r18.1 true r19.2.1 r19.2.2 (Z05 (ptrTo (256 * (c + 1) + 7)) 1)).bind fun r20 =>
   (gd r18.1 true r20.2.1 r20.2.2 (ixA 4 1 r20.1 r19.1)).bind fun r21 =>
   (gd r18.1 true r21.2.1 r21.2.2 (ld1 r21.2.1 r21.1)).bind fun r22 =>
   (gd r18.1 true r22.2.1 r22.2.2 (some t5)).bind fun r23 =>
   (gd r18.1 true r23.2.1 r23.2.2 (Z00 P .eql 3 r22.1 r23.1)).bind fun r24 =>
   (gg t51 false r24.2.1 r24.2.2 (ZaE r24.2.1 r24.2.2 r18.1 r24.1 (.bool false))).bind fun r25 =>
   (Z0x t51 (.bool true) r25.1).bind fun t65 =>
   Z08 t65
    (some ⟨.ret,[t1,(.int .i64 7),t3,t4,t5],r25.2.1,(r25.2.2 + 1),df⟩)
    ((Z05 t1 0).bind fun t66 =>
    (ld1 r25.2.1 t66).bind fun t67 =>
    (Z05 (ptrTo (256 * (c + 1) + 7)) 0).bind fun t68 =>
    (ld1 r25.2.1 t68).bind fun t69 =>
    (Z05 (ptrTo (256 * (c + 1) + 7)) 1).bind fun t71 =>
    (ixA 4 1 t71 t5).bind fun t72 =>
    (ld1 r25.2.1 t72).bind fun t73 =>
    (ixS 20 t67 t69).bind fun t74 =>
    (ixA 4 5 t74 t73).bind fun t75 =>
    (ldN r25.2.1 5 t75).bind fun t76 =>
    (Z05 (ptrTo (256 * (c + 1) + 7)) 1).bind fun t78 =>
    (ldN r25.2.1 4 t78).bind fun t79 =>
    (callF o 42 [t79] r25.2.1 (r25.2.2 + 1)).bind fun r27 =>
    (Z4f [(.int .i64 0),(.int .i64 0),(.int .i64 0),(.int .i64 0),(.int .i64 0)] [(0,1,t4),(1,4,r27.1)]).bind fun t81 =>
    (Z00 P .neq 41 t76 t81).bind fun t82 =>
    (bif (Z0Y (Z2f t66) r25.2.1 r27.2.1 && (Z0Y (Z2f t68) r25.2.1 r27.2.1 && (Z0Y (Z2f t72) r25.2.1 r27.2.1 && (Z0Y (Z2f t75) r25.2.1 r27.2.1 && true)))) then
    Z08 t82
     (some ⟨.ret,[t1,(.int .i64 7),t3,t4,t5],r27.2.1,(r27.2.2 + 1),df⟩)
     (some ⟨.normal,[t1,t2,t3,t4,t5],r27.2.1,r27.2.2,df⟩)
    else none))):Option (Rt H)).bind fun r29 =>
 cond (Z0o r29.e .normal)
  ((Z00 P .add 3 (r29.v 4) (.int .i64 1)).bind fun t20 =>
  some ⟨.normal,[r29.v 0,r29.v 1,r29.v 2,r29.v 3,t20],r29.h,(r29.c + 1),r29.df⟩)
  (cond (Z0o r29.e .ret)
   (some ⟨.ret,[r29.v 0,r29.v 1,r29.v 2,r29.v 3,r29.v 4],r29.h,r29.c,r29.df⟩)
   (none)))
 (some ⟨(.exit 2),[t1,t2,t3,t4,t5],h,(c + 1),df⟩)
theorem Z5B (o:Orc H) (rd:Option Nat) (t1 t2 t3 t4 t5:Value) (h:H) (c:Nat) (df:List Nat):jx P o 83 rd Z3O (Z0f [1,2,3,4,5] [t1,t2,t3,t4,t5]) h c df (Klp [1,2,3,4,5]) = Z20 o rd t1 t2 t3 t4 t5 h c df:=by kernel_rfl
noncomputable def Z1f (o:Orc H) (rd:Option Nat) (t1 t2 t3 t4:Value) (h:H) (c:Nat) (df:List Nat):Option (Rt H) :=
 (Z00 P .lss 3 t4 t3).bind fun t14 =>
 Z08 t14
 ((o (Z3M rd) [t1,t2,t3,t4,(.int .i64 0)] h (c + 1 + 1) df).bind fun r0 =>
 cond (Z0o r0.e (.exit 2))
  ((Z00 P .add 3 (r0.v 3) (.int .i64 1)).bind fun t16 =>
  some ⟨.normal,[r0.v 0,r0.v 1,r0.v 2,t16],r0.h,(r0.c + 1),r0.df⟩)
  (cond (Z0o r0.e .ret)
   (some ⟨.ret,[r0.v 0,r0.v 1,r0.v 2,r0.v 3],r0.h,r0.c,r0.df⟩)
   (none)))
 (some ⟨(.exit 0),[t1,t2,t3,t4],h,(c + 1),df⟩)
theorem Z5C (o:Orc H) (rd:Option Nat) (t1 t2 t3 t4:Value) (h:H) (c:Nat) (df:List Nat):jx P o 83 rd Z3P (Z0f [1,2,3,4] [t1,t2,t3,t4]) h c df (Klp [1,2,3,4]) = Z1f o rd t1 t2 t3 t4 h c df:=by kernel_rfl
noncomputable def ZkU (o:Orc H) (t0:Value) (h:H) (c:Nat):Option (Rt H) :=
 (bif (t0:Value).cells.toList.all Z0e then
 (Z05 (ptrTo (256 * c + 0)) 0).bind fun t7 =>
 (ld1 (newB h (256 * c + 0) (t0:Value).cells.toList) t7).bind fun t8 =>
 (Z11 t8).bind fun t9 =>
 (Z00 P .gtr 3 t9 (.int .i64 1000)).bind fun t11 =>
 Z08 t11
 (some ⟨.ret,[(.int .i64 7)],(newB h (256 * c + 0) (t0:Value).cells.toList),(c + 1 + 1 + 1 + 1),[]⟩)
 ((o (Z3N none) [(ptrTo (256 * c + 0)),(.int .i64 0),t9,(.int .i64 0)] (newB h (256 * c + 0) (t0:Value).cells.toList) (c + 1 + 1 + 1 + 1) []).bind fun r0 =>
 cond (Z0o r0.e (.exit 0))
  ((Z09 r0.h r0.df).bind fun h2 =>
  some ⟨.ret,[(.int .i64 0)],h2,(r0.c + 1),[]⟩)
  (cond (Z0o r0.e .ret)
   ((Z09 r0.h r0.df).bind fun h1 =>
   some ⟨.ret,[r0.v 1],h1,r0.c,[]⟩)
   (none)))
 else none)
theorem ZhA (o:Orc H) (t0:Value) (h:H) (c:Nat):jx P o 83 none f13_c (Z0f (List.range 1) [t0]) h c [] (Kfn P Try.f13.results.toList) = ZkU o t0 h c:=by kernel_rfl
theorem f13_go {t0:Value} {h:FH} {c:Nat} {df:List Nat} {r:Rt FH} (e:ZkU G t0 h c = some r):G (.fn 13) [t0] h c df = some (gcR h c [] r):=Z0d (a:=Zfp) bk_13 rfl (fun args h c=>by cases args <;> rfl) rfl ((ZhA G t0 h c).trans e)
theorem Zc5 {rd:Option Nat} {t1 t2 t3 t4 t5:Value} {h:FH} {c:Nat} {df:List Nat} {q r:Rt FH} (e:Z20 G rd t1 t2 t3 t4 t5 h c df = some q) (hq:q.e = .normal) (k:G (Z3M rd) q.vs (gcR h c df q).h (gcR h c df q).c q.df = some r):G (Z3M rd) [t1,t2,t3,t4,t5] h c df = some r:=Z0L ((Z5B G rd t1 t2 t3 t4 t5 h c df).trans e) hq k
theorem Zc3 {rd:Option Nat} {t1 t2 t3 t4 t5:Value} {h:FH} {c:Nat} {df:List Nat} {q:Rt FH} (e:Z20 G rd t1 t2 t3 t4 t5 h c df = some q) (hq:q.e ≠ .normal):G (Z3M rd) [t1,t2,t3,t4,t5] h c df = some (gcR h c df q):=Z0M ((Z5B G rd t1 t2 t3 t4 t5 h c df).trans e) hq
theorem Zc6 {rd:Option Nat} {t1 t2 t3 t4:Value} {h:FH} {c:Nat} {df:List Nat} {q r:Rt FH} (e:Z1f G rd t1 t2 t3 t4 h c df = some q) (hq:q.e = .normal) (k:G (Z3N rd) q.vs (gcR h c df q).h (gcR h c df q).c q.df = some r):G (Z3N rd) [t1,t2,t3,t4] h c df = some r:=Z0L ((Z5C G rd t1 t2 t3 t4 h c df).trans e) hq k
theorem Zc4 {rd:Option Nat} {t1 t2 t3 t4:Value} {h:FH} {c:Nat} {df:List Nat} {q:Rt FH} (e:Z1f G rd t1 t2 t3 t4 h c df = some q) (hq:q.e ≠ .normal):G (Z3N rd) [t1,t2,t3,t4] h c df = some (gcR h c df q):=Z0M ((Z5C G rd t1 t2 t3 t4 h c df).trans e) hq
noncomputable def Z4Q (o:Orc H) (rd:Option Nat) (t1 t5 t7 t9 t10 t26 t27 t28 t42 t43:Value) (h:H) (c:Nat) (df:List Nat):Option (Rt H) :=
 (Z00 P .lss 3 t43 t42).bind fun t44 =>
 Z08 t44
 ((Z0y t5).bind fun t47 =>
 (Z05 t47 0).bind fun t48 =>
 (callF o 46 [t48,t43] h (c + 1 + 1 + 1)).bind fun r0 =>
 (Z00 P .eql 3 r0.1 t9).bind fun t52 =>
 (Z08 t52
  ((Z00 P .quo 3 t43 (.int .i64 4)).bind fun t55 =>
  (Z00 P .mul 3 t55 (.int .i64 7)).bind fun t56 =>
  (Z00 P .rem 3 t43 (.int .i64 4)).bind fun t58 =>
  (Z00 P .add 3 t56 t58).bind fun t59 =>
  (ixS 1 t10 t59).bind fun t60 =>
  (stN r0.2.1 1 t60 (.int .i64 1)).bind fun h2 =>
  some ⟨.normal,[t1,t5,t7,t9,t10,t26,t27,t28,t42,t43],h2,(r0.2.2 + 1),df⟩)
  (some ⟨.normal,[t1,t5,t7,t9,t10,t26,t27,t28,t42,t43],r0.2.1,r0.2.2,df⟩):Option (Rt H)).bind fun r3 =>
 cond (Z0o r3.e .normal)
  ((Z00 P .add 3 (r3.v 9) (.int .i64 1)).bind fun t61 =>
  some ⟨.normal,[r3.v 0,r3.v 1,r3.v 2,r3.v 3,r3.v 4,r3.v 5,r3.v 6,r3.v 7,r3.v 8,t61],r3.h,(r3.c + 1),r3.df⟩)
  (none))
 (some ⟨(.exit 2),[t1,t5,t7,t9,t10,t26,t27,t28,t42,t43],h,(c + 1),df⟩)
theorem Z5z (o:Orc H) (rd:Option Nat) (t1 t5 t7 t9 t10 t26 t27 t28 t42 t43:Value) (h:H) (c:Nat) (df:List Nat):jx P o 68 rd Z3K (Z0f [1,5,7,9,10,26,27,28,42,43] [t1,t5,t7,t9,t10,t26,t27,t28,t42,t43]) h c df (Klp [1,5,7,9,10,26,27,28,42,43]) = Z4Q o rd t1 t5 t7 t9 t10 t26 t27 t28 t42 t43 h c df:=by kernel_rfl
noncomputable def Z4R (o:Orc H) (rd:Option Nat) (t1 t5 t7 t26 t27 t28:Value) (h:H) (c:Nat) (df:List Nat):Option (Rt H) :=
 (Z00 P .lss 3 t28 t27).bind fun t29 =>
 Z08 t29
 ((ixS 1 t26 t28).bind fun t30 =>
 (ld1 h t30).bind fun t31 =>
 (Z05 t1 0).bind fun t32 =>
 (ld1 h t32).bind fun t33 =>
 (Z11 t33).bind fun t34 =>
 (Z00 P .mul 3 (.int .i64 7) t34).bind fun t35 =>
 (mkS 1 8 [(.int .i64 0)] t35 t35).bind fun r0 =>
 (Z0y t5).bind fun t38 =>
 (Z05 t38 0).bind fun t39 =>
 (Z05 t39 0).bind fun t40 =>
 (ld1 (newB h (256 * (c + 1 + 1) + 4) r0.1) t40).bind fun t41 =>
 (Z11 t41).bind fun t42 =>
 (o (Zc1 rd) [t1,t5,t7,t31,(.slice (some ⟨(256 * (c + 1 + 1) + 4),0,none⟩) r0.2.1 r0.2.2),t26,t27,t28,t42,(.int .i64 0)] (newB h (256 * (c + 1 + 1) + 4) r0.1) (c + 1 + 1 + 1 + 1) df).bind fun r1 =>
 cond (Z0o r1.e (.exit 2))
  ((Z48 [(.slice none 0 0)] [(0,1,(r1.v 4))]).bind fun r2 =>
  (Zde (newB r1.h (256 * r1.c + 2) r2) (256 * r1.c + 3) 1 24 (r1.v 2) (.slice (some ⟨(256 * r1.c + 2),0,none⟩) 1 1)).bind fun r3 =>
  (Z00 P .add 3 (r1.v 7) (.int .i64 1)).bind fun t66 =>
  some ⟨.normal,[r1.v 0,r1.v 1,r3.1,r1.v 5,r1.v 6,t66],r3.2,(r1.c + 1 + 1),r1.df⟩)
  (none))
 (some ⟨(.exit 0),[t1,t5,t7,t26,t27,t28],h,(c + 1),df⟩)
theorem Z5A (o:Orc H) (rd:Option Nat) (t1 t5 t7 t26 t27 t28:Value) (h:H) (c:Nat) (df:List Nat):jx P o 68 rd Z3L (Z0f [1,5,7,26,27,28] [t1,t5,t7,t26,t27,t28]) h c df (Klp [1,5,7,26,27,28]) = Z4R o rd t1 t5 t7 t26 t27 t28 h c df:=by kernel_rfl
noncomputable def ZkT (o:Orc H) (t0:Value) (h:H) (c:Nat):Option (Rt H) :=
 (bif (t0:Value).cells.toList.all Z0e then
 (ldN (newB h (256 * c + 0) (t0:Value).cells.toList) 1 (ptrTo (256 * c + 0))).bind fun t12 =>
 (callF o 43 [t12] (newB h (256 * c + 0) (t0:Value).cells.toList) (c + 1 + 1)).bind fun r0 =>
 (Z00 P .neq 27 r0.1 (.int .i64 0)).bind fun t15 =>
 Z08 t15
 (some ⟨.ret,[.tuple #[(.slice none 0 0),r0.1]],r0.2.1,(r0.2.2 + 1 + 1),[]⟩)
 ((ldN r0.2.1 1 (ptrTo (256 * c + 0))).bind fun t18 =>
 (callF o 44 [t18] r0.2.1 (r0.2.2 + 1 + 1)).bind fun r1 =>
 (Z1E r1.1 0).bind fun t20 =>
 (Z1E r1.1 1).bind fun t21 =>
 (Z48 [] []).bind fun r2 =>
 (Z0y t20).bind fun t24 =>
 (Z05 t24 0).bind fun t25 =>
 (callF o 45 [t25] (newB r1.2.1 (256 * r1.2.2 + 0) r2) (r1.2.2 + 1 + 1)).bind fun r3 =>
 (Z11 r3.1).bind fun t27 =>
 (o (Zc2 none) [(ptrTo (256 * c + 0)),t20,(.slice (some ⟨(256 * r1.2.2 + 0),0,none⟩) 0 0),r3.1,t27,(.int .i64 0)] r3.2.1 r3.2.2 []).bind fun r4 =>
 cond (Z0o r4.e (.exit 0))
  ((Z09 r4.h r4.df).bind fun h5 =>
  some ⟨.ret,[.tuple #[r4.v 2,(.int .i64 0)]],h5,(r4.c + 1),[]⟩)
  (none))
 else none)
theorem Zhz (o:Orc H) (t0:Value) (h:H) (c:Nat):jx P o 68 none f14_c (Z0f (List.range 1) [t0]) h c [] (Kfn P Try.f14.results.toList) = ZkT o t0 h c:=by kernel_rfl
theorem f14_go {t0:Value} {h:FH} {c:Nat} {df:List Nat} {r:Rt FH} (e:ZkT G t0 h c = some r):G (.fn 14) [t0] h c df = some r:=Z0d (a:=Zfo) bk_14 rfl (fun args h c=>by cases args <;> rfl) rfl ((Zhz G t0 h c).trans e)
noncomputable def Z3J (o:Orc H) (rd:Option Nat) (t1 t7 t8 t10 t28 t29 t30 t35 t36 t63:Value) (h:H) (c:Nat) (df:List Nat):Option (Rt H) :=
 (Z00 P .lss 3 t63 (.int .i64 4)).bind fun t64 =>
 Z08 t64
 ((Z00 P .neq 3 t63 t10).bind fun t68 =>
 (Z08 t68
  ((callF o 50 [t1,t8,t10,t63] h (c + 1 + 1 + 1 + 1)).bind fun r0 =>
  (Z00 P .sub 3 t7 r0.1).bind fun t75 =>
  some ⟨.normal,[t1,t75,t8,t10,t28,t29,t30,t35,t36,t63],r0.2.1,r0.2.2,df⟩)
  (some ⟨.normal,[t1,t7,t8,t10,t28,t29,t30,t35,t36,t63],h,(c + 1 + 1 + 1),df⟩):Option (Rt H)).bind fun r2 =>
 cond (Z0o r2.e .normal)
  ((Z00 P .add 3 (r2.v 9) (.int .i64 1)).bind fun t76 =>
  some ⟨.normal,[r2.v 0,r2.v 1,r2.v 2,r2.v 3,r2.v 4,r2.v 5,r2.v 6,r2.v 7,r2.v 8,t76],r2.h,(r2.c + 1),r2.df⟩)
  (none))
 (some ⟨(.exit 4),[t1,t7,t8,t10,t28,t29,t30,t35,t36,t63],h,(c + 1),df⟩)
theorem Z2T (o:Orc H) (rd:Option Nat) (t1 t7 t8 t10 t28 t29 t30 t35 t36 t63:Value) (h:H) (c:Nat) (df:List Nat):jx P o 80 rd Z3G (Z0f [1,7,8,10,28,29,30,35,36,63] [t1,t7,t8,t10,t28,t29,t30,t35,t36,t63]) h c df (Klp [1,7,8,10,28,29,30,35,36,63]) = Z3J o rd t1 t7 t8 t10 t28 t29 t30 t35 t36 t63 h c df:=by kernel_rfl
noncomputable def Z4N (o:Orc H) (rd:Option Nat) (t1 t7 t8 t28 t29 t30 t35 t36:Value) (h:H) (c:Nat) (df:List Nat):Option (Rt H) :=
 (Z00 P .lss 3 t36 (.int .i64 4)).bind fun t37 =>
 Z08 t37
 (((ixV 4 true 5 t35 t36).bind fun t39 =>
  (stN (newB h (256 * (c + 1) + 2) [(.int .i64 0),(.int .i64 0),(.int .i64 0),(.int .i64 0),(.int .i64 0)]) 5 (ptrTo (256 * (c + 1) + 2)) t39).bind fun h1 =>
  (Z05 (ptrTo (256 * (c + 1) + 2)) 0).bind fun t40 =>
  (ld1 h1 t40).bind fun t41 =>
  (Z00 P .geq 3 t41 (.int .i64 0)).bind fun t42 =>
  (gd t42 true h1 (c + 1 + 1 + 1) (Z05 (ptrTo (256 * (c + 1) + 2)) 0)).bind fun r2 =>
  (gd t42 true r2.2.1 r2.2.2 (ld1 r2.2.1 r2.1)).bind fun r3 =>
  (gd t42 true r3.2.1 r3.2.2 (some t8)).bind fun r4 =>
  (gd t42 true r4.2.1 r4.2.2 (Z00 P .lss 3 r3.1 r4.1)).bind fun r5 =>
  (gd t42 true r5.2.1 r5.2.2 (some r5.1)).bind fun r6 =>
  (gd r6.1 false r6.2.1 r6.2.2 (Z05 (ptrTo (256 * (c + 1) + 2)) 0)).bind fun r7 =>
  (gd r6.1 false r7.2.1 r7.2.2 (ld1 r7.2.1 r7.1)).bind fun r8 =>
  (gd r6.1 false r8.2.1 r8.2.2 (some t8)).bind fun r9 =>
  (gd r6.1 false r9.2.1 r9.2.2 (Z00 P .eql 3 r8.1 r9.1)).bind fun r10 =>
  (gd r6.1 false r10.2.1 r10.2.2 (some r10.1)).bind fun r11 =>
  (gd r11.1 true r11.2.1 r11.2.2 (some t36)).bind fun r12 =>
  (gd r11.1 true r12.2.1 r12.2.2 (Z05 (ptrTo (256 * (c + 1) + 2)) 1)).bind fun r13 =>
  (gd r11.1 true r13.2.1 r13.2.2 (ixA 4 1 r13.1 r12.1)).bind fun r14 =>
  (gd r11.1 true r14.2.1 r14.2.2 (ld1 r14.2.1 r14.1)).bind fun r15 =>
  (gd r11.1 true r15.2.1 r15.2.2 (some t36)).bind fun r16 =>
  (gd r11.1 true r16.2.1 r16.2.2 (Z00 P .lss 3 r15.1 r16.1)).bind fun r17 =>
  (gg r6.1 false r17.2.1 r17.2.2 (ZaE r17.2.1 r17.2.2 r11.1 r17.1 (.bool false))).bind fun r18 =>
  (gg t42 true r18.2.1 r18.2.2 (ZaE r18.2.1 r18.2.2 r6.1 (.bool true) r18.1)).bind fun r19 =>
  (Z0x t42 r19.1 (.bool false)).bind fun t62 =>
  Z08 t62
   (some ⟨.normal,[t1,t7,t8,t28,t29,t30,t35,t36],r19.2.1,r19.2.2,df⟩)
   ((o (ZbZ rd) [t1,t7,t8,t36,t28,t29,t30,t35,t36,(.int .i64 0)] r19.2.1 (r19.2.2 + 1) df).bind fun r20 =>
   cond (Z0o r20.e (.exit 4))
    (some ⟨.normal,[r20.v 0,r20.v 1,r20.v 2,r20.v 4,r20.v 5,r20.v 6,r20.v 7,r20.v 8],r20.h,r20.c,r20.df⟩)
    (none)):Option (Rt H)).bind fun r21 =>
 cond (Z0o r21.e .normal)
  ((Z00 P .add 3 (r21.v 7) (.int .i64 1)).bind fun t77 =>
  some ⟨.normal,[r21.v 0,r21.v 1,r21.v 2,r21.v 3,r21.v 4,r21.v 5,r21.v 6,t77],r21.h,(r21.c + 1),r21.df⟩)
  (none))
 (some ⟨(.exit 2),[t1,t7,t8,t28,t29,t30,t35,t36],h,(c + 1),df⟩)
theorem Z5x (o:Orc H) (rd:Option Nat) (t1 t7 t8 t28 t29 t30 t35 t36:Value) (h:H) (c:Nat) (df:List Nat):jx P o 80 rd Z3H (Z0f [1,7,8,28,29,30,35,36] [t1,t7,t8,t28,t29,t30,t35,t36]) h c df (Klp [1,7,8,28,29,30,35,36]) = Z4N o rd t1 t7 t8 t28 t29 t30 t35 t36 h c df:=by kernel_rfl
noncomputable def Z4O (o:Orc H) (rd:Option Nat) (t1 t7 t28 t29 t30:Value) (h:H) (c:Nat) (df:List Nat):Option (Rt H) :=
 (Z00 P .lss 3 t30 t29).bind fun t31 =>
 Z08 t31
 ((ixS 20 t28 t30).bind fun t33 =>
 (ldN h 20 t33).bind fun t34 =>
 (stN (newB h (256 * (c + 1) + 3) [(.int .i64 0),(.int .i64 0),(.int .i64 0),(.int .i64 0),(.int .i64 0),(.int .i64 0),(.int .i64 0),(.int .i64 0),(.int .i64 0),(.int .i64 0),(.int .i64 0),(.int .i64 0),(.int .i64 0),(.int .i64 0),(.int .i64 0),(.int .i64 0),(.int .i64 0),(.int .i64 0),(.int .i64 0),(.int .i64 0)]) 20 (ptrTo (256 * (c + 1) + 3)) t34).bind fun h1 =>
 (ldN h1 20 (ptrTo (256 * (c + 1) + 3))).bind fun t35 =>
 (o (Z6u rd) [t1,t7,t30,t28,t29,t30,t35,(.int .i64 0)] h1 (c + 1 + 1 + 1) df).bind fun r2 =>
 cond (Z0o r2.e (.exit 2))
  ((Z00 P .add 3 (r2.v 5) (.int .i64 1)).bind fun t78 =>
  some ⟨.normal,[r2.v 0,r2.v 1,r2.v 3,r2.v 4,t78],r2.h,(r2.c + 1),r2.df⟩)
  (none))
 (some ⟨(.exit 0),[t1,t7,t28,t29,t30],h,(c + 1),df⟩)
theorem Z5y (o:Orc H) (rd:Option Nat) (t1 t7 t28 t29 t30:Value) (h:H) (c:Nat) (df:List Nat):jx P o 80 rd Z3I (Z0f [1,7,28,29,30] [t1,t7,t28,t29,t30]) h c df (Klp [1,7,28,29,30]) = Z4O o rd t1 t7 t28 t29 t30 h c df:=by kernel_rfl
noncomputable def ZkS (o:Orc H) (t0 t1:Value) (h:H) (c:Nat):Option (Rt H) :=
 (bif (t0:Value).cells.toList.all Z0e then
 (ldN (newB h (256 * c + 0) (t0:Value).cells.toList) 1 (ptrTo (256 * c + 0))).bind fun t13 =>
 (Z48 [(.slice none 0 0)] [(0,1,t1)]).bind fun r0 =>
 (callF o 47 [t13,(.slice (some ⟨(256 * (c + 1) + 2),0,none⟩) 1 1)] (newB (newB h (256 * c + 0) (t0:Value).cells.toList) (256 * (c + 1) + 2) r0) (c + 1 + 1)).bind fun r1 =>
 (Z00 P .neq 27 r1.1 (.int .i64 0)).bind fun t18 =>
 Z08 t18
 (some ⟨.ret,[.tuple #[(.int .i64 0),r1.1]],r1.2.1,(r1.2.2 + 1 + 1),[]⟩)
 ((ldN r1.2.1 1 (ptrTo (256 * c + 0))).bind fun t20 =>
 (callF o 49 [t20,t1] r1.2.1 (r1.2.2 + 1 + 1)).bind fun r2 =>
 (callF o 48 [r2.1] r2.2.1 r2.2.2).bind fun r3 =>
 (callF o 48 [t1] r3.2.1 r3.2.2).bind fun r4 =>
 (Z00 P .add 3 r3.1 r4.1).bind fun t26 =>
 (Z05 (ptrTo (256 * c + 0)) 0).bind fun t27 =>
 (ld1 r4.2.1 t27).bind fun t28 =>
 (Z11 t28).bind fun t29 =>
 (o (Zc0 none) [t1,t26,t28,t29,(.int .i64 0)] r4.2.1 (r4.2.2 + 1) []).bind fun r5 =>
 cond (Z0o r5.e (.exit 0))
  ((Z09 r5.h r5.df).bind fun h6 =>
  some ⟨.ret,[.tuple #[r5.v 1,(.int .i64 0)]],h6,(r5.c + 1),[]⟩)
  (none))
 else none)
theorem Zhy (o:Orc H) (t0 t1:Value) (h:H) (c:Nat):jx P o 80 none f15_c (Z0f (List.range 2) [t0,t1]) h c [] (Kfn P Try.f15.results.toList) = ZkS o t0 t1 h c:=by kernel_rfl
theorem f15_go {t0 t1:Value} {h:FH} {c:Nat} {df:List Nat} {r:Rt FH} (e:ZkS G t0 t1 h c = some r):G (.fn 15) [t0,t1] h c df = some (gcR h c [] r):=Z0d (a:=Zfn) bk_15 rfl (fun args h c=>by cases args <;> rfl) rfl ((Zhy G t0 t1 h c).trans e)
noncomputable def ZkR (o:Orc H) (t0 t1:Value) (h:H) (c:Nat):Option (Rt H) :=
 (bif (t0:Value).cells.toList.all Z0e then
 (ldN (newB h (256 * c + 0) (t0:Value).cells.toList) 1 (ptrTo (256 * c + 0))).bind fun t7 =>
 (Z48 [(.slice none 0 0)] [(0,1,t1)]).bind fun r0 =>
 (callF o 47 [t7,(.slice (some ⟨(256 * (c + 1) + 2),0,none⟩) 1 1)] (newB (newB h (256 * c + 0) (t0:Value).cells.toList) (256 * (c + 1) + 2) r0) (c + 1 + 1)).bind fun r1 =>
 (Z00 P .neq 27 r1.1 (.int .i64 0)).bind fun t12 =>
 Z08 t12
 (some ⟨.ret,[.tuple #[(.slice none 0 0),r1.1]],r1.2.1,(r1.2.2 + 1 + 1),[]⟩)
 ((ldN r1.2.1 1 (ptrTo (256 * c + 0))).bind fun t14 =>
 (callF o 49 [t14,t1] r1.2.1 (r1.2.2 + 1 + 1)).bind fun r2 =>
 some ⟨.ret,[.tuple #[r2.1,(.int .i64 0)]],r2.2.1,r2.2.2,[]⟩)
 else none)
theorem Zhx (o:Orc H) (t0 t1:Value) (h:H) (c:Nat):jx P o 17 none f16_c (Z0f (List.range 2) [t0,t1]) h c [] (Kfn P Try.f16.results.toList) = ZkR o t0 t1 h c:=by kernel_rfl
theorem f16_go {t0 t1:Value} {h:FH} {c:Nat} {df:List Nat} {r:Rt FH} (e:ZkR G t0 t1 h c = some r):G (.fn 16) [t0,t1] h c df = some r:=Z0d (a:=Zfm) bk_16 rfl (fun args h c=>by cases args <;> rfl) rfl ((Zhx G t0 t1 h c).trans e)
noncomputable def ZkQ (o:Orc H) (t0 t1:Value) (h:H) (c:Nat):Option (Rt H) :=
 (bif (t0:Value).cells.toList.all Z0e then
 (ldN (newB h (256 * c + 0) (t0:Value).cells.toList) 1 (ptrTo (256 * c + 0))).bind fun t5 =>
 (Z48 [(.slice none 0 0)] [(0,1,t1)]).bind fun r0 =>
 (callF o 47 [t5,(.slice (some ⟨(256 * (c + 1) + 2),0,none⟩) 1 1)] (newB (newB h (256 * c + 0) (t0:Value).cells.toList) (256 * (c + 1) + 2) r0) (c + 1 + 1)).bind fun r1 =>
 some ⟨.ret,[r1.1],r1.2.1,r1.2.2,[]⟩
 else none)
theorem Zhw (o:Orc H) (t0 t1:Value) (h:H) (c:Nat):jx P o 9 none f17_c (Z0f (List.range 2) [t0,t1]) h c [] (Kfn P Try.f17.results.toList) = ZkQ o t0 t1 h c:=by kernel_rfl
theorem f17_go {t0 t1:Value} {h:FH} {c:Nat} {df:List Nat} {r:Rt FH} (e:ZkQ G t0 t1 h c = some r):G (.fn 17) [t0,t1] h c df = some (gcR h c [] r):=Z0d (a:=Zfl) bk_17 rfl (fun args h c=>by cases args <;> rfl) rfl ((Zhw G t0 t1 h c).trans e)
noncomputable def Z9c (o:Orc H) (rd:Option Nat) (t0 t2 t3:Value) (h:H) (c:Nat) (df:List Nat):Option (Rt H) :=
 (Z11 t0).bind fun t6 =>
 (Z00 P .lss 3 t3 t6).bind fun t7 =>
 Z08 t7
 ((ixS 1 t0 t3).bind fun t12 =>
 (ld1 h t12).bind fun t13 =>
 (Z11 t13).bind fun t14 =>
 (Z00 P .gtr 3 t14 (.int .i64 50)).bind fun t15 =>
 Z08 t15
  (some ⟨.ret,[t0,(.bool false),t3],h,(c + 1 + 1 + 1),df⟩)
  ((Z00 P .add 3 t3 (.int .i64 1)).bind fun t9 =>
  some ⟨.normal,[t0,t2,t9],h,(c + 1 + 1 + 1),df⟩))
 (some ⟨(.exit 0),[t0,t2,t3],h,(c + 1),df⟩)
theorem Z7F (o:Orc H) (rd:Option Nat) (t0 t2 t3:Value) (h:H) (c:Nat) (df:List Nat):jx P o 16 rd Z9b (Z0f [0,2,3] [t0,t2,t3]) h c df (Klp [0,2,3]) = Z9c o rd t0 t2 t3 h c df:=by kernel_rfl
noncomputable def Zr1 (o:Orc H) (t0:Value) (h:H) (c:Nat):Option (Rt H) :=
 (o (ZbY none) [t0,(.bool false),(.int .i64 0)] h (c + 1 + 1) []).bind fun r0 =>
 cond (Z0o r0.e (.exit 0))
 ((Z09 r0.h r0.df).bind fun h2 =>
 some ⟨.ret,[(.bool true)],h2,(r0.c + 1),[]⟩)
 (cond (Z0o r0.e .ret)
  ((Z09 r0.h r0.df).bind fun h1 =>
  some ⟨.ret,[r0.v 1],h1,r0.c,[]⟩)
  (none))
theorem ZoD (o:Orc H) (t0:Value) (h:H) (c:Nat):jx P o 16 none f18_c (Z0f (List.range 1) [t0]) h c [] (Kfn P Try.f18.results.toList) = Zr1 o t0 h c:=by kernel_rfl
theorem f18_go {t0:Value} {h:FH} {c:Nat} {df:List Nat} {r:Rt FH} (e:Zr1 G t0 h c = some r):G (.fn 18) [t0] h c df = some (gcR h c [] r):=Z0d (a:=ZoC) bk_18 rfl (fun args h c=>by cases args <;> rfl) rfl ((ZoD G t0 h c).trans e)
noncomputable def ZoB (o:Orc H) (t0 t1:Value) (h:H) (c:Nat):Option (Rt H) :=
 (Z00 P .gtr 3 t0 t1).bind fun t7 =>
 Z08 t7
 ((callF o 20 [t1,t0] h (c + 1 + 1 + 1)).bind fun r0 =>
 some ⟨.ret,[r0.1],r0.2.1,r0.2.2,[]⟩)
 ((Z00 P .eql 3 t0 (.int .i64 0)).bind fun t12 =>
 Z08 t12
  ((Z00 P .sub 3 t1 (.int .i64 1)).bind fun t14 =>
  some ⟨.ret,[t14],h,(c + 1 + 1 + 1 + 1),[]⟩)
  ((Z00 P .sub 3 (.int .i64 5) t0).bind fun t16 =>
  (Z00 P .sub 3 t16 t1).bind fun t18 =>
  some ⟨.ret,[t18],h,(c + 1 + 1 + 1 + 1),[]⟩))
theorem ZoA (o:Orc H) (t0 t1:Value) (h:H) (c:Nat):jx P o 19 none f20_c (Z0f (List.range 2) [t0,t1]) h c [] (Kfn P Try.f20.results.toList) = ZoB o t0 t1 h c:=by kernel_rfl
theorem Zpy {t0 t1:Value} {h:FH} {c:Nat} {df:List Nat} {r:Rt FH} (e:ZoB G t0 t1 h c = some r):G (.fn 20) [t0,t1] h c df = some (gcR h c [] r):=Z0d (a:=Zoz) bk_20 rfl (fun args h c=>by cases args <;> rfl) rfl ((ZoA G t0 t1 h c).trans e)
noncomputable def Z4M (o:Orc H) (rd:Option Nat) (t0 t1 t4 t5:Value) (h:H) (c:Nat) (df:List Nat):Option (Rt H) :=
 (Z11 t0).bind fun t13 =>
 (Z00 P .lss 3 t5 t13).bind fun t14 =>
 Z08 t14
 ((ixS 1 t0 t5).bind fun t19 =>
 (ld1 h t19).bind fun t20 =>
 (ixS 1 t1 t5).bind fun t23 =>
 (ld1 h t23).bind fun t24 =>
 (Z00 P .neq 3 t20 t24).bind fun t25 =>
 Z08 t25
  (some ⟨.ret,[t0,t1,(.bool false),t5],h,(c + 1 + 1 + 1),df⟩)
  ((Z00 P .add 3 t5 (.int .i64 1)).bind fun t16 =>
  some ⟨.normal,[t0,t1,t4,t16],h,(c + 1 + 1 + 1),df⟩))
 (some ⟨(.exit 0),[t0,t1,t4,t5],h,(c + 1),df⟩)
theorem Z5w (o:Orc H) (rd:Option Nat) (t0 t1 t4 t5:Value) (h:H) (c:Nat) (df:List Nat):jx P o 26 rd Z3F (Z0f [0,1,4,5] [t0,t1,t4,t5]) h c df (Klp [0,1,4,5]) = Z4M o rd t0 t1 t4 t5 h c df:=by kernel_rfl
noncomputable def ZkP (o:Orc H) (t0 t1:Value) (h:H) (c:Nat):Option (Rt H) :=
 (Z11 t0).bind fun t7 =>
 (Z11 t1).bind fun t9 =>
 (Z00 P .neq 3 t7 t9).bind fun t10 =>
 Z08 t10
 (some ⟨.ret,[(.bool false)],h,(c + 1 + 1 + 1),[]⟩)
 ((o (ZbX none) [t0,t1,(.bool false),(.int .i64 0)] h (c + 1 + 1 + 1) []).bind fun r0 =>
 cond (Z0o r0.e (.exit 0))
  ((Z09 r0.h r0.df).bind fun h2 =>
  some ⟨.ret,[(.bool true)],h2,(r0.c + 1),[]⟩)
  (cond (Z0o r0.e .ret)
   ((Z09 r0.h r0.df).bind fun h1 =>
   some ⟨.ret,[r0.v 2],h1,r0.c,[]⟩)
   (none)))
theorem Zhv (o:Orc H) (t0 t1:Value) (h:H) (c:Nat):jx P o 26 none f21_c (Z0f (List.range 2) [t0,t1]) h c [] (Kfn P Try.f21.results.toList) = ZkP o t0 t1 h c:=by kernel_rfl
theorem f21_go {t0 t1:Value} {h:FH} {c:Nat} {df:List Nat} {r:Rt FH} (e:ZkP G t0 t1 h c = some r):G (.fn 21) [t0,t1] h c df = some (gcR h c [] r):=Z0d (a:=Zfj) bk_21 rfl (fun args h c=>by cases args <;> rfl) rfl ((Zhv G t0 t1 h c).trans e)
end Go.Proofs.Ytcnndelmnobigaa

namespace Go.Proofs.Ytcnndelmnobigaa
open Go Go.Ab Go.Proofs
variable {H:Type} [HeapC H]
noncomputable def Z99 (o:Orc H) (rd:Option Nat) (t1 t4 t5 t8 t11 t12 t33 t34 t35 t53 t54:Value) (h:H) (c:Nat) (df:List Nat):Option (Rt H) :=
 (Z00 P .lss 3 t54 t53).bind fun t55 =>
 Z08 t55
 ((Z0y t8).bind fun t58 =>
 (Z05 t58 0).bind fun t59 =>
 (callF o 46 [t59,t54] h (c + 1 + 1 + 1)).bind fun r0 =>
 (Z00 P .eql 3 r0.1 t11).bind fun t63 =>
 (Z08 t63
  ((Z00 P .quo 3 t54 (.int .i64 4)).bind fun t67 =>
  (Z00 P .mul 3 t67 (.int .i64 7)).bind fun t68 =>
  (Z00 P .rem 3 t54 (.int .i64 4)).bind fun t70 =>
  (Z00 P .add 3 t68 t70).bind fun t71 =>
  (ixS 1 t1 t71).bind fun t72 =>
  (ld1 r0.2.1 t72).bind fun t73 =>
  (Z2P min2 [t12,t73]).bind fun t74 =>
  some ⟨.normal,[t1,t4,t5,t8,t11,t74,t33,t34,t35,t53,t54],r0.2.1,(r0.2.2 + 1),df⟩)
  (some ⟨.normal,[t1,t4,t5,t8,t11,t12,t33,t34,t35,t53,t54],r0.2.1,r0.2.2,df⟩):Option (Rt H)).bind fun r2 =>
 cond (Z0o r2.e .normal)
  ((Z00 P .add 3 (r2.v 10) (.int .i64 1)).bind fun t75 =>
  some ⟨.normal,[r2.v 0,r2.v 1,r2.v 2,r2.v 3,r2.v 4,r2.v 5,r2.v 6,r2.v 7,r2.v 8,r2.v 9,t75],r2.h,(r2.c + 1),r2.df⟩)
  (none))
 (some ⟨(.exit 2),[t1,t4,t5,t8,t11,t12,t33,t34,t35,t53,t54],h,(c + 1),df⟩)
theorem Zd6 (o:Orc H) (rd:Option Nat) (t1 t4 t5 t8 t11 t12 t33 t34 t35 t53 t54:Value) (h:H) (c:Nat) (df:List Nat):jx P o 112 rd Z3D (Z0f [1,4,5,8,11,12,33,34,35,53,54] [t1,t4,t5,t8,t11,t12,t33,t34,t35,t53,t54]) h c df (Klp [1,4,5,8,11,12,33,34,35,53,54]) = Z99 o rd t1 t4 t5 t8 t11 t12 t33 t34 t35 t53 t54 h c df:=by kernel_rfl
noncomputable def Z98 (o:Orc H) (rd:Option Nat) (t1 t4 t5 t8 t11 t12 t33 t34 t35 t81 t82:Value) (h:H) (c:Nat) (df:List Nat):Option (Rt H) :=
 (Z00 P .lss 3 t82 t81).bind fun t83 =>
 Z08 t83
 ((Z0y t8).bind fun t86 =>
 (Z05 t86 0).bind fun t87 =>
 (callF o 46 [t87,t82] h (c + 1 + 1 + 1)).bind fun r0 =>
 (Z00 P .eql 3 r0.1 t11).bind fun t91 =>
 (Z08 t91
  ((Z00 P .quo 3 t82 (.int .i64 4)).bind fun t94 =>
  (Z00 P .mul 3 t94 (.int .i64 7)).bind fun t95 =>
  (Z00 P .rem 3 t82 (.int .i64 4)).bind fun t97 =>
  (Z00 P .add 3 t95 t97).bind fun t98 =>
  (ixS 1 t5 t98).bind fun t99 =>
  (ld1 r0.2.1 t99).bind fun t100 =>
  (Z00 P .sub 3 t100 t12).bind fun t102 =>
  (ixS 1 t5 t98).bind fun t103 =>
  (stN r0.2.1 1 t103 t102).bind fun h2 =>
  some ⟨.normal,[t1,t4,t5,t8,t11,t12,t33,t34,t35,t81,t82],h2,(r0.2.2 + 1),df⟩)
  (some ⟨.normal,[t1,t4,t5,t8,t11,t12,t33,t34,t35,t81,t82],r0.2.1,r0.2.2,df⟩):Option (Rt H)).bind fun r3 =>
 cond (Z0o r3.e .normal)
  ((Z00 P .add 3 (r3.v 10) (.int .i64 1)).bind fun t104 =>
  some ⟨.normal,[r3.v 0,r3.v 1,r3.v 2,r3.v 3,r3.v 4,r3.v 5,r3.v 6,r3.v 7,r3.v 8,r3.v 9,t104],r3.h,(r3.c + 1),r3.df⟩)
  (none))
 (some ⟨(.exit 4),[t1,t4,t5,t8,t11,t12,t33,t34,t35,t81,t82],h,(c + 1),df⟩)
theorem Zd5 (o:Orc H) (rd:Option Nat) (t1 t4 t5 t8 t11 t12 t33 t34 t35 t81 t82:Value) (h:H) (c:Nat) (df:List Nat):jx P o 112 rd Z3C (Z0f [1,4,5,8,11,12,33,34,35,81,82] [t1,t4,t5,t8,t11,t12,t33,t34,t35,t81,t82]) h c df (Klp [1,4,5,8,11,12,33,34,35,81,82]) = Z98 o rd t1 t4 t5 t8 t11 t12 t33 t34 t35 t81 t82 h c df:=by kernel_rfl
noncomputable def Z9a (o:Orc H) (rd:Option Nat) (t1 t4 t5 t8 t33 t34 t35:Value) (h:H) (c:Nat) (df:List Nat):Option (Rt H) :=
 (Z00 P .lss 3 t35 t34).bind fun t36 =>
 Z08 t36
 ((ixS 1 t33 t35).bind fun t37 =>
 (ld1 h t37).bind fun t38 =>
 (Z00 P .quo 3 t38 (.int .i64 4)).bind fun t41 =>
 (Z00 P .mul 3 t41 (.int .i64 7)).bind fun t42 =>
 (Z00 P .rem 3 t38 (.int .i64 4)).bind fun t44 =>
 (Z00 P .add 3 t42 t44).bind fun t45 =>
 (ixS 1 t1 t45).bind fun t46 =>
 (ld1 h t46).bind fun t47 =>
 (Z0y t8).bind fun t49 =>
 (Z05 t49 0).bind fun t50 =>
 (Z05 t50 0).bind fun t51 =>
 (ld1 h t51).bind fun t52 =>
 (Z11 t52).bind fun t53 =>
 (o (ZiN rd) [t1,t4,t5,t8,t38,t47,t33,t34,t35,t53,(.int .i64 0)] h (c + 1 + 1 + 1 + 1) df).bind fun r0 =>
 cond (Z0o r0.e (.exit 2))
  ((Z0y (r0.v 3)).bind fun t77 =>
  (Z05 t77 0).bind fun t78 =>
  (Z05 t78 0).bind fun t79 =>
  (ld1 r0.h t79).bind fun t80 =>
  (Z11 t80).bind fun t81 =>
  (o (ZiM rd) [r0.v 0,r0.v 1,r0.v 2,r0.v 3,r0.v 4,r0.v 5,r0.v 6,r0.v 7,r0.v 8,t81,(.int .i64 0)] r0.h (r0.c + 1) r0.df).bind fun r1 =>
  cond (Z0o r1.e (.exit 4))
   ((Z48 [(.int .i64 0)] [(0,1,(r1.v 5))]).bind fun r2 =>
   (Zde (newB r1.h (256 * r1.c + 2) r2) (256 * r1.c + 3) 1 8 (r1.v 1) (.slice (some ⟨(256 * r1.c + 2),0,none⟩) 1 1)).bind fun r3 =>
   (Z00 P .add 3 (r1.v 8) (.int .i64 1)).bind fun t109 =>
   some ⟨.normal,[r1.v 0,r3.1,r1.v 2,r1.v 3,r1.v 6,r1.v 7,t109],r3.2,(r1.c + 1 + 1),r1.df⟩)
   (none))
  (none))
 (some ⟨(.exit 0),[t1,t4,t5,t8,t33,t34,t35],h,(c + 1),df⟩)
theorem Zd7 (o:Orc H) (rd:Option Nat) (t1 t4 t5 t8 t33 t34 t35:Value) (h:H) (c:Nat) (df:List Nat):jx P o 112 rd Z3E (Z0f [1,4,5,8,33,34,35] [t1,t4,t5,t8,t33,t34,t35]) h c df (Klp [1,4,5,8,33,34,35]) = Z9a o rd t1 t4 t5 t8 t33 t34 t35 h c df:=by kernel_rfl
noncomputable def Zr0 (o:Orc H) (t0 t1:Value) (h:H) (c:Nat):Option (Rt H) :=
 (bif (t0:Value).cells.toList.all Z0e then
 (ldN (newB h (256 * c + 0) (t0:Value).cells.toList) 1 (ptrTo (256 * c + 0))).bind fun t15 =>
 (Z48 [(.slice none 0 0)] [(0,1,t1)]).bind fun r0 =>
 (callF o 47 [t15,(.slice (some ⟨(256 * (c + 1) + 2),0,none⟩) 1 1)] (newB (newB h (256 * c + 0) (t0:Value).cells.toList) (256 * (c + 1) + 2) r0) (c + 1 + 1)).bind fun r1 =>
 (Z00 P .neq 27 r1.1 (.int .i64 0)).bind fun t20 =>
 Z08 t20
 (some ⟨.ret,[.tuple #[(.slice none 0 0),(.slice none 0 0),r1.1]],r1.2.1,(r1.2.2 + 1 + 1),[]⟩)
 ((ldN r1.2.1 1 (ptrTo (256 * c + 0))).bind fun t23 =>
 (callF o 44 [t23] r1.2.1 (r1.2.2 + 1 + 1)).bind fun r2 =>
 (Z1E r2.1 0).bind fun t25 =>
 (Z1E r2.1 1).bind fun t26 =>
 (callF o 53 [t1] r2.2.1 (r2.2.2 + 1)).bind fun r3 =>
 (Z48 [] []).bind fun r4 =>
 (Z0y t25).bind fun t31 =>
 (Z05 t31 0).bind fun t32 =>
 (callF o 45 [t32] (newB r3.2.1 (256 * r3.2.2 + 0) r4) (r3.2.2 + 1 + 1)).bind fun r5 =>
 (Z11 r5.1).bind fun t34 =>
 (o (ZiO none) [t1,(.slice (some ⟨(256 * r3.2.2 + 0),0,none⟩) 0 0),r3.1,t25,r5.1,t34,(.int .i64 0)] r5.2.1 r5.2.2 []).bind fun r6 =>
 cond (Z0o r6.e (.exit 0))
  ((Z09 r6.h r6.df).bind fun h7 =>
  some ⟨.ret,[.tuple #[r6.v 1,r6.v 2,(.int .i64 0)]],h7,(r6.c + 1),[]⟩)
  (none))
 else none)
theorem Zoy (o:Orc H) (t0 t1:Value) (h:H) (c:Nat):jx P o 112 none f23_c (Z0f (List.range 2) [t0,t1]) h c [] (Kfn P Try.f23.results.toList) = Zr0 o t0 t1 h c:=by kernel_rfl
noncomputable def Z97 (o:Orc H) (rd:Option Nat) (t1 t2 t4 t5 t29 t30:Value) (h:H) (c:Nat) (df:List Nat):Option (Rt H) :=
 (Z00 P .lss 3 t30 t29).bind fun t31 =>
 Z08 t31
 ((Z00 P .mul 3 (.int .i64 3) t30).bind fun t35 =>
 (Z00 P .mul 3 (.int .i64 3) t30).bind fun t37 =>
 (Z00 P .add 3 t37 (.int .i64 3)).bind fun t38 =>
 (slS h 1 t1 (some t35) (some t38) none).bind fun t39 =>
 (callF o 56 [t39] h (c + 1 + 1 + 1)).bind fun r0 =>
 (Z1A .not r0.1).bind fun t41 =>
 Z08 t41
  (some ⟨.ret,[t1,t2,(.slice none 0 0),(.int .i64 1),t29,t30],r0.2.1,(r0.2.2 + 1),df⟩)
  ((Z00 P .add 3 t30 (.int .i64 1)).bind fun t42 =>
  some ⟨.normal,[t1,t2,t4,t5,t29,t42],r0.2.1,(r0.2.2 + 1),df⟩))
 (some ⟨(.exit 0),[t1,t2,t4,t5,t29,t30],h,(c + 1),df⟩)
theorem Zd4 (o:Orc H) (rd:Option Nat) (t1 t2 t4 t5 t29 t30:Value) (h:H) (c:Nat) (df:List Nat):jx P o 52 rd Z3B (Z0f [1,2,4,5,29,30] [t1,t2,t4,t5,t29,t30]) h c df (Klp [1,2,4,5,29,30]) = Z97 o rd t1 t2 t4 t5 t29 t30 h c df:=by kernel_rfl
noncomputable def ZqZ (o:Orc H) (t0 t1:Value) (h:H) (c:Nat):Option (Rt H) :=
 (bif (t0:Value).cells.toList.all Z0e then
 (ldN (newB h (256 * c + 0) (t0:Value).cells.toList) 1 (ptrTo (256 * c + 0))).bind fun t10 =>
 (callF o 43 [t10] (newB h (256 * c + 0) (t0:Value).cells.toList) (c + 1 + 1)).bind fun r0 =>
 (Z00 P .neq 27 r0.1 (.int .i64 0)).bind fun t13 =>
 Z08 t13
 (some ⟨.ret,[.tuple #[(.slice none 0 0),r0.1]],r0.2.1,(r0.2.2 + 1 + 1),[]⟩)
 ((Z11 t1).bind fun t16 =>
 (Z05 (ptrTo (256 * c + 0)) 0).bind fun t17 =>
 (ld1 r0.2.1 t17).bind fun t18 =>
 (Z11 t18).bind fun t19 =>
 (Z00 P .mul 3 (.int .i64 3) t19).bind fun t20 =>
 (Z00 P .neq 3 t16 t20).bind fun t21 =>
 (gd t21 false r0.2.1 (r0.2.2 + 1 + 1) (some t1)).bind fun r1 =>
 (gg t21 false r1.2.1 r1.2.2 (callF o 55 [r1.1] r1.2.1 r1.2.2)).bind fun r2 =>
 (gd t21 false r2.2.1 r2.2.2 (Z1A .not r2.1)).bind fun r3 =>
 (Z0x t21 (.bool true) r3.1).bind fun t26 =>
 Z08 t26
  (some ⟨.ret,[.tuple #[(.slice none 0 0),(.int .i64 1)]],r3.2.1,(r3.2.2 + 1),[]⟩)
  ((Z05 (ptrTo (256 * c + 0)) 0).bind fun t27 =>
  (ld1 r3.2.1 t27).bind fun t28 =>
  (Z11 t28).bind fun t29 =>
  (o (ZiK none) [t1,(ptrTo (256 * c + 0)),(.slice none 0 0),(.int .i64 0),t29,(.int .i64 0)] r3.2.1 (r3.2.2 + 1) []).bind fun r4 =>
  cond (Z0o r4.e (.exit 0))
   ((ldN r4.h 1 (r4.v 1)).bind fun t44 =>
   (callF o 57 [t44,r4.v 0] r4.h (r4.c + 1)).bind fun r6 =>
   (Z1E r6.1 0).bind fun t47 =>
   (Z1E r6.1 1).bind fun t48 =>
   (Z1A .not t48).bind fun t50 =>
   Z08 t50
    ((Z09 r6.2.1 r4.df).bind fun h7 =>
    some ⟨.ret,[.tuple #[(.slice none 0 0),(.int .i64 3)]],h7,(r6.2.2 + 1 + 1),[]⟩)
    ((Z09 r6.2.1 r4.df).bind fun h8 =>
    some ⟨.ret,[.tuple #[t47,(.int .i64 0)]],h8,(r6.2.2 + 1 + 1),[]⟩))
   (cond (Z0o r4.e .ret)
    ((Z09 r4.h r4.df).bind fun h5 =>
    some ⟨.ret,[.tuple #[r4.v 2,r4.v 3]],h5,r4.c,[]⟩)
    (none))))
 else none)
theorem Zox (o:Orc H) (t0 t1:Value) (h:H) (c:Nat):jx P o 52 none f25_c (Z0f (List.range 2) [t0,t1]) h c [] (Kfn P Try.f25.results.toList) = ZqZ o t0 t1 h c:=by kernel_rfl
noncomputable def Z6s (o:Orc H) (rd:Option Nat) (t1 t5 t6 t7 t8 t9:Value) (h:H) (c:Nat) (df:List Nat):Option (Rt H) :=
 (Z00 P .lss 3 t9 (.int .i64 4)).bind fun t55 =>
 Z08 t55
 (((Z00 P .eql 3 t9 t7).bind fun t60 =>
  Z08 t60
   (some ⟨.normal,[t1,t5,t6,t7,t8,t9],h,(c + 1 + 1),df⟩)
   ((Z05 t1 0).bind fun t61 =>
   (ld1 h t61).bind fun t62 =>
   (Z11 t62).bind fun t63 =>
   (Z00 P .mul 3 (.int .i64 7) t63).bind fun t64 =>
   (mkS 1 8 [(.int .i64 0)] t64 t64).bind fun r0 =>
   (Z05 t8 1).bind fun t67 =>
   (ixA 4 1 t67 t7).bind fun t68 =>
   (ld1 (newB h (256 * (c + 1 + 1) + 4) r0.1) t68).bind fun t69 =>
   (Z05 t8 1).bind fun t71 =>
   (ixA 4 1 t71 t9).bind fun t72 =>
   (ld1 (newB h (256 * (c + 1 + 1) + 4) r0.1) t72).bind fun t73 =>
   (Z00 P .mul 3 (.int .i64 7) t6).bind fun t76 =>
   (Z00 P .add 3 t76 t9).bind fun t78 =>
   (ixS 1 (.slice (some ⟨(256 * (c + 1 + 1) + 4),0,none⟩) r0.2.1 r0.2.2) t78).bind fun t79 =>
   (ld1 (newB h (256 * (c + 1 + 1) + 4) r0.1) t79).bind fun t80 =>
   (Z00 P .add 3 t80 (.int .i64 1)).bind fun t81 =>
   (ixS 1 (.slice (some ⟨(256 * (c + 1 + 1) + 4),0,none⟩) r0.2.1 r0.2.2) t78).bind fun t82 =>
   (stN (newB h (256 * (c + 1 + 1) + 4) r0.1) 1 t82 t81).bind fun h2 =>
   (Z00 P .mul 3 (.int .i64 7) t6).bind fun t85 =>
   (Z00 P .add 3 t85 (.int .i64 4)).bind fun t86 =>
   (callF o 20 [t9,t7] h2 (c + 1 + 1 + 1 + 1 + 1 + 1 + 1)).bind fun r3 =>
   (Z00 P .add 3 t86 r3.1).bind fun t90 =>
   (ixS 1 (.slice (some ⟨(256 * (c + 1 + 1) + 4),0,none⟩) r0.2.1 r0.2.2) t90).bind fun t91 =>
   (ld1 r3.2.1 t91).bind fun t92 =>
   (Z00 P .add 3 t92 (.int .i64 1)).bind fun t93 =>
   (ixS 1 (.slice (some ⟨(256 * (c + 1 + 1) + 4),0,none⟩) r0.2.1 r0.2.2) t90).bind fun t94 =>
   (stN r3.2.1 1 t94 t93).bind fun h5 =>
   (Z05 t8 0).bind fun t96 =>
   (ld1 h5 t96).bind fun t97 =>
   (Z00 P .mul 3 (.int .i64 7) t97).bind fun t98 =>
   (Z00 P .add 3 t98 t73).bind fun t100 =>
   (ixS 1 (.slice (some ⟨(256 * (c + 1 + 1) + 4),0,none⟩) r0.2.1 r0.2.2) t100).bind fun t101 =>
   (ld1 h5 t101).bind fun t102 =>
   (Z00 P .sub 3 t102 (.int .i64 1)).bind fun t103 =>
   (ixS 1 (.slice (some ⟨(256 * (c + 1 + 1) + 4),0,none⟩) r0.2.1 r0.2.2) t100).bind fun t104 =>
   (stN h5 1 t104 t103).bind fun h7 =>
   (Z05 t8 0).bind fun t106 =>
   (ld1 h7 t106).bind fun t107 =>
   (Z00 P .mul 3 (.int .i64 7) t107).bind fun t108 =>
   (Z00 P .add 3 t108 (.int .i64 4)).bind fun t109 =>
   (callF o 20 [t73,t69] h7 (r3.2.2 + 1 + 1)).bind fun r8 =>
   (Z00 P .add 3 t109 r8.1).bind fun t113 =>
   (ixS 1 (.slice (some ⟨(256 * (c + 1 + 1) + 4),0,none⟩) r0.2.1 r0.2.2) t113).bind fun t114 =>
   (ld1 r8.2.1 t114).bind fun t115 =>
   (Z00 P .sub 3 t115 (.int .i64 1)).bind fun t116 =>
   (ixS 1 (.slice (some ⟨(256 * (c + 1 + 1) + 4),0,none⟩) r0.2.1 r0.2.2) t113).bind fun t117 =>
   (stN r8.2.1 1 t117 t116).bind fun h10 =>
   (bif (Z0Y (Z2f t106) h7 r8.2.1 && true) then
   (Z48 [(.slice none 0 0)] [(0,1,(.slice (some ⟨(256 * (c + 1 + 1) + 4),0,none⟩) r0.2.1 r0.2.2))]).bind fun r11 =>
   (Zde (newB h10 (256 * r8.2.2 + 2) r11) (256 * r8.2.2 + 3) 1 24 t5 (.slice (some ⟨(256 * r8.2.2 + 2),0,none⟩) 1 1)).bind fun r12 =>
   some ⟨.normal,[t1,r12.1,t6,t7,t8,t9],r12.2,(r8.2.2 + 1),df⟩
   else none)):Option (Rt H)).bind fun r14 =>
 cond (Z0o r14.e .normal)
  ((Z00 P .add 3 (r14.v 5) (.int .i64 1)).bind fun t57 =>
  some ⟨.normal,[r14.v 0,r14.v 1,r14.v 2,r14.v 3,r14.v 4,t57],r14.h,(r14.c + 1),r14.df⟩)
  (none))
 (some ⟨(.exit 4),[t1,t5,t6,t7,t8,t9],h,(c + 1),df⟩)
theorem Z5u (o:Orc H) (rd:Option Nat) (t1 t5 t6 t7 t8 t9:Value) (h:H) (c:Nat) (df:List Nat):jx P o 123 rd Z93 (Z0f [1,5,6,7,8,9] [t1,t5,t6,t7,t8,t9]) h c df (Klp [1,5,6,7,8,9]) = Z6s o rd t1 t5 t6 t7 t8 t9 h c df:=by kernel_rfl
noncomputable def Z6t (o:Orc H) (rd:Option Nat) (t1 t5 t6 t7:Value) (h:H) (c:Nat) (df:List Nat):Option (Rt H) :=
 (Z00 P .lss 3 t7 (.int .i64 4)).bind fun t26 =>
 Z08 t26
 (((Z05 t1 0).bind fun t29 =>
  (ld1 h t29).bind fun t30 =>
  (ixS 20 t30 t6).bind fun t33 =>
  (ixA 4 5 t33 t7).bind fun t34 =>
  (ldN h 5 t34).bind fun t35 =>
  (stN (newB h (256 * (c + 1) + 7) [(.int .i64 0),(.int .i64 0),(.int .i64 0),(.int .i64 0),(.int .i64 0)]) 5 (ptrTo (256 * (c + 1) + 7)) t35).bind fun h1 =>
  (Z05 (ptrTo (256 * (c + 1) + 7)) 0).bind fun t36 =>
  (ld1 h1 t36).bind fun t37 =>
  (Z00 P .lss 3 t37 t6).bind fun t39 =>
  (gd t39 false h1 (c + 1 + 1 + 1) (Z05 (ptrTo (256 * (c + 1) + 7)) 0)).bind fun r2 =>
  (gd t39 false r2.2.1 r2.2.2 (ld1 r2.2.1 r2.1)).bind fun r3 =>
  (gd t39 false r3.2.1 r3.2.2 (some t6)).bind fun r4 =>
  (gd t39 false r4.2.1 r4.2.2 (Z00 P .eql 3 r3.1 r4.1)).bind fun r5 =>
  (gd t39 false r5.2.1 r5.2.2 (some r5.1)).bind fun r6 =>
  (gd r6.1 true r6.2.1 r6.2.2 (some t7)).bind fun r7 =>
  (gd r6.1 true r7.2.1 r7.2.2 (Z05 (ptrTo (256 * (c + 1) + 7)) 1)).bind fun r8 =>
  (gd r6.1 true r8.2.1 r8.2.2 (ixA 4 1 r8.1 r7.1)).bind fun r9 =>
  (gd r6.1 true r9.2.1 r9.2.2 (ld1 r9.2.1 r9.1)).bind fun r10 =>
  (gd r6.1 true r10.2.1 r10.2.2 (some t7)).bind fun r11 =>
  (gd r6.1 true r11.2.1 r11.2.2 (Z00 P .lss 3 r10.1 r11.1)).bind fun r12 =>
  (gg t39 false r12.2.1 r12.2.2 (ZaE r12.2.1 r12.2.2 r6.1 r12.1 (.bool false))).bind fun r13 =>
  (Z0x t39 (.bool true) r13.1).bind fun t53 =>
  Z08 t53
   (some ⟨.normal,[t1,t5,t6,t7],r13.2.1,r13.2.2,df⟩)
   ((o (ZbV rd) [t1,t5,t6,t7,(ptrTo (256 * (c + 1) + 7)),(.int .i64 0)] r13.2.1 (r13.2.2 + 1) df).bind fun r14 =>
   cond (Z0o r14.e (.exit 4))
    (some ⟨.normal,[r14.v 0,r14.v 1,r14.v 2,r14.v 3],r14.h,r14.c,r14.df⟩)
    (none)):Option (Rt H)).bind fun r15 =>
 cond (Z0o r15.e .normal)
  ((Z00 P .add 3 (r15.v 3) (.int .i64 1)).bind fun t28 =>
  some ⟨.normal,[r15.v 0,r15.v 1,r15.v 2,t28],r15.h,(r15.c + 1),r15.df⟩)
  (none))
 (some ⟨(.exit 2),[t1,t5,t6,t7],h,(c + 1),df⟩)
theorem Z5v (o:Orc H) (rd:Option Nat) (t1 t5 t6 t7:Value) (h:H) (c:Nat) (df:List Nat):jx P o 123 rd Z94 (Z0f [1,5,6,7] [t1,t5,t6,t7]) h c df (Klp [1,5,6,7]) = Z6t o rd t1 t5 t6 t7 h c df:=by kernel_rfl
noncomputable def Z96 (o:Orc H) (rd:Option Nat) (t1 t5 t6:Value) (h:H) (c:Nat) (df:List Nat):Option (Rt H) :=
 (Z05 t1 0).bind fun t19 =>
 (ld1 h t19).bind fun t20 =>
 (Z11 t20).bind fun t21 =>
 (Z00 P .lss 3 t6 t21).bind fun t22 =>
 Z08 t22
 ((o (Z6r rd) [t1,t5,t6,(.int .i64 0)] h (c + 1 + 1) df).bind fun r0 =>
 cond (Z0o r0.e (.exit 2))
  ((Z00 P .add 3 (r0.v 2) (.int .i64 1)).bind fun t24 =>
  some ⟨.normal,[r0.v 0,r0.v 1,t24],r0.h,(r0.c + 1),r0.df⟩)
  (none))
 (some ⟨(.exit 0),[t1,t5,t6],h,(c + 1),df⟩)
theorem Z7E (o:Orc H) (rd:Option Nat) (t1 t5 t6:Value) (h:H) (c:Nat) (df:List Nat):jx P o 123 rd Z95 (Z0f [1,5,6] [t1,t5,t6]) h c df (Klp [1,5,6]) = Z96 o rd t1 t5 t6 h c df:=by kernel_rfl
noncomputable def ZqY (o:Orc H) (t0:Value) (h:H) (c:Nat):Option (Rt H) :=
 (bif (t0:Value).cells.toList.all Z0e then
 (ldN (newB h (256 * c + 0) (t0:Value).cells.toList) 1 (ptrTo (256 * c + 0))).bind fun t13 =>
 (callF o 58 [t13] (newB h (256 * c + 0) (t0:Value).cells.toList) (c + 1 + 1)).bind fun r0 =>
 (Z00 P .neq 27 r0.1 (.int .i64 0)).bind fun t16 =>
 Z08 t16
 (some ⟨.ret,[.tuple #[(.slice none 0 0),r0.1]],r0.2.1,(r0.2.2 + 1 + 1),[]⟩)
 ((o (ZbW none) [(ptrTo (256 * c + 0)),(.slice none 0 0),(.int .i64 0)] r0.2.1 (r0.2.2 + 1 + 1 + 1) []).bind fun r1 =>
 cond (Z0o r1.e (.exit 0))
  ((Z09 r1.h r1.df).bind fun h2 =>
  some ⟨.ret,[.tuple #[r1.v 1,(.int .i64 0)]],h2,(r1.c + 1),[]⟩)
  (none))
 else none)
theorem Zow (o:Orc H) (t0:Value) (h:H) (c:Nat):jx P o 123 none f26_c (Z0f (List.range 1) [t0]) h c [] (Kfn P Try.f26.results.toList) = ZqY o t0 h c:=by kernel_rfl
theorem f26_go {t0:Value} {h:FH} {c:Nat} {df:List Nat} {r:Rt FH} (e:ZqY G t0 h c = some r):G (.fn 26) [t0] h c df = some r:=Z0d (a:=Zov) bk_26 rfl (fun args h c=>by cases args <;> rfl) rfl ((Zow G t0 h c).trans e)
noncomputable def Z6q (o:Orc H) (l:Nat) (t16 t1 t5:Value) (h:H) (c:Nat):Option (Rt H) :=
 (stN (newB h (256 * c + 0) [(.int .i64 0),(.int .i64 0),(.int .i64 0),(.int .i64 0),(.int .i64 0),(.int .i64 0)]) 6 (ptrTo (256 * c + 0)) t16).bind fun h1 =>
 (Z1D h1 l).bind fun h2 =>
 (Z05 t1 0).bind fun t17 =>
 (ld1 h2 t17).bind fun t18 =>
 (Z11 t18).bind fun t19 =>
 (Z00 P .mul 3 (.int .i64 7) t19).bind fun t20 =>
 (mkS 1 8 [(.int .i64 0)] t20 t20).bind fun r3 =>
 (Z05 (ptrTo (256 * c + 0)) 0).bind fun t23 =>
 (ld1 (newB h2 (256 * (c + 1) + 4) r3.1) t23).bind fun t24 =>
 (Z00 P .mul 3 (.int .i64 7) t24).bind fun t25 =>
 (Z05 (ptrTo (256 * c + 0)) 2).bind fun t26 =>
 (ld1 (newB h2 (256 * (c + 1) + 4) r3.1) t26).bind fun t27 =>
 (Z00 P .add 3 t25 t27).bind fun t28 =>
 (ixS 1 (.slice (some ⟨(256 * (c + 1) + 4),0,none⟩) r3.2.1 r3.2.2) t28).bind fun t29 =>
 (ld1 (newB h2 (256 * (c + 1) + 4) r3.1) t29).bind fun t30 =>
 (Z00 P .add 3 t30 (.int .i64 1)).bind fun t31 =>
 (ixS 1 (.slice (some ⟨(256 * (c + 1) + 4),0,none⟩) r3.2.1 r3.2.2) t28).bind fun t32 =>
 (stN (newB h2 (256 * (c + 1) + 4) r3.1) 1 t32 t31).bind fun h5 =>
 (Z05 (ptrTo (256 * c + 0)) 0).bind fun t34 =>
 (ld1 h5 t34).bind fun t35 =>
 (Z00 P .mul 3 (.int .i64 7) t35).bind fun t36 =>
 (Z00 P .add 3 t36 (.int .i64 4)).bind fun t37 =>
 (callF o 60 [] h5 (c + 1 + 1 + 1 + 1)).bind fun r6 =>
 (Z05 (ptrTo (256 * c + 0)) 2).bind fun t39 =>
 (ld1 r6.2.1 t39).bind fun t40 =>
 (ixV 4 true 4 r6.1 t40).bind fun t41 =>
 (Z05 (ptrTo (256 * c + 0)) 1).bind fun t42 =>
 (ld1 r6.2.1 t42).bind fun t43 =>
 (ixV 4 false 1 t41 t43).bind fun t44 =>
 (Z00 P .add 3 t37 t44).bind fun t45 =>
 (ixS 1 (.slice (some ⟨(256 * (c + 1) + 4),0,none⟩) r3.2.1 r3.2.2) t45).bind fun t46 =>
 (ld1 r6.2.1 t46).bind fun t47 =>
 (Z00 P .add 3 t47 (.int .i64 1)).bind fun t48 =>
 (ixS 1 (.slice (some ⟨(256 * (c + 1) + 4),0,none⟩) r3.2.1 r3.2.2) t45).bind fun t49 =>
 (stN r6.2.1 1 t49 t48).bind fun h8 =>
 (bif (Z0Y (Z2f t34) h5 r6.2.1 && (Z0Y (Z2f t39) h5 r6.2.1 && (Z0Y (Z2f t42) h5 r6.2.1 && true))) then
 (Z05 (ptrTo (256 * c + 0)) 3).bind fun t51 =>
 (ld1 h8 t51).bind fun t52 =>
 (Z00 P .mul 3 (.int .i64 7) t52).bind fun t53 =>
 (Z05 (ptrTo (256 * c + 0)) 5).bind fun t54 =>
 (ld1 h8 t54).bind fun t55 =>
 (Z00 P .add 3 t53 t55).bind fun t56 =>
 (ixS 1 (.slice (some ⟨(256 * (c + 1) + 4),0,none⟩) r3.2.1 r3.2.2) t56).bind fun t57 =>
 (ld1 h8 t57).bind fun t58 =>
 (Z00 P .sub 3 t58 (.int .i64 1)).bind fun t59 =>
 (ixS 1 (.slice (some ⟨(256 * (c + 1) + 4),0,none⟩) r3.2.1 r3.2.2) t56).bind fun t60 =>
 (stN h8 1 t60 t59).bind fun h10 =>
 (Z05 (ptrTo (256 * c + 0)) 3).bind fun t62 =>
 (ld1 h10 t62).bind fun t63 =>
 (Z00 P .mul 3 (.int .i64 7) t63).bind fun t64 =>
 (Z00 P .add 3 t64 (.int .i64 4)).bind fun t65 =>
 (callF o 60 [] h10 (r6.2.2 + 1 + 1)).bind fun r11 =>
 (Z05 (ptrTo (256 * c + 0)) 5).bind fun t67 =>
 (ld1 r11.2.1 t67).bind fun t68 =>
 (ixV 4 true 4 r11.1 t68).bind fun t69 =>
 (Z05 (ptrTo (256 * c + 0)) 4).bind fun t70 =>
 (ld1 r11.2.1 t70).bind fun t71 =>
 (ixV 4 false 1 t69 t71).bind fun t72 =>
 (Z00 P .add 3 t65 t72).bind fun t73 =>
 (ixS 1 (.slice (some ⟨(256 * (c + 1) + 4),0,none⟩) r3.2.1 r3.2.2) t73).bind fun t74 =>
 (ld1 r11.2.1 t74).bind fun t75 =>
 (Z00 P .sub 3 t75 (.int .i64 1)).bind fun t76 =>
 (ixS 1 (.slice (some ⟨(256 * (c + 1) + 4),0,none⟩) r3.2.1 r3.2.2) t73).bind fun t77 =>
 (stN r11.2.1 1 t77 t76).bind fun h13 =>
 (bif (Z0Y (Z2f t62) h10 r11.2.1 && (Z0Y (Z2f t67) h10 r11.2.1 && (Z0Y (Z2f t70) h10 r11.2.1 && true))) then
 (ld1 h13 t5).bind fun t78 =>
 (Z48 [(.slice none 0 0)] [(0,1,(.slice (some ⟨(256 * (c + 1) + 4),0,none⟩) r3.2.1 r3.2.2))]).bind fun r14 =>
 (Zde (newB h13 (256 * r11.2.2 + 2) r14) (256 * r11.2.2 + 3) 1 24 t78 (.slice (some ⟨(256 * r11.2.2 + 2),0,none⟩) 1 1)).bind fun r15 =>
 (stN r15.2 1 t5 r15.1).bind fun h17 =>
 (Z0A h17 l .ready none).bind fun h18 =>
 cond (List.isEmpty ([]:List Nat)) (some ⟨.ret,[.bool true],h18,(r11.2.2 + 1),[]⟩) none
 else none)
 else none)
theorem Zd3 (o:Orc H) (l:Nat) (t16 t1 t5:Value) (h:H) (c:Nat):jx P o 83 (some l) Z2t (Z0f ([16] ++ [1,5]) [t16,t1,t5]) h c [] (ZlU P o 83 l Z2s) = Z6q o l t16 t1 t5 h c:=by kernel_rfl
noncomputable def ZqX (o:Orc H) (t0:Value) (h:H) (c:Nat):Option (Rt H) :=
 (bif (t0:Value).cells.toList.all Z0e then
 (ldN (newB h (256 * c + 0) (t0:Value).cells.toList) 1 (ptrTo (256 * c + 0))).bind fun t8 =>
 (callF o 43 [t8] (newB h (256 * c + 0) (t0:Value).cells.toList) (c + 1 + 1)).bind fun r0 =>
 (Z00 P .neq 27 r0.1 (.int .i64 0)).bind fun t11 =>
 Z08 t11
 (some ⟨.ret,[.tuple #[(.slice none 0 0),r0.1]],r0.2.1,(r0.2.2 + 1 + 1),[]⟩)
 ((Z48 [] []).bind fun r1 =>
 (stN (newB (newB r0.2.1 (256 * (r0.2.2 + 1) + 0) r1) (256 * (r0.2.2 + 1) + 1) [(.slice none 0 0)]) 1 (ptrTo (256 * (r0.2.2 + 1) + 1)) (.slice (some ⟨(256 * (r0.2.2 + 1) + 0),0,none⟩) 0 0)).bind fun h3 =>
 (ldN h3 1 (ptrTo (256 * c + 0))).bind fun t14 =>
 (callF o 59 [t14] h3 (r0.2.2 + 1 + 1 + 1)).bind fun r4 =>
 (Z4n o 83 none [1,5] [] #[16] Z2t Z2s r4.1 [(ptrTo (256 * c + 0)),(ptrTo (256 * (r0.2.2 + 1) + 1))] r4.2.1 r4.2.2 []).bind fun q5 =>
 cond (Z0o q5.1 .normal)
  ((ld1 q5.2.1 (ptrTo (256 * (r0.2.2 + 1) + 1))).bind fun t82 =>
  (Z09 q5.2.1 q5.2.2.2).bind fun h6 =>
  some ⟨.ret,[.tuple #[t82,(.int .i64 0)]],h6,(q5.2.2.1 + 1),[]⟩)
  (none))
 else none)
theorem Zou (o:Orc H) (t0:Value) (h:H) (c:Nat):jx P o 83 none f27_c (Z0f (List.range 1) [t0]) h c [] (Kfn P Try.f27.results.toList) = ZqX o t0 h c:=by kernel_rfl
theorem f27_go {t0:Value} {h:FH} {c:Nat} {df:List Nat} {r:Rt FH} (e:ZqX G t0 h c = some r):G (.fn 27) [t0] h c df = some r:=Z0d (a:=Zot) bk_27 rfl (fun args h c=>by cases args <;> rfl) rfl ((Zou G t0 h c).trans e)
theorem ZiJ {t16 t1 t5:Value} {l:Nat} {h:FH} {c:Nat} {df:List Nat} {r:Rt FH} (e:Z6q G l t16 t1 t5 h c = some r):G (.rnd 83 [1,5] [] [16] l Z2t Z2s) [t16,t1,t5] h c df = some r:=Z9C ((Zd3 G l t16 t1 t5 h c).trans e)
noncomputable def ZqW (o:Orc H) (t0 t1:Value) (h:H) (c:Nat):Option (Rt H) :=
 (bif (t0:Value).cells.toList.all Z0e then
 (ldN (newB h (256 * c + 0) (t0:Value).cells.toList) 1 (ptrTo (256 * c + 0))).bind fun t6 =>
 (callF o 58 [t6] (newB h (256 * c + 0) (t0:Value).cells.toList) (c + 1 + 1)).bind fun r0 =>
 (Z00 P .neq 27 r0.1 (.int .i64 0)).bind fun t9 =>
 Z08 t9
 (some ⟨.ret,[r0.1],r0.2.1,(r0.2.2 + 1 + 1),[]⟩)
 ((ldN r0.2.1 1 (ptrTo (256 * c + 0))).bind fun t11 =>
 (callF o 61 [t11,t1] r0.2.1 (r0.2.2 + 1 + 1)).bind fun r1 =>
 (Z1A .not r1.1).bind fun t14 =>
 Z08 t14
  (some ⟨.ret,[(.int .i64 130)],r1.2.1,(r1.2.2 + 1),[]⟩)
  (some ⟨.ret,[(.int .i64 0)],r1.2.1,(r1.2.2 + 1),[]⟩))
 else none)
theorem Zos (o:Orc H) (t0 t1:Value) (h:H) (c:Nat):jx P o 15 none f28_c (Z0f (List.range 2) [t0,t1]) h c [] (Kfn P Try.f28.results.toList) = ZqW o t0 t1 h c:=by kernel_rfl
theorem f28_go {t0 t1:Value} {h:FH} {c:Nat} {df:List Nat} {r:Rt FH} (e:ZqW G t0 t1 h c = some r):G (.fn 28) [t0,t1] h c df = some (gcR h c [] r):=Z0d (a:=Zor) bk_28 rfl (fun args h c=>by cases args <;> rfl) rfl ((Zos G t0 t1 h c).trans e)
noncomputable def Z92 (o:Orc H) (rd:Option Nat) (t0 t1 t4 t5:Value) (h:H) (c:Nat) (df:List Nat):Option (Rt H) :=
 (Z11 t0).bind fun t13 =>
 (Z00 P .lss 3 t5 t13).bind fun t14 =>
 Z08 t14
 ((ixS 1 t0 t5).bind fun t19 =>
 (ld1 h t19).bind fun t20 =>
 (ixS 1 t1 t5).bind fun t23 =>
 (ld1 h t23).bind fun t24 =>
 (callF o 21 [t20,t24] h (c + 1 + 1)).bind fun r0 =>
 (Z1A .not r0.1).bind fun t26 =>
 Z08 t26
  (some ⟨.ret,[t0,t1,(.bool false),t5],r0.2.1,(r0.2.2 + 1),df⟩)
  ((Z00 P .add 3 t5 (.int .i64 1)).bind fun t16 =>
  some ⟨.normal,[t0,t1,t4,t16],r0.2.1,(r0.2.2 + 1),df⟩))
 (some ⟨(.exit 0),[t0,t1,t4,t5],h,(c + 1),df⟩)
theorem Z7D (o:Orc H) (rd:Option Nat) (t0 t1 t4 t5:Value) (h:H) (c:Nat) (df:List Nat):jx P o 27 rd Z91 (Z0f [0,1,4,5] [t0,t1,t4,t5]) h c df (Klp [0,1,4,5]) = Z92 o rd t0 t1 t4 t5 h c df:=by kernel_rfl
noncomputable def ZqV (o:Orc H) (t0 t1:Value) (h:H) (c:Nat):Option (Rt H) :=
 (Z11 t0).bind fun t7 =>
 (Z11 t1).bind fun t9 =>
 (Z00 P .neq 3 t7 t9).bind fun t10 =>
 Z08 t10
 (some ⟨.ret,[(.bool false)],h,(c + 1 + 1 + 1),[]⟩)
 ((o (ZbU none) [t0,t1,(.bool false),(.int .i64 0)] h (c + 1 + 1 + 1) []).bind fun r0 =>
 cond (Z0o r0.e (.exit 0))
  ((Z09 r0.h r0.df).bind fun h2 =>
  some ⟨.ret,[(.bool true)],h2,(r0.c + 1),[]⟩)
  (cond (Z0o r0.e .ret)
   ((Z09 r0.h r0.df).bind fun h1 =>
   some ⟨.ret,[r0.v 2],h1,r0.c,[]⟩)
   (none)))
theorem Zoq (o:Orc H) (t0 t1:Value) (h:H) (c:Nat):jx P o 27 none f29_c (Z0f (List.range 2) [t0,t1]) h c [] (Kfn P Try.f29.results.toList) = ZqV o t0 t1 h c:=by kernel_rfl
theorem f29_go {t0 t1:Value} {h:FH} {c:Nat} {df:List Nat} {r:Rt FH} (e:ZqV G t0 t1 h c = some r):G (.fn 29) [t0,t1] h c df = some r:=Z0d (a:=Zop) bk_29 rfl (fun args h c=>by cases args <;> rfl) rfl ((Zoq G t0 t1 h c).trans e)
end Go.Proofs.Ytcnndelmnobigaa
