/- Parts of a proof: S0 S1 S2. Conditions: none. -/
import Derived.Test.YtcnndelmnobigaaM9
set_option linter.all false
set_option maxRecDepth 100000
namespace Go.Proofs.Ytcnndelmnobigaa
open Go Go.Ab Go.Proofs
variable {H:Type} [HeapC H]
noncomputable def f9_S (o:Orc H) (t0 t1 t2 t3:Value) (h:H) (c:Nat):Option (Rt H) :=
 (bif (t0:Value).cells.toList.all Z0c then
 (callF o 11 [] (newB h (256*c+0) (t0:Value).cells.toList) (c+1+1)).bind fun r0 =>
 (Z1i .not r0.1).bind fun t16 =>
 Z07 t16
 (some ⟨.ret,[(.bool false)],r0.2.1,(r0.2.2+1),[]⟩)
 ((ldN r0.2.1 1 (ptrTo (256*c+0))).bind fun t17 =>
 (callF o 12 [t17] r0.2.1 (r0.2.2+1)).bind fun r1 =>
 (Z1i .not r1.1).bind fun t19 =>
 (gd t19 false r1.2.1 r1.2.2 (some t1)).bind fun r2 =>
 (gd t19 false r2.2.1 r2.2.2 (some t2)).bind fun r3 =>
 (gd t19 false r3.2.1 r3.2.2 (some t3)).bind fun r4 =>
 (gg t19 false r4.2.1 r4.2.2 ((Z2T [(.slice none 0 0),(.slice none 0 0),(.slice none 0 0)] [(0,1,r2.1),(1,1,r3.1),(2,1,r4.1)]).bind fun cs=>some (.slice (some ⟨(256*r0.2.2+7),0,none⟩) 3 3,newB r4.2.1 (256*r0.2.2+7) cs,r4.2.2))).bind fun r5 =>
 (gg t19 false r5.2.1 r5.2.2 (callF o 18 [r5.1] r5.2.1 r5.2.2)).bind fun r6 =>
 (gd t19 false r6.2.1 r6.2.2 (Z1i .not r6.1)).bind fun r7 =>
 (Z0D t19 (.bool true) r7.1).bind fun t27 =>
 Z07 t27
  (some ⟨.ret,[(.bool true)],r7.2.1,(r7.2.2+1),[]⟩)
  ((ldN r7.2.1 1 (ptrTo (256*c+0))).bind fun t29 =>
  (callF o 35 [t29,t1,t2] r7.2.1 (r7.2.2+1)).bind fun r8 =>
  (Z23 r8.1 0).bind fun t33 =>
  (Z23 r8.1 1).bind fun t34 =>
  (ldN r8.2.1 1 (ptrTo (256*c+0))).bind fun t36 =>
  (callF o 34 [t36,t1,t2] r8.2.1 (r8.2.2+1)).bind fun r9 =>
  (Z23 r9.1 0).bind fun t40 =>
  (Z23 r9.1 1).bind fun t41 =>
  (Z00 P .neq 27 t41 t34).bind fun t44 =>
  (gd t44 false r9.2.1 (r9.2.2+1) (some t40)).bind fun r10 =>
  (gd t44 false r10.2.1 r10.2.2 (some t33)).bind fun r11 =>
  (gg t44 false r11.2.1 r11.2.2 (callF o 21 [r10.1,r11.1] r11.2.1 r11.2.2)).bind fun r12 =>
  (gd t44 false r12.2.1 r12.2.2 (Z1i .not r12.1)).bind fun r13 =>
  (Z0D t44 (.bool true) r13.1).bind fun t50 =>
  Z07 t50
   (some ⟨.ret,[(.bool false)],r13.2.1,(r13.2.2+1),[]⟩)
   ((ldN r13.2.1 1 (ptrTo (256*c+0))).bind fun t52 =>
   (callF o 36 [t52,t2] r13.2.1 (r13.2.2+1)).bind fun r14 =>
   (Z23 r14.1 0).bind fun t55 =>
   (Z23 r14.1 1).bind fun t56 =>
   (ldN r14.2.1 1 (ptrTo (256*c+0))).bind fun t58 =>
   (callF o 24 [t58,t2] r14.2.1 (r14.2.2+1)).bind fun r15 =>
   (Z23 r15.1 0).bind fun t61 =>
   (Z23 r15.1 1).bind fun t62 =>
   (Z00 P .neq 27 t62 t56).bind fun t65 =>
   (gd t65 false r15.2.1 (r15.2.2+1) (some t61)).bind fun r16 =>
   (gd t65 false r16.2.1 r16.2.2 (some t55)).bind fun r17 =>
   (gg t65 false r17.2.1 r17.2.2 (callF o 21 [r16.1,r17.1] r17.2.1 r17.2.2)).bind fun r18 =>
   (gd t65 false r18.2.1 r18.2.2 (Z1i .not r18.1)).bind fun r19 =>
   (Z0D t65 (.bool true) r19.1).bind fun t71 =>
   Z07 t71
    (some ⟨.ret,[(.bool false)],r19.2.1,(r19.2.2+1),[]⟩)
    ((ldN r19.2.1 1 (ptrTo (256*c+0))).bind fun t73 =>
    (callF o 37 [t73,t3] r19.2.1 (r19.2.2+1)).bind fun r20 =>
    (Z23 r20.1 0).bind fun t76 =>
    (Z23 r20.1 1).bind fun t77 =>
    (ldN r20.2.1 1 (ptrTo (256*c+0))).bind fun t79 =>
    (callF o 25 [t79,t3] r20.2.1 (r20.2.2+1)).bind fun r21 =>
    (Z23 r21.1 0).bind fun t82 =>
    (Z23 r21.1 1).bind fun t83 =>
    (Z00 P .neq 27 t83 t77).bind fun t86 =>
    (gd t86 false r21.2.1 (r21.2.2+1) (some t82)).bind fun r22 =>
    (gd t86 false r22.2.1 r22.2.2 (some t76)).bind fun r23 =>
    (gg t86 false r23.2.1 r23.2.2 (callF o 21 [r22.1,r23.1] r23.2.1 r23.2.2)).bind fun r24 =>
    (gd t86 false r24.2.1 r24.2.2 (Z1i .not r24.1)).bind fun r25 =>
    (Z0D t86 (.bool true) r25.1).bind fun t92 =>
    Z07 t92
     (some ⟨.ret,[(.bool false)],r25.2.1,(r25.2.2+1),[]⟩)
     ((ldN r25.2.1 1 (ptrTo (256*c+0))).bind fun t94 =>
     (callF o 38 [t94,t2] r25.2.1 (r25.2.2+1)).bind fun r26 =>
     (Z23 r26.1 0).bind fun t97 =>
     (Z23 r26.1 1).bind fun t98 =>
     (Z23 r26.1 2).bind fun t99 =>
     (ldN r26.2.1 1 (ptrTo (256*c+0))).bind fun t101 =>
     (callF o 23 [t101,t2] r26.2.1 (r26.2.2+1)).bind fun r27 =>
     (Z23 r27.1 0).bind fun t104 =>
     (Z23 r27.1 1).bind fun t105 =>
     (Z23 r27.1 2).bind fun t106 =>
     (Z00 P .eql 27 t106 t99).bind fun t109 =>
     (gd t109 true r27.2.1 (r27.2.2+1) (some t104)).bind fun r28 =>
     (gd t109 true r28.2.1 r28.2.2 (some t97)).bind fun r29 =>
     (gg t109 true r29.2.1 r29.2.2 (callF o 21 [r28.1,r29.1] r29.2.1 r29.2.2)).bind fun r30 =>
     (Z0D t109 r30.1 (.bool false)).bind fun t114 =>
     (gd t114 true r30.2.1 r30.2.2 (some t105)).bind fun r31 =>
     (gd t114 true r31.2.1 r31.2.2 (some t98)).bind fun r32 =>
     (gg t114 true r32.2.1 r32.2.2 (callF o 21 [r31.1,r32.1] r32.2.1 r32.2.2)).bind fun r33 =>
     (Z0D t114 r33.1 (.bool false)).bind fun t119 =>
     some ⟨.ret,[t119],r33.2.1,r33.2.2,[]⟩)))))
 else none)
theorem ZqY (o:Orc H) (t0 t1 t2 t3:Value) (h:H) (c:Nat):jx P o 120 none f9_c (Z0f (List.range 4) [t0,t1,t2,t3]) h c [] (Kfn P Try.f9.results.toList)=f9_S o t0 t1 t2 t3 h c:=by kernel_rfl
theorem f9_go {t0 t1 t2 t3:Value} {h:FH} {c:Nat} {df:List Nat} {r:Rt FH} (e:f9_S G t0 t1 t2 t3 h c=some r):G (.fn 9) [t0,t1,t2,t3] h c df=some (gcR h c [] r):=Z0d (a:=f9_f) bk_9 rfl (fun args h c=>by cases args <;> rfl) rfl ((ZqY G t0 t1 t2 t3 h c).trans e)
noncomputable def ZrF (o:Orc H) (h:H) (c:Nat):Option (Rt H) :=
 (callF o 40 [(.string (ByteArray.mk #[49,32,48,32,49,48,50,51,32,48,32,49,48,50,51,32,48,32,48,49,51,50,32,48,32,48,49,51,50]))] h (c+1+1)).bind fun r0 =>
 (Z23 r0.1 0).bind fun t20 =>
 (Z23 r0.1 1).bind fun t21 =>
 (stN (newB r0.2.1 (256*(c+1)+4) [(.slice none 0 0)]) 1 (ptrTo (256*(c+1)+4)) t20).bind fun h2 =>
 (Z2T [(.int .i64 0),(.int .i64 0),(.int .i64 0),(.int .i64 0),(.int .i64 0),(.int .i64 0),(.int .i64 0)] [(0,1,(.int .i64 0)),(1,1,(.int .i64 0)),(2,1,(.int .i64 0)),(3,1,(.int .i64 0)),(4,1,(.int .i64 1)),(5,1,(.int .i64 0)),(6,1,(.int .i64 0))]).bind fun r3 =>
 (ldN (newB h2 (256*r0.2.2+0) r3) 1 (ptrTo (256*(c+1)+4))).bind fun t24 =>
 (callF o 14 [t24] (newB h2 (256*r0.2.2+0) r3) (r0.2.2+1+1)).bind fun r4 =>
 (Z23 r4.1 0).bind fun t26 =>
 (Z23 r4.1 1).bind fun t27 =>
 (Z00 P .neq 27 t27 (.int .i64 0)).bind fun t29 =>
 (gd t29 false r4.2.1 (r4.2.2+1) (some t26)).bind fun r5 =>
 (gg t29 false r5.2.1 r5.2.2 (((Z0X r5.1).bind fun v=>some (v,r5.2.1)).bind fun r=>some (r.1,r.2,r5.2.2))).bind fun r6 =>
 (gd t29 false r6.2.1 r6.2.2 (Z00 P .neq 3 r6.1 (.int .i64 2))).bind fun r7 =>
 (Z0D t29 (.bool true) r7.1).bind fun t34 =>
 (gd t34 false r7.2.1 r7.2.2 (some t26)).bind fun r8 =>
 (gd t34 false r8.2.1 r8.2.2 (ixS 1 r8.1 (.int .i64 0))).bind fun r9 =>
 (gd t34 false r9.2.1 r9.2.2 (ld1 r9.2.1 r9.1)).bind fun r10 =>
 (gg t34 false r10.2.1 r10.2.2 ((Z2T [(.int .i64 0),(.int .i64 0),(.int .i64 0),(.int .i64 0),(.int .i64 0),(.int .i64 0),(.int .i64 0)] [(0,1,(.int .i64 1)),(1,1,(.int .i64 1)),(2,1,(.int .i64 0)),(3,1,(.int .i64 0)),(4,1,(.int .i64 0)),(5,1,(.int .i64 0)),(6,1,(.int .i64 0))]).bind fun cs=>some (.slice (some ⟨(256*r4.2.2+11),0,none⟩) 7 7,newB r10.2.1 (256*r4.2.2+11) cs,r10.2.2))).bind fun r11 =>
 (gg t34 false r11.2.1 r11.2.2 (callF o 21 [r10.1,r11.1] r11.2.1 r11.2.2)).bind fun r12 =>
 (gd t34 false r12.2.1 r12.2.2 (Z1i .not r12.1)).bind fun r13 =>
 (Z0D t34 (.bool true) r13.1).bind fun t42 =>
 (gd t42 false r13.2.1 r13.2.2 (some t26)).bind fun r14 =>
 (gd t42 false r14.2.1 r14.2.2 (ixS 1 r14.1 (.int .i64 1))).bind fun r15 =>
 (gd t42 false r15.2.1 r15.2.2 (ld1 r15.2.1 r15.1)).bind fun r16 =>
 (gg t42 false r16.2.1 r16.2.2 ((Z2T [(.int .i64 0),(.int .i64 0),(.int .i64 0),(.int .i64 0),(.int .i64 0),(.int .i64 0),(.int .i64 0)] [(0,1,(.int .i64 0)),(1,1,(.int .i64 0)),(2,1,(.int .i64 1)),(3,1,(.int .i64 1)),(4,1,(.int .i64 0)),(5,1,(.int .i64 0)),(6,1,(.int .i64 0))]).bind fun cs=>some (.slice (some ⟨(256*r4.2.2+19),0,none⟩) 7 7,newB r16.2.1 (256*r4.2.2+19) cs,r16.2.2))).bind fun r17 =>
 (gg t42 false r17.2.1 r17.2.2 (callF o 21 [r16.1,r17.1] r17.2.1 r17.2.2)).bind fun r18 =>
 (gd t42 false r18.2.1 r18.2.2 (Z1i .not r18.1)).bind fun r19 =>
 (Z0D t42 (.bool true) r19.1).bind fun t50 =>
 Z07 t50
 (some ⟨.ret,[(.bool false)],r19.2.1,(r19.2.2+1),[]⟩)
 ((ldN r19.2.1 1 (ptrTo (256*(c+1)+4))).bind fun t52 =>
 (ixS 1 t26 (.int .i64 0)).bind fun t54 =>
 (ld1 r19.2.1 t54).bind fun t55 =>
 (callF o 15 [t52,t55] r19.2.1 (r19.2.2+1)).bind fun r20 =>
 (Z23 r20.1 0).bind fun t57 =>
 (Z23 r20.1 1).bind fun t58 =>
 (ldN r20.2.1 1 (ptrTo (256*(c+1)+4))).bind fun t60 =>
 (ixS 1 t26 (.int .i64 1)).bind fun t62 =>
 (ld1 r20.2.1 t62).bind fun t63 =>
 (callF o 15 [t60,t63] r20.2.1 (r20.2.2+1)).bind fun r21 =>
 (Z23 r21.1 0).bind fun t65 =>
 (Z23 r21.1 1).bind fun t66 =>
 (ldN r21.2.1 1 (ptrTo (256*(c+1)+4))).bind fun t68 =>
 (ixS 1 t26 (.int .i64 0)).bind fun t70 =>
 (ld1 r21.2.1 t70).bind fun t71 =>
 (callF o 16 [t68,t71] r21.2.1 (r21.2.2+1)).bind fun r22 =>
 (Z23 r22.1 0).bind fun t73 =>
 (Z23 r22.1 1).bind fun t74 =>
 (ldN r22.2.1 1 (ptrTo (256*(c+1)+4))).bind fun t76 =>
 (callF o 16 [t76,(.slice (some ⟨(256*r0.2.2+0),0,none⟩) 7 7)] r22.2.1 (r22.2.2+1)).bind fun r23 =>
 (Z23 r23.1 0).bind fun t79 =>
 (Z23 r23.1 1).bind fun t80 =>
 (ldN r23.2.1 1 (ptrTo (256*(c+1)+4))).bind fun t82 =>
 (callF o 15 [t82,(.slice (some ⟨(256*r0.2.2+0),0,none⟩) 7 7)] r23.2.1 (r23.2.2+1)).bind fun r24 =>
 (Z23 r24.1 0).bind fun t85 =>
 (Z23 r24.1 1).bind fun t86 =>
 (Z00 P .neq 27 t58 (.int .i64 0)).bind fun t88 =>
 (gd t88 false r24.2.1 (r24.2.2+1) (some t66)).bind fun r25 =>
 (gd t88 false r25.2.1 r25.2.2 (Z00 P .neq 27 r25.1 (.int .i64 0))).bind fun r26 =>
 (Z0D t88 (.bool true) r26.1).bind fun t92 =>
 (gd t92 false r26.2.1 r26.2.2 (some t74)).bind fun r27 =>
 (gd t92 false r27.2.1 r27.2.2 (Z00 P .neq 27 r27.1 (.int .i64 0))).bind fun r28 =>
 (Z0D t92 (.bool true) r28.1).bind fun t96 =>
 (gd t96 false r28.2.1 r28.2.2 (some t80)).bind fun r29 =>
 (gd t96 false r29.2.1 r29.2.2 (Z00 P .neq 27 r29.1 (.int .i64 0))).bind fun r30 =>
 (Z0D t96 (.bool true) r30.1).bind fun t100 =>
 (gd t100 false r30.2.1 r30.2.2 (some t86)).bind fun r31 =>
 (gd t100 false r31.2.1 r31.2.2 (Z00 P .neq 27 r31.1 (.int .i64 0))).bind fun r32 =>
 (Z0D t100 (.bool true) r32.1).bind fun t104 =>
 (gd t104 false r32.2.1 r32.2.2 (some t57)).bind fun r33 =>
 (gd t104 false r33.2.1 r33.2.2 (Z00 P .neq 3 r33.1 (.int .i64 2))).bind fun r34 =>
 (Z0D t104 (.bool true) r34.1).bind fun t108 =>
 (gd t108 false r34.2.1 r34.2.2 (some t65)).bind fun r35 =>
 (gd t108 false r35.2.1 r35.2.2 (Z00 P .neq 3 r35.1 (.int .i64 2))).bind fun r36 =>
 (Z0D t108 (.bool true) r36.1).bind fun t112 =>
 (gd t112 false r36.2.1 r36.2.2 (some t85)).bind fun r37 =>
 (gd t112 false r37.2.1 r37.2.2 (Z00 P .neq 3 r37.1 (.int .i64 0))).bind fun r38 =>
 (Z0D t112 (.bool true) r38.1).bind fun t116 =>
 (gd t116 false r38.2.1 r38.2.2 (some t73)).bind fun r39 =>
 (gg t116 false r39.2.1 r39.2.2 ((Z2T [(.int .i64 0),(.int .i64 0),(.int .i64 0)] [(0,1,(.int .i64 2)),(1,1,(.int .i64 1)),(2,1,(.int .i64 0))]).bind fun cs=>some (.slice (some ⟨(256*r24.2.2+32),0,none⟩) 3 3,newB r39.2.1 (256*r24.2.2+32) cs,r39.2.2))).bind fun r40 =>
 (gg t116 false r40.2.1 r40.2.2 (callF o 21 [r39.1,r40.1] r40.2.1 r40.2.2)).bind fun r41 =>
 (gd t116 false r41.2.1 r41.2.2 (Z1i .not r41.1)).bind fun r42 =>
 (Z0D t116 (.bool true) r42.1).bind fun t122 =>
 (gd t122 false r42.2.1 r42.2.2 (some t79)).bind fun r43 =>
 (gg t122 false r43.2.1 r43.2.2 ((Z2T [(.int .i64 0),(.int .i64 0),(.int .i64 0)] [(0,1,(.int .i64 0)),(1,1,(.int .i64 1)),(2,1,(.int .i64 0))]).bind fun cs=>some (.slice (some ⟨(256*r24.2.2+38),0,none⟩) 3 3,newB r43.2.1 (256*r24.2.2+38) cs,r43.2.2))).bind fun r44 =>
 (gg t122 false r44.2.1 r44.2.2 (callF o 21 [r43.1,r44.1] r44.2.1 r44.2.2)).bind fun r45 =>
 (gd t122 false r45.2.1 r45.2.2 (Z1i .not r45.1)).bind fun r46 =>
 (Z0D t122 (.bool true) r46.1).bind fun t128 =>
 Z07 t128
  (some ⟨.ret,[(.bool false)],r46.2.1,(r46.2.2+1),[]⟩)
  ((ldN r46.2.1 1 (ptrTo (256*(c+1)+4))).bind fun t130 =>
  (Z2T [(.int .i64 0),(.int .i64 0),(.int .i64 0)] [(0,1,(.int .i64 1)),(1,1,(.int .i64 0)),(2,1,(.int .i64 0))]).bind fun r47 =>
  (callF o 25 [t130,(.slice (some ⟨(256*r46.2.2+1),0,none⟩) 3 3)] (newB r46.2.1 (256*r46.2.2+1) r47) (r46.2.2+1)).bind fun r48 =>
  (Z23 r48.1 0).bind fun t133 =>
  (Z23 r48.1 1).bind fun t134 =>
  (ldN r48.2.1 1 (ptrTo (256*(c+1)+4))).bind fun t136 =>
  (Z2T [(.int .i64 0),(.int .i64 0),(.int .i64 0),(.int .i64 0),(.int .i64 0),(.int .i64 0),(.int .i64 0)] [(0,1,(.int .i64 3)),(1,1,(.int .i64 3)),(2,1,(.int .i64 1)),(3,1,(.int .i64 1)),(4,1,(.int .i64 2)),(5,1,(.int .i64 0)),(6,1,(.int .i64 0))]).bind fun r49 =>
  (callF o 23 [t136,(.slice (some ⟨(256*r48.2.2+1),0,none⟩) 7 7)] (newB r48.2.1 (256*r48.2.2+1) r49) (r48.2.2+1)).bind fun r50 =>
  (Z23 r50.1 0).bind fun t139 =>
  (Z23 r50.1 1).bind fun t140 =>
  (Z23 r50.1 2).bind fun t141 =>
  (Z00 P .eql 27 t134 (.int .i64 0)).bind fun t143 =>
  (gd t143 true r50.2.1 (r50.2.2+1) (some t141)).bind fun r51 =>
  (gd t143 true r51.2.1 r51.2.2 (Z00 P .eql 27 r51.1 (.int .i64 0))).bind fun r52 =>
  (Z0D t143 r52.1 (.bool false)).bind fun t147 =>
  (gd t147 true r52.2.1 r52.2.2 (some t133)).bind fun r53 =>
  (gd t147 true r53.2.1 r53.2.2 (some (.slice (some ⟨(256*r0.2.2+0),0,none⟩) 7 7))).bind fun r54 =>
  (gg t147 true r54.2.1 r54.2.2 (callF o 21 [r53.1,r54.1] r54.2.1 r54.2.2)).bind fun r55 =>
  (Z0D t147 r55.1 (.bool false)).bind fun t152 =>
  (gd t152 true r55.2.1 r55.2.2 (some t139)).bind fun r56 =>
  (gg t152 true r56.2.1 r56.2.2 ((Z2T [(.int .i64 0),(.int .i64 0)] [(0,1,(.int .i64 3)),(1,1,(.int .i64 1))]).bind fun cs=>some (.slice (some ⟨(256*r50.2.2+13),0,none⟩) 2 2,newB r56.2.1 (256*r50.2.2+13) cs,r56.2.2))).bind fun r57 =>
  (gg t152 true r57.2.1 r57.2.2 (callF o 21 [r56.1,r57.1] r57.2.1 r57.2.2)).bind fun r58 =>
  (Z0D t152 r58.1 (.bool false)).bind fun t157 =>
  (gd t157 true r58.2.1 r58.2.2 (some t140)).bind fun r59 =>
  (gg t157 true r59.2.1 r59.2.2 ((Z2T [(.int .i64 0),(.int .i64 0),(.int .i64 0),(.int .i64 0),(.int .i64 0),(.int .i64 0),(.int .i64 0)] [(0,1,(.int .i64 0)),(1,1,(.int .i64 0)),(2,1,(.int .i64 0)),(3,1,(.int .i64 0)),(4,1,(.int .i64 2)),(5,1,(.int .i64 0)),(6,1,(.int .i64 0))]).bind fun cs=>some (.slice (some ⟨(256*r50.2.2+18),0,none⟩) 7 7,newB r59.2.1 (256*r50.2.2+18) cs,r59.2.2))).bind fun r60 =>
  (gg t157 true r60.2.1 r60.2.2 (callF o 21 [r59.1,r60.1] r60.2.1 r60.2.2)).bind fun r61 =>
  (Z0D t157 r61.1 (.bool false)).bind fun t162 =>
  (gd t162 true r61.2.1 r61.2.2 (ldN r61.2.1 1 (ptrTo (256*(c+1)+4)))).bind fun r62 =>
  (gd t162 true r62.2.1 r62.2.2 (some (.slice (some ⟨(256*r0.2.2+0),0,none⟩) 7 7))).bind fun r63 =>
  (gg t162 true r63.2.1 r63.2.2 (callF o 17 [r62.1,r63.1] r63.2.1 r63.2.2)).bind fun r64 =>
  (gd t162 true r64.2.1 r64.2.2 (Z00 P .eql 27 r64.1 (.int .i64 0))).bind fun r65 =>
  (Z0D t162 r65.1 (.bool false)).bind fun t168 =>
  (gd t168 true r65.2.1 r65.2.2 (ldN r65.2.1 1 (ptrTo (256*(c+1)+4)))).bind fun r66 =>
  (gg t168 true r66.2.1 r66.2.2 ((Z2T [(.int .i64 0),(.int .i64 0),(.int .i64 0),(.int .i64 0),(.int .i64 0),(.int .i64 0),(.int .i64 0)] [(0,1,(.int .i64 0)),(1,1,(.int .i64 0)),(2,1,(.int .i64 0)),(3,1,(.int .i64 0)),(4,1,(.int .i64 0)),(5,1,(.int .i64 1)),(6,1,(.int .i64 0))]).bind fun cs=>some (.slice (some ⟨(256*r50.2.2+29),0,none⟩) 7 7,newB r66.2.1 (256*r50.2.2+29) cs,r66.2.2))).bind fun r67 =>
  (gg t168 true r67.2.1 r67.2.2 (callF o 17 [r66.1,r67.1] r67.2.1 r67.2.2)).bind fun r68 =>
  (gd t168 true r68.2.1 r68.2.2 (Z00 P .eql 27 r68.1 (.int .i64 130))).bind fun r69 =>
  (Z0D t168 r69.1 (.bool false)).bind fun t174 =>
  some ⟨.ret,[t174],r69.2.1,r69.2.2,[]⟩))
theorem Zp8 (o:Orc H) (h:H) (c:Nat):jx P o 175 none f11_c (Z0f (List.range 0) []) h c [] (Kfn P Try.f11.results.toList)=ZrF o h c:=by kernel_rfl
noncomputable def ZrE (o:Orc H) (t0:Value) (h:H) (c:Nat):Option (Rt H) :=
 (bif (t0:Value).cells.toList.all Z0c then
 (Z06 (ptrTo (256*c+0)) 0).bind fun t3 =>
 (ld1 (newB h (256*c+0) (t0:Value).cells.toList) t3).bind fun t4 =>
 (Z0X t4).bind fun t5 =>
 (Z00 P .leq 3 t5 (.int .i64 6)).bind fun t6 =>
 some ⟨.ret,[t6],(newB h (256*c+0) (t0:Value).cells.toList),(c+1+1),[]⟩
 else none)
theorem Zp7 (o:Orc H) (t0:Value) (h:H) (c:Nat):jx P o 7 none f12_c (Z0f (List.range 1) [t0]) h c [] (Kfn P Try.f12.results.toList)=ZrE o t0 h c:=by kernel_rfl
theorem f12_go {t0:Value} {h:FH} {c:Nat} {df:List Nat} {r:Rt FH} (e:ZrE G t0 h c=some r):G (.fn 12) [t0] h c df=some (gcR h c [] r):=Z0d (a:=Zp6) bk_12 rfl (fun args h c=>by cases args <;> rfl) rfl ((Zp7 G t0 h c).trans e)

variable {H:Type} [HeapC H]
noncomputable def Z20 (o:Orc H) (rd:Option Nat) (t1 t2 t3 t4 t5:Value) (h:H) (c:Nat) (df:List Nat):Option (Rt H) :=
 (Z00 P .lss 3 t5 (.int .i64 4)).bind fun t18 =>
 Z07 t18
 (((Z06 t1 0).bind fun t21 =>
  (ld1 h t21).bind fun t22 =>
  (ixS 20 t22 t4).bind fun t25 =>
  (ixA 4 5 t25 t5).bind fun t26 =>
  (ldN h 5 t26).bind fun t27 =>
  (stN (newB h (256*(c+1)+7) [(.int .i64 0),(.int .i64 0),(.int .i64 0),(.int .i64 0),(.int .i64 0)]) 5 (ptrTo (256*(c+1)+7)) t27).bind fun h1 =>
  (Z06 (ptrTo (256*(c+1)+7)) 0).bind fun t28 =>
  (ld1 h1 t28).bind fun t29 =>
  (Z00 P .eql 3 t29 (.int .i64 (-1))).bind fun t30 =>
  (gd t30 true h1 (c+1+1+1) (Z06 (ptrTo (256*(c+1)+7)) 1)).bind fun r2 =>
  (gd t30 true r2.2.1 r2.2.2 (ldN r2.2.1 4 r2.1)).bind fun r3 =>
  (gd t30 true r3.2.1 r3.2.2 (Z4w [(.int .i64 0),(.int .i64 0),(.int .i64 0),(.int .i64 0)] [])).bind fun r4 =>
  (gd t30 true r4.2.1 r4.2.2 (Z00 P .eql 39 r3.1 r4.1)).bind fun r5 =>
  (Z0D t30 r5.1 (.bool false)).bind fun t36 =>
  Z07 t36
   (some ⟨.normal,[t1,t2,t3,t4,t5],r5.2.1,r5.2.2,df⟩)
   ((Z06 (ptrTo (256*(c+1)+7)) 0).bind fun t37 =>
   (ld1 r5.2.1 t37).bind fun t38 =>
   (Z00 P .lss 3 t38 (.int .i64 0)).bind fun t39 =>
   (gd t39 false r5.2.1 (r5.2.2+1) (Z06 (ptrTo (256*(c+1)+7)) 0)).bind fun r6 =>
   (gd t39 false r6.2.1 r6.2.2 (ld1 r6.2.1 r6.1)).bind fun r7 =>
   (gd t39 false r7.2.1 r7.2.2 (some t3)).bind fun r8 =>
   (gd t39 false r8.2.1 r8.2.2 (Z00 P .geq 3 r7.1 r8.1)).bind fun r9 =>
   (Z0D t39 (.bool true) r9.1).bind fun t45 =>
   (gd t45 false r9.2.1 r9.2.2 (Z06 (ptrTo (256*(c+1)+7)) 1)).bind fun r10 =>
   (gd t45 false r10.2.1 r10.2.2 (ldN r10.2.1 4 r10.1)).bind fun r11 =>
   (gg t45 false r11.2.1 r11.2.2 (callF o 41 [r11.1] r11.2.1 r11.2.2)).bind fun r12 =>
   (gd t45 false r12.2.1 r12.2.2 (Z1i .not r12.1)).bind fun r13 =>
   (Z0D t45 (.bool true) r13.1).bind fun t51 =>
   (gd t51 false r13.2.1 r13.2.2 (Z06 (ptrTo (256*(c+1)+7)) 0)).bind fun r14 =>
   (gd t51 false r14.2.1 r14.2.2 (ld1 r14.2.1 r14.1)).bind fun r15 =>
   (gd t51 false r15.2.1 r15.2.2 (some t4)).bind fun r16 =>
   (gd t51 false r16.2.1 r16.2.2 (Z00 P .eql 3 r15.1 r16.1)).bind fun r17 =>
   (gd t51 false r17.2.1 r17.2.2 (some r17.1)).bind fun r18 =>
   (gd r18.1 true r18.2.1 r18.2.2 (some t5)).bind fun r19 =>
   (gd r18.1 true r19.2.1 r19.2.2 (Z06 (ptrTo (256*(c+1)+7)) 1)).bind fun r20 =>
   (gd r18.1 true r20.2.1 r20.2.2 (ixA 4 1 r20.1 r19.1)).bind fun r21 =>
   (gd r18.1 true r21.2.1 r21.2.2 (ld1 r21.2.1 r21.1)).bind fun r22 =>
   (gd r18.1 true r22.2.1 r22.2.2 (some t5)).bind fun r23 =>
   (gd r18.1 true r23.2.1 r23.2.2 (Z00 P .eql 3 r22.1 r23.1)).bind fun r24 =>
   (gg t51 false r24.2.1 r24.2.2 (Zej r24.2.1 r24.2.2 r18.1 r24.1 (.bool false))).bind fun r25 =>
   (Z0D t51 (.bool true) r25.1).bind fun t65 =>
   Z07 t65
    (some ⟨.ret,[t1,(.int .i64 7),t3,t4,t5],r25.2.1,(r25.2.2+1),df⟩)
    ((Z06 t1 0).bind fun t66 =>
    (ld1 r25.2.1 t66).bind fun t67 =>
    (Z06 (ptrTo (256*(c+1)+7)) 0).bind fun t68 =>
    (ld1 r25.2.1 t68).bind fun t69 =>
    (Z06 (ptrTo (256*(c+1)+7)) 1).bind fun t71 =>
    (ixA 4 1 t71 t5).bind fun t72 =>
    (ld1 r25.2.1 t72).bind fun t73 =>
    (ixS 20 t67 t69).bind fun t74 =>
    (ixA 4 5 t74 t73).bind fun t75 =>
    (ldN r25.2.1 5 t75).bind fun t76 =>
    (Z06 (ptrTo (256*(c+1)+7)) 1).bind fun t78 =>
    (ldN r25.2.1 4 t78).bind fun t79 =>
    (callF o 42 [t79] r25.2.1 (r25.2.2+1)).bind fun r27 =>
    (Z4w [(.int .i64 0),(.int .i64 0),(.int .i64 0),(.int .i64 0),(.int .i64 0)] [(0,1,t4),(1,4,r27.1)]).bind fun t81 =>
    (Z00 P .neq 41 t76 t81).bind fun t82 =>
    (bif (Z18 (Z2G t66) r25.2.1 r27.2.1 && (Z18 (Z2G t68) r25.2.1 r27.2.1 && (Z18 (Z2G t72) r25.2.1 r27.2.1 && (Z18 (Z2G t75) r25.2.1 r27.2.1 && true)))) then
    Z07 t82
     (some ⟨.ret,[t1,(.int .i64 7),t3,t4,t5],r27.2.1,(r27.2.2+1),df⟩)
     (some ⟨.normal,[t1,t2,t3,t4,t5],r27.2.1,r27.2.2,df⟩)
    else none))):Option (Rt H)).bind fun r29 =>
 cond (Z0q r29.e .normal)
  ((Z00 P .add 3 (r29.v 4) (.int .i64 1)).bind fun t20 =>
  some ⟨.normal,[r29.v 0,r29.v 1,r29.v 2,r29.v 3,t20],r29.h,(r29.c+1),r29.df⟩)
  (cond (Z0q r29.e .ret)
   (some ⟨.ret,[r29.v 0,r29.v 1,r29.v 2,r29.v 3,r29.v 4],r29.h,r29.c,r29.df⟩)
   (none)))
 (some ⟨(.exit 2),[t1,t2,t3,t4,t5],h,(c+1),df⟩)
theorem Z5U (o:Orc H) (rd:Option Nat) (t1 t2 t3 t4 t5:Value) (h:H) (c:Nat) (df:List Nat):jx P o 83 rd Z41 (Z0f [1,2,3,4,5] [t1,t2,t3,t4,t5]) h c df (Klp [1,2,3,4,5])=Z20 o rd t1 t2 t3 t4 t5 h c df:=by kernel_rfl
noncomputable def Z1q (o:Orc H) (rd:Option Nat) (t1 t2 t3 t4:Value) (h:H) (c:Nat) (df:List Nat):Option (Rt H) :=
 (Z00 P .lss 3 t4 t3).bind fun t14 =>
 Z07 t14
 ((o (Z3Z rd) [t1,t2,t3,t4,(.int .i64 0)] h (c+1+1) df).bind fun r0 =>
 cond (Z0q r0.e (.exit 2))
  ((Z00 P .add 3 (r0.v 3) (.int .i64 1)).bind fun t16 =>
  some ⟨.normal,[r0.v 0,r0.v 1,r0.v 2,t16],r0.h,(r0.c+1),r0.df⟩)
  (cond (Z0q r0.e .ret)
   (some ⟨.ret,[r0.v 0,r0.v 1,r0.v 2,r0.v 3],r0.h,r0.c,r0.df⟩)
   (none)))
 (some ⟨(.exit 0),[t1,t2,t3,t4],h,(c+1),df⟩)
theorem Z5V (o:Orc H) (rd:Option Nat) (t1 t2 t3 t4:Value) (h:H) (c:Nat) (df:List Nat):jx P o 83 rd Z42 (Z0f [1,2,3,4] [t1,t2,t3,t4]) h c df (Klp [1,2,3,4])=Z1q o rd t1 t2 t3 t4 h c df:=by kernel_rfl
noncomputable def Zlp (o:Orc H) (t0:Value) (h:H) (c:Nat):Option (Rt H) :=
 (bif (t0:Value).cells.toList.all Z0c then
 (Z06 (ptrTo (256*c+0)) 0).bind fun t7 =>
 (ld1 (newB h (256*c+0) (t0:Value).cells.toList) t7).bind fun t8 =>
 (Z0X t8).bind fun t9 =>
 (Z00 P .gtr 3 t9 (.int .i64 1000)).bind fun t11 =>
 Z07 t11
 (some ⟨.ret,[(.int .i64 7)],(newB h (256*c+0) (t0:Value).cells.toList),(c+1+1+1+1),[]⟩)
 ((o (Z40 none) [(ptrTo (256*c+0)),(.int .i64 0),t9,(.int .i64 0)] (newB h (256*c+0) (t0:Value).cells.toList) (c+1+1+1+1) []).bind fun r0 =>
 cond (Z0q r0.e (.exit 0))
  ((Z0a r0.h r0.df).bind fun h2 =>
  some ⟨.ret,[(.int .i64 0)],h2,(r0.c+1),[]⟩)
  (cond (Z0q r0.e .ret)
   ((Z0a r0.h r0.df).bind fun h1 =>
   some ⟨.ret,[r0.v 1],h1,r0.c,[]⟩)
   (none)))
 else none)
theorem Zic (o:Orc H) (t0:Value) (h:H) (c:Nat):jx P o 83 none f13_c (Z0f (List.range 1) [t0]) h c [] (Kfn P Try.f13.results.toList)=Zlp o t0 h c:=by kernel_rfl
theorem f13_go {t0:Value} {h:FH} {c:Nat} {df:List Nat} {r:Rt FH} (e:Zlp G t0 h c=some r):G (.fn 13) [t0] h c df=some (gcR h c [] r):=Z0d (a:=Zg5) bk_13 rfl (fun args h c=>by cases args <;> rfl) rfl ((Zic G t0 h c).trans e)
theorem ZcK {rd:Option Nat} {t1 t2 t3 t4 t5:Value} {h:FH} {c:Nat} {df:List Nat} {q r:Rt FH} (e:Z20 G rd t1 t2 t3 t4 t5 h c df=some q) (hq:q.e = .normal) (k:G (Z3Z rd) q.vs (gcR h c df q).h (gcR h c df q).c q.df=some r):G (Z3Z rd) [t1,t2,t3,t4,t5] h c df=some r:=Z0R ((Z5U G rd t1 t2 t3 t4 t5 h c df).trans e) hq k
theorem ZcI {rd:Option Nat} {t1 t2 t3 t4 t5:Value} {h:FH} {c:Nat} {df:List Nat} {q:Rt FH} (e:Z20 G rd t1 t2 t3 t4 t5 h c df=some q) (hq:q.e ≠ .normal):G (Z3Z rd) [t1,t2,t3,t4,t5] h c df=some (gcR h c df q):=Z0S ((Z5U G rd t1 t2 t3 t4 t5 h c df).trans e) hq
theorem ZcL {rd:Option Nat} {t1 t2 t3 t4:Value} {h:FH} {c:Nat} {df:List Nat} {q r:Rt FH} (e:Z1q G rd t1 t2 t3 t4 h c df=some q) (hq:q.e = .normal) (k:G (Z40 rd) q.vs (gcR h c df q).h (gcR h c df q).c q.df=some r):G (Z40 rd) [t1,t2,t3,t4] h c df=some r:=Z0R ((Z5V G rd t1 t2 t3 t4 h c df).trans e) hq k
theorem ZcJ {rd:Option Nat} {t1 t2 t3 t4:Value} {h:FH} {c:Nat} {df:List Nat} {q:Rt FH} (e:Z1q G rd t1 t2 t3 t4 h c df=some q) (hq:q.e ≠ .normal):G (Z40 rd) [t1,t2,t3,t4] h c df=some (gcR h c df q):=Z0S ((Z5V G rd t1 t2 t3 t4 h c df).trans e) hq
noncomputable def Z9G (o:Orc H) (rd:Option Nat) (t1 t5 t7 t9 t10 t26 t27 t28 t42 t43:Value) (h:H) (c:Nat) (df:List Nat):Option (Rt H) :=
 (Z00 P .lss 3 t43 t42).bind fun t44 =>
 Z07 t44
 ((Z0z t5).bind fun t47 =>
 (Z06 t47 0).bind fun t48 =>
 (callF o 46 [t48,t43] h (c+1+1+1)).bind fun r0 =>
 (Z00 P .eql 3 r0.1 t9).bind fun t52 =>
 (Z07 t52
  ((Z00 P .quo 3 t43 (.int .i64 4)).bind fun t55 =>
  (Z00 P .mul 3 t55 (.int .i64 7)).bind fun t56 =>
  (Z00 P .rem 3 t43 (.int .i64 4)).bind fun t58 =>
  (Z00 P .add 3 t56 t58).bind fun t59 =>
  (ixS 1 t10 t59).bind fun t60 =>
  (stN r0.2.1 1 t60 (.int .i64 1)).bind fun h2 =>
  some ⟨.normal,[t1,t5,t7,t9,t10,t26,t27,t28,t42,t43],h2,(r0.2.2+1),df⟩)
  (some ⟨.normal,[t1,t5,t7,t9,t10,t26,t27,t28,t42,t43],r0.2.1,r0.2.2,df⟩):Option (Rt H)).bind fun r3 =>
 cond (Z0q r3.e .normal)
  ((Z00 P .add 3 (r3.v 9) (.int .i64 1)).bind fun t61 =>
  some ⟨.normal,[r3.v 0,r3.v 1,r3.v 2,r3.v 3,r3.v 4,r3.v 5,r3.v 6,r3.v 7,r3.v 8,t61],r3.h,(r3.c+1),r3.df⟩)
  (none))
 (some ⟨(.exit 2),[t1,t5,t7,t9,t10,t26,t27,t28,t42,t43],h,(c+1),df⟩)
theorem ZdP (o:Orc H) (rd:Option Nat) (t1 t5 t7 t9 t10 t26 t27 t28 t42 t43:Value) (h:H) (c:Nat) (df:List Nat):jx P o 68 rd Z3X (Z0f [1,5,7,9,10,26,27,28,42,43] [t1,t5,t7,t9,t10,t26,t27,t28,t42,t43]) h c df (Klp [1,5,7,9,10,26,27,28,42,43])=Z9G o rd t1 t5 t7 t9 t10 t26 t27 t28 t42 t43 h c df:=by kernel_rfl
noncomputable def Z9H (o:Orc H) (rd:Option Nat) (t1 t5 t7 t26 t27 t28:Value) (h:H) (c:Nat) (df:List Nat):Option (Rt H) :=
 (Z00 P .lss 3 t28 t27).bind fun t29 =>
 Z07 t29
 ((ixS 1 t26 t28).bind fun t30 =>
 (ld1 h t30).bind fun t31 =>
 (Z06 t1 0).bind fun t32 =>
 (ld1 h t32).bind fun t33 =>
 (Z0X t33).bind fun t34 =>
 (Z00 P .mul 3 (.int .i64 7) t34).bind fun t35 =>
 (mkS 1 8 [(.int .i64 0)] t35 t35).bind fun r0 =>
 (Z0z t5).bind fun t38 =>
 (Z06 t38 0).bind fun t39 =>
 (Z06 t39 0).bind fun t40 =>
 (ld1 (newB h (256*(c+1+1)+4) r0.1) t40).bind fun t41 =>
 (Z0X t41).bind fun t42 =>
 (o (Zjv rd) [t1,t5,t7,t31,(.slice (some ⟨(256*(c+1+1)+4),0,none⟩) r0.2.1 r0.2.2),t26,t27,t28,t42,(.int .i64 0)] (newB h (256*(c+1+1)+4) r0.1) (c+1+1+1+1) df).bind fun r1 =>
 cond (Z0q r1.e (.exit 2))
  ((Z2T [(.slice none 0 0)] [(0,1,(r1.v 4))]).bind fun r2 =>
  (Z7q (newB r1.h (256*r1.c+2) r2) (256*r1.c+3) 1 24 (r1.v 2) (.slice (some ⟨(256*r1.c+2),0,none⟩) 1 1)).bind fun r3 =>
  (Z00 P .add 3 (r1.v 7) (.int .i64 1)).bind fun t66 =>
  some ⟨.normal,[r1.v 0,r1.v 1,r3.1,r1.v 5,r1.v 6,t66],r3.2,(r1.c+1+1),r1.df⟩)
  (none))
 (some ⟨(.exit 0),[t1,t5,t7,t26,t27,t28],h,(c+1),df⟩)
theorem ZdQ (o:Orc H) (rd:Option Nat) (t1 t5 t7 t26 t27 t28:Value) (h:H) (c:Nat) (df:List Nat):jx P o 68 rd Z3Y (Z0f [1,5,7,26,27,28] [t1,t5,t7,t26,t27,t28]) h c df (Klp [1,5,7,26,27,28])=Z9H o rd t1 t5 t7 t26 t27 t28 h c df:=by kernel_rfl
noncomputable def ZrC (o:Orc H) (t0:Value) (h:H) (c:Nat):Option (Rt H) :=
 (bif (t0:Value).cells.toList.all Z0c then
 (ldN (newB h (256*c+0) (t0:Value).cells.toList) 1 (ptrTo (256*c+0))).bind fun t12 =>
 (callF o 43 [t12] (newB h (256*c+0) (t0:Value).cells.toList) (c+1+1)).bind fun r0 =>
 (Z00 P .neq 27 r0.1 (.int .i64 0)).bind fun t15 =>
 Z07 t15
 (some ⟨.ret,[.tuple #[(.slice none 0 0),r0.1]],r0.2.1,(r0.2.2+1+1),[]⟩)
 ((ldN r0.2.1 1 (ptrTo (256*c+0))).bind fun t18 =>
 (callF o 44 [t18] r0.2.1 (r0.2.2+1+1)).bind fun r1 =>
 (Z23 r1.1 0).bind fun t20 =>
 (Z23 r1.1 1).bind fun t21 =>
 (Z2T [] []).bind fun r2 =>
 (Z0z t20).bind fun t24 =>
 (Z06 t24 0).bind fun t25 =>
 (callF o 45 [t25] (newB r1.2.1 (256*r1.2.2+0) r2) (r1.2.2+1+1)).bind fun r3 =>
 (Z0X r3.1).bind fun t27 =>
 (o (Zjw none) [(ptrTo (256*c+0)),t20,(.slice (some ⟨(256*r1.2.2+0),0,none⟩) 0 0),r3.1,t27,(.int .i64 0)] r3.2.1 r3.2.2 []).bind fun r4 =>
 cond (Z0q r4.e (.exit 0))
  ((Z0a r4.h r4.df).bind fun h5 =>
  some ⟨.ret,[.tuple #[r4.v 2,(.int .i64 0)]],h5,(r4.c+1),[]⟩)
  (none))
 else none)
theorem Zp5 (o:Orc H) (t0:Value) (h:H) (c:Nat):jx P o 68 none f14_c (Z0f (List.range 1) [t0]) h c [] (Kfn P Try.f14.results.toList)=ZrC o t0 h c:=by kernel_rfl
noncomputable def Z9D (o:Orc H) (rd:Option Nat) (t1 t7 t8 t10 t28 t29 t30 t35 t36 t63:Value) (h:H) (c:Nat) (df:List Nat):Option (Rt H) :=
 (Z00 P .lss 3 t63 (.int .i64 4)).bind fun t64 =>
 Z07 t64
 ((Z00 P .neq 3 t63 t10).bind fun t68 =>
 (Z07 t68
  ((callF o 50 [t1,t8,t10,t63] h (c+1+1+1+1)).bind fun r0 =>
  (Z00 P .sub 3 t7 r0.1).bind fun t75 =>
  some ⟨.normal,[t1,t75,t8,t10,t28,t29,t30,t35,t36,t63],r0.2.1,r0.2.2,df⟩)
  (some ⟨.normal,[t1,t7,t8,t10,t28,t29,t30,t35,t36,t63],h,(c+1+1+1),df⟩):Option (Rt H)).bind fun r2 =>
 cond (Z0q r2.e .normal)
  ((Z00 P .add 3 (r2.v 9) (.int .i64 1)).bind fun t76 =>
  some ⟨.normal,[r2.v 0,r2.v 1,r2.v 2,r2.v 3,r2.v 4,r2.v 5,r2.v 6,r2.v 7,r2.v 8,t76],r2.h,(r2.c+1),r2.df⟩)
  (none))
 (some ⟨(.exit 4),[t1,t7,t8,t10,t28,t29,t30,t35,t36,t63],h,(c+1),df⟩)
theorem ZdM (o:Orc H) (rd:Option Nat) (t1 t7 t8 t10 t28 t29 t30 t35 t36 t63:Value) (h:H) (c:Nat) (df:List Nat):jx P o 80 rd Z3U (Z0f [1,7,8,10,28,29,30,35,36,63] [t1,t7,t8,t10,t28,t29,t30,t35,t36,t63]) h c df (Klp [1,7,8,10,28,29,30,35,36,63])=Z9D o rd t1 t7 t8 t10 t28 t29 t30 t35 t36 t63 h c df:=by kernel_rfl
noncomputable def Z9E (o:Orc H) (rd:Option Nat) (t1 t7 t8 t28 t29 t30 t35 t36:Value) (h:H) (c:Nat) (df:List Nat):Option (Rt H) :=
 (Z00 P .lss 3 t36 (.int .i64 4)).bind fun t37 =>
 Z07 t37
 (((ixV 4 true 5 t35 t36).bind fun t39 =>
  (stN (newB h (256*(c+1)+2) [(.int .i64 0),(.int .i64 0),(.int .i64 0),(.int .i64 0),(.int .i64 0)]) 5 (ptrTo (256*(c+1)+2)) t39).bind fun h1 =>
  (Z06 (ptrTo (256*(c+1)+2)) 0).bind fun t40 =>
  (ld1 h1 t40).bind fun t41 =>
  (Z00 P .geq 3 t41 (.int .i64 0)).bind fun t42 =>
  (gd t42 true h1 (c+1+1+1) (Z06 (ptrTo (256*(c+1)+2)) 0)).bind fun r2 =>
  (gd t42 true r2.2.1 r2.2.2 (ld1 r2.2.1 r2.1)).bind fun r3 =>
  (gd t42 true r3.2.1 r3.2.2 (some t8)).bind fun r4 =>
  (gd t42 true r4.2.1 r4.2.2 (Z00 P .lss 3 r3.1 r4.1)).bind fun r5 =>
  (gd t42 true r5.2.1 r5.2.2 (some r5.1)).bind fun r6 =>
  (gd r6.1 false r6.2.1 r6.2.2 (Z06 (ptrTo (256*(c+1)+2)) 0)).bind fun r7 =>
  (gd r6.1 false r7.2.1 r7.2.2 (ld1 r7.2.1 r7.1)).bind fun r8 =>
  (gd r6.1 false r8.2.1 r8.2.2 (some t8)).bind fun r9 =>
  (gd r6.1 false r9.2.1 r9.2.2 (Z00 P .eql 3 r8.1 r9.1)).bind fun r10 =>
  (gd r6.1 false r10.2.1 r10.2.2 (some r10.1)).bind fun r11 =>
  (gd r11.1 true r11.2.1 r11.2.2 (some t36)).bind fun r12 =>
  (gd r11.1 true r12.2.1 r12.2.2 (Z06 (ptrTo (256*(c+1)+2)) 1)).bind fun r13 =>
  (gd r11.1 true r13.2.1 r13.2.2 (ixA 4 1 r13.1 r12.1)).bind fun r14 =>
  (gd r11.1 true r14.2.1 r14.2.2 (ld1 r14.2.1 r14.1)).bind fun r15 =>
  (gd r11.1 true r15.2.1 r15.2.2 (some t36)).bind fun r16 =>
  (gd r11.1 true r16.2.1 r16.2.2 (Z00 P .lss 3 r15.1 r16.1)).bind fun r17 =>
  (gg r6.1 false r17.2.1 r17.2.2 (Zej r17.2.1 r17.2.2 r11.1 r17.1 (.bool false))).bind fun r18 =>
  (gg t42 true r18.2.1 r18.2.2 (Zej r18.2.1 r18.2.2 r6.1 (.bool true) r18.1)).bind fun r19 =>
  (Z0D t42 r19.1 (.bool false)).bind fun t62 =>
  Z07 t62
   (some ⟨.normal,[t1,t7,t8,t28,t29,t30,t35,t36],r19.2.1,r19.2.2,df⟩)
   ((o (Zjr rd) [t1,t7,t8,t36,t28,t29,t30,t35,t36,(.int .i64 0)] r19.2.1 (r19.2.2+1) df).bind fun r20 =>
   cond (Z0q r20.e (.exit 4))
    (some ⟨.normal,[r20.v 0,r20.v 1,r20.v 2,r20.v 4,r20.v 5,r20.v 6,r20.v 7,r20.v 8],r20.h,r20.c,r20.df⟩)
    (none)):Option (Rt H)).bind fun r21 =>
 cond (Z0q r21.e .normal)
  ((Z00 P .add 3 (r21.v 7) (.int .i64 1)).bind fun t77 =>
  some ⟨.normal,[r21.v 0,r21.v 1,r21.v 2,r21.v 3,r21.v 4,r21.v 5,r21.v 6,t77],r21.h,(r21.c+1),r21.df⟩)
  (none))
 (some ⟨(.exit 2),[t1,t7,t8,t28,t29,t30,t35,t36],h,(c+1),df⟩)
theorem ZdN (o:Orc H) (rd:Option Nat) (t1 t7 t8 t28 t29 t30 t35 t36:Value) (h:H) (c:Nat) (df:List Nat):jx P o 80 rd Z3V (Z0f [1,7,8,28,29,30,35,36] [t1,t7,t8,t28,t29,t30,t35,t36]) h c df (Klp [1,7,8,28,29,30,35,36])=Z9E o rd t1 t7 t8 t28 t29 t30 t35 t36 h c df:=by kernel_rfl
noncomputable def Z9F (o:Orc H) (rd:Option Nat) (t1 t7 t28 t29 t30:Value) (h:H) (c:Nat) (df:List Nat):Option (Rt H) :=
 (Z00 P .lss 3 t30 t29).bind fun t31 =>
 Z07 t31
 ((ixS 20 t28 t30).bind fun t33 =>
 (ldN h 20 t33).bind fun t34 =>
 (stN (newB h (256*(c+1)+3) [(.int .i64 0),(.int .i64 0),(.int .i64 0),(.int .i64 0),(.int .i64 0),(.int .i64 0),(.int .i64 0),(.int .i64 0),(.int .i64 0),(.int .i64 0),(.int .i64 0),(.int .i64 0),(.int .i64 0),(.int .i64 0),(.int .i64 0),(.int .i64 0),(.int .i64 0),(.int .i64 0),(.int .i64 0),(.int .i64 0)]) 20 (ptrTo (256*(c+1)+3)) t34).bind fun h1 =>
 (ldN h1 20 (ptrTo (256*(c+1)+3))).bind fun t35 =>
 (o (Zjs rd) [t1,t7,t30,t28,t29,t30,t35,(.int .i64 0)] h1 (c+1+1+1) df).bind fun r2 =>
 cond (Z0q r2.e (.exit 2))
  ((Z00 P .add 3 (r2.v 5) (.int .i64 1)).bind fun t78 =>
  some ⟨.normal,[r2.v 0,r2.v 1,r2.v 3,r2.v 4,t78],r2.h,(r2.c+1),r2.df⟩)
  (none))
 (some ⟨(.exit 0),[t1,t7,t28,t29,t30],h,(c+1),df⟩)
theorem ZdO (o:Orc H) (rd:Option Nat) (t1 t7 t28 t29 t30:Value) (h:H) (c:Nat) (df:List Nat):jx P o 80 rd Z3W (Z0f [1,7,28,29,30] [t1,t7,t28,t29,t30]) h c df (Klp [1,7,28,29,30])=Z9F o rd t1 t7 t28 t29 t30 h c df:=by kernel_rfl
noncomputable def ZrB (o:Orc H) (t0 t1:Value) (h:H) (c:Nat):Option (Rt H) :=
 (bif (t0:Value).cells.toList.all Z0c then
 (ldN (newB h (256*c+0) (t0:Value).cells.toList) 1 (ptrTo (256*c+0))).bind fun t13 =>
 (Z2T [(.slice none 0 0)] [(0,1,t1)]).bind fun r0 =>
 (callF o 47 [t13,(.slice (some ⟨(256*(c+1)+2),0,none⟩) 1 1)] (newB (newB h (256*c+0) (t0:Value).cells.toList) (256*(c+1)+2) r0) (c+1+1)).bind fun r1 =>
 (Z00 P .neq 27 r1.1 (.int .i64 0)).bind fun t18 =>
 Z07 t18
 (some ⟨.ret,[.tuple #[(.int .i64 0),r1.1]],r1.2.1,(r1.2.2+1+1),[]⟩)
 ((ldN r1.2.1 1 (ptrTo (256*c+0))).bind fun t20 =>
 (callF o 49 [t20,t1] r1.2.1 (r1.2.2+1+1)).bind fun r2 =>
 (callF o 48 [r2.1] r2.2.1 r2.2.2).bind fun r3 =>
 (callF o 48 [t1] r3.2.1 r3.2.2).bind fun r4 =>
 (Z00 P .add 3 r3.1 r4.1).bind fun t26 =>
 (Z06 (ptrTo (256*c+0)) 0).bind fun t27 =>
 (ld1 r4.2.1 t27).bind fun t28 =>
 (Z0X t28).bind fun t29 =>
 (o (Zjt none) [t1,t26,t28,t29,(.int .i64 0)] r4.2.1 (r4.2.2+1) []).bind fun r5 =>
 cond (Z0q r5.e (.exit 0))
  ((Z0a r5.h r5.df).bind fun h6 =>
  some ⟨.ret,[.tuple #[r5.v 1,(.int .i64 0)]],h6,(r5.c+1),[]⟩)
  (none))
 else none)
theorem Zp4 (o:Orc H) (t0 t1:Value) (h:H) (c:Nat):jx P o 80 none f15_c (Z0f (List.range 2) [t0,t1]) h c [] (Kfn P Try.f15.results.toList)=ZrB o t0 t1 h c:=by kernel_rfl
noncomputable def ZrA (o:Orc H) (t0 t1:Value) (h:H) (c:Nat):Option (Rt H) :=
 (bif (t0:Value).cells.toList.all Z0c then
 (ldN (newB h (256*c+0) (t0:Value).cells.toList) 1 (ptrTo (256*c+0))).bind fun t7 =>
 (Z2T [(.slice none 0 0)] [(0,1,t1)]).bind fun r0 =>
 (callF o 47 [t7,(.slice (some ⟨(256*(c+1)+2),0,none⟩) 1 1)] (newB (newB h (256*c+0) (t0:Value).cells.toList) (256*(c+1)+2) r0) (c+1+1)).bind fun r1 =>
 (Z00 P .neq 27 r1.1 (.int .i64 0)).bind fun t12 =>
 Z07 t12
 (some ⟨.ret,[.tuple #[(.slice none 0 0),r1.1]],r1.2.1,(r1.2.2+1+1),[]⟩)
 ((ldN r1.2.1 1 (ptrTo (256*c+0))).bind fun t14 =>
 (callF o 49 [t14,t1] r1.2.1 (r1.2.2+1+1)).bind fun r2 =>
 some ⟨.ret,[.tuple #[r2.1,(.int .i64 0)]],r2.2.1,r2.2.2,[]⟩)
 else none)
theorem Zp3 (o:Orc H) (t0 t1:Value) (h:H) (c:Nat):jx P o 17 none f16_c (Z0f (List.range 2) [t0,t1]) h c [] (Kfn P Try.f16.results.toList)=ZrA o t0 t1 h c:=by kernel_rfl
noncomputable def Zrz (o:Orc H) (t0 t1:Value) (h:H) (c:Nat):Option (Rt H) :=
 (bif (t0:Value).cells.toList.all Z0c then
 (ldN (newB h (256*c+0) (t0:Value).cells.toList) 1 (ptrTo (256*c+0))).bind fun t5 =>
 (Z2T [(.slice none 0 0)] [(0,1,t1)]).bind fun r0 =>
 (callF o 47 [t5,(.slice (some ⟨(256*(c+1)+2),0,none⟩) 1 1)] (newB (newB h (256*c+0) (t0:Value).cells.toList) (256*(c+1)+2) r0) (c+1+1)).bind fun r1 =>
 some ⟨.ret,[r1.1],r1.2.1,r1.2.2,[]⟩
 else none)
theorem Zp2 (o:Orc H) (t0 t1:Value) (h:H) (c:Nat):jx P o 9 none f17_c (Z0f (List.range 2) [t0,t1]) h c [] (Kfn P Try.f17.results.toList)=Zrz o t0 t1 h c:=by kernel_rfl
noncomputable def Z9C (o:Orc H) (rd:Option Nat) (t0 t2 t3:Value) (h:H) (c:Nat) (df:List Nat):Option (Rt H) :=
 (Z0X t0).bind fun t6 =>
 (Z00 P .lss 3 t3 t6).bind fun t7 =>
 Z07 t7
 ((ixS 1 t0 t3).bind fun t12 =>
 (ld1 h t12).bind fun t13 =>
 (Z0X t13).bind fun t14 =>
 (Z00 P .gtr 3 t14 (.int .i64 50)).bind fun t15 =>
 Z07 t15
  (some ⟨.ret,[t0,(.bool false),t3],h,(c+1+1+1),df⟩)
  ((Z00 P .add 3 t3 (.int .i64 1)).bind fun t9 =>
  some ⟨.normal,[t0,t2,t9],h,(c+1+1+1),df⟩))
 (some ⟨(.exit 0),[t0,t2,t3],h,(c+1),df⟩)
theorem Z87 (o:Orc H) (rd:Option Nat) (t0 t2 t3:Value) (h:H) (c:Nat) (df:List Nat):jx P o 16 rd Z9B (Z0f [0,2,3] [t0,t2,t3]) h c df (Klp [0,2,3])=Z9C o rd t0 t2 t3 h c df:=by kernel_rfl
noncomputable def Zrx (o:Orc H) (t0:Value) (h:H) (c:Nat):Option (Rt H) :=
 (o (ZcH none) [t0,(.bool false),(.int .i64 0)] h (c+1+1) []).bind fun r0 =>
 cond (Z0q r0.e (.exit 0))
 ((Z0a r0.h r0.df).bind fun h2 =>
 some ⟨.ret,[(.bool true)],h2,(r0.c+1),[]⟩)
 (cond (Z0q r0.e .ret)
  ((Z0a r0.h r0.df).bind fun h1 =>
  some ⟨.ret,[r0.v 1],h1,r0.c,[]⟩)
  (none))
theorem Zp1 (o:Orc H) (t0:Value) (h:H) (c:Nat):jx P o 16 none f18_c (Z0f (List.range 1) [t0]) h c [] (Kfn P Try.f18.results.toList)=Zrx o t0 h c:=by kernel_rfl
theorem f18_go {t0:Value} {h:FH} {c:Nat} {df:List Nat} {r:Rt FH} (e:Zrx G t0 h c=some r):G (.fn 18) [t0] h c df=some (gcR h c [] r):=Z0d (a:=Zp0) bk_18 rfl (fun args h c=>by cases args <;> rfl) rfl ((Zp1 G t0 h c).trans e)
noncomputable def ZoZ (o:Orc H) (t0 t1:Value) (h:H) (c:Nat):Option (Rt H) :=
 (Z00 P .gtr 3 t0 t1).bind fun t7 =>
 Z07 t7
 ((callF o 20 [t1,t0] h (c+1+1+1)).bind fun r0 =>
 some ⟨.ret,[r0.1],r0.2.1,r0.2.2,[]⟩)
 ((Z00 P .eql 3 t0 (.int .i64 0)).bind fun t12 =>
 Z07 t12
  ((Z00 P .sub 3 t1 (.int .i64 1)).bind fun t14 =>
  some ⟨.ret,[t14],h,(c+1+1+1+1),[]⟩)
  ((Z00 P .sub 3 (.int .i64 5) t0).bind fun t16 =>
  (Z00 P .sub 3 t16 t1).bind fun t18 =>
  some ⟨.ret,[t18],h,(c+1+1+1+1),[]⟩))
theorem ZoY (o:Orc H) (t0 t1:Value) (h:H) (c:Nat):jx P o 19 none f20_c (Z0f (List.range 2) [t0,t1]) h c [] (Kfn P Try.f20.results.toList)=ZoZ o t0 t1 h c:=by kernel_rfl
theorem ZpZ {t0 t1:Value} {h:FH} {c:Nat} {df:List Nat} {r:Rt FH} (e:ZoZ G t0 t1 h c=some r):G (.fn 20) [t0,t1] h c df=some (gcR h c [] r):=Z0d (a:=ZoX) bk_20 rfl (fun args h c=>by cases args <;> rfl) rfl ((ZoY G t0 t1 h c).trans e)
noncomputable def Z55 (o:Orc H) (rd:Option Nat) (t0 t1 t4 t5:Value) (h:H) (c:Nat) (df:List Nat):Option (Rt H) :=
 (Z0X t0).bind fun t13 =>
 (Z00 P .lss 3 t5 t13).bind fun t14 =>
 Z07 t14
 ((ixS 1 t0 t5).bind fun t19 =>
 (ld1 h t19).bind fun t20 =>
 (ixS 1 t1 t5).bind fun t23 =>
 (ld1 h t23).bind fun t24 =>
 (Z00 P .neq 3 t20 t24).bind fun t25 =>
 Z07 t25
  (some ⟨.ret,[t0,t1,(.bool false),t5],h,(c+1+1+1),df⟩)
  ((Z00 P .add 3 t5 (.int .i64 1)).bind fun t16 =>
  some ⟨.normal,[t0,t1,t4,t16],h,(c+1+1+1),df⟩))
 (some ⟨(.exit 0),[t0,t1,t4,t5],h,(c+1),df⟩)
theorem Z5T (o:Orc H) (rd:Option Nat) (t0 t1 t4 t5:Value) (h:H) (c:Nat) (df:List Nat):jx P o 26 rd Z3T (Z0f [0,1,4,5] [t0,t1,t4,t5]) h c df (Klp [0,1,4,5])=Z55 o rd t0 t1 t4 t5 h c df:=by kernel_rfl
noncomputable def Zlo (o:Orc H) (t0 t1:Value) (h:H) (c:Nat):Option (Rt H) :=
 (Z0X t0).bind fun t7 =>
 (Z0X t1).bind fun t9 =>
 (Z00 P .neq 3 t7 t9).bind fun t10 =>
 Z07 t10
 (some ⟨.ret,[(.bool false)],h,(c+1+1+1),[]⟩)
 ((o (ZcG none) [t0,t1,(.bool false),(.int .i64 0)] h (c+1+1+1) []).bind fun r0 =>
 cond (Z0q r0.e (.exit 0))
  ((Z0a r0.h r0.df).bind fun h2 =>
  some ⟨.ret,[(.bool true)],h2,(r0.c+1),[]⟩)
  (cond (Z0q r0.e .ret)
   ((Z0a r0.h r0.df).bind fun h1 =>
   some ⟨.ret,[r0.v 2],h1,r0.c,[]⟩)
   (none)))
theorem Zib (o:Orc H) (t0 t1:Value) (h:H) (c:Nat):jx P o 26 none f21_c (Z0f (List.range 2) [t0,t1]) h c [] (Kfn P Try.f21.results.toList)=Zlo o t0 t1 h c:=by kernel_rfl
theorem f21_go {t0 t1:Value} {h:FH} {c:Nat} {df:List Nat} {r:Rt FH} (e:Zlo G t0 t1 h c=some r):G (.fn 21) [t0,t1] h c df=some (gcR h c [] r):=Z0d (a:=Zg3) bk_21 rfl (fun args h c=>by cases args <;> rfl) rfl ((Zib G t0 t1 h c).trans e)

variable {H:Type} [HeapC H]
noncomputable def Z54 (o:Orc H) (rd:Option Nat) (t1 t4 t5 t8 t11 t12 t33 t34 t35 t53 t54:Value) (h:H) (c:Nat) (df:List Nat):Option (Rt H) :=
 (Z00 P .lss 3 t54 t53).bind fun t55 =>
 Z07 t55
 ((Z0z t8).bind fun t58 =>
 (Z06 t58 0).bind fun t59 =>
 (callF o 46 [t59,t54] h (c+1+1+1)).bind fun r0 =>
 (Z00 P .eql 3 r0.1 t11).bind fun t63 =>
 (Z07 t63
  ((Z00 P .quo 3 t54 (.int .i64 4)).bind fun t67 =>
  (Z00 P .mul 3 t67 (.int .i64 7)).bind fun t68 =>
  (Z00 P .rem 3 t54 (.int .i64 4)).bind fun t70 =>
  (Z00 P .add 3 t68 t70).bind fun t71 =>
  (ixS 1 t1 t71).bind fun t72 =>
  (ld1 r0.2.1 t72).bind fun t73 =>
  (Z28 min2 [t12,t73]).bind fun t74 =>
  some ⟨.normal,[t1,t4,t5,t8,t11,t74,t33,t34,t35,t53,t54],r0.2.1,(r0.2.2+1),df⟩)
  (some ⟨.normal,[t1,t4,t5,t8,t11,t12,t33,t34,t35,t53,t54],r0.2.1,r0.2.2,df⟩):Option (Rt H)).bind fun r2 =>
 cond (Z0q r2.e .normal)
  ((Z00 P .add 3 (r2.v 10) (.int .i64 1)).bind fun t75 =>
  some ⟨.normal,[r2.v 0,r2.v 1,r2.v 2,r2.v 3,r2.v 4,r2.v 5,r2.v 6,r2.v 7,r2.v 8,r2.v 9,t75],r2.h,(r2.c+1),r2.df⟩)
  (none))
 (some ⟨(.exit 2),[t1,t4,t5,t8,t11,t12,t33,t34,t35,t53,t54],h,(c+1),df⟩)
theorem Z5S (o:Orc H) (rd:Option Nat) (t1 t4 t5 t8 t11 t12 t33 t34 t35 t53 t54:Value) (h:H) (c:Nat) (df:List Nat):jx P o 112 rd Z3Q (Z0f [1,4,5,8,11,12,33,34,35,53,54] [t1,t4,t5,t8,t11,t12,t33,t34,t35,t53,t54]) h c df (Klp [1,4,5,8,11,12,33,34,35,53,54])=Z54 o rd t1 t4 t5 t8 t11 t12 t33 t34 t35 t53 t54 h c df:=by kernel_rfl
noncomputable def Z53 (o:Orc H) (rd:Option Nat) (t1 t4 t5 t8 t11 t12 t33 t34 t35 t81 t82:Value) (h:H) (c:Nat) (df:List Nat):Option (Rt H) :=
 (Z00 P .lss 3 t82 t81).bind fun t83 =>
 Z07 t83
 ((Z0z t8).bind fun t86 =>
 (Z06 t86 0).bind fun t87 =>
 (callF o 46 [t87,t82] h (c+1+1+1)).bind fun r0 =>
 (Z00 P .eql 3 r0.1 t11).bind fun t91 =>
 (Z07 t91
  ((Z00 P .quo 3 t82 (.int .i64 4)).bind fun t94 =>
  (Z00 P .mul 3 t94 (.int .i64 7)).bind fun t95 =>
  (Z00 P .rem 3 t82 (.int .i64 4)).bind fun t97 =>
  (Z00 P .add 3 t95 t97).bind fun t98 =>
  (ixS 1 t5 t98).bind fun t99 =>
  (ld1 r0.2.1 t99).bind fun t100 =>
  (Z00 P .sub 3 t100 t12).bind fun t102 =>
  (ixS 1 t5 t98).bind fun t103 =>
  (stN r0.2.1 1 t103 t102).bind fun h2 =>
  some ⟨.normal,[t1,t4,t5,t8,t11,t12,t33,t34,t35,t81,t82],h2,(r0.2.2+1),df⟩)
  (some ⟨.normal,[t1,t4,t5,t8,t11,t12,t33,t34,t35,t81,t82],r0.2.1,r0.2.2,df⟩):Option (Rt H)).bind fun r3 =>
 cond (Z0q r3.e .normal)
  ((Z00 P .add 3 (r3.v 10) (.int .i64 1)).bind fun t104 =>
  some ⟨.normal,[r3.v 0,r3.v 1,r3.v 2,r3.v 3,r3.v 4,r3.v 5,r3.v 6,r3.v 7,r3.v 8,r3.v 9,t104],r3.h,(r3.c+1),r3.df⟩)
  (none))
 (some ⟨(.exit 4),[t1,t4,t5,t8,t11,t12,t33,t34,t35,t81,t82],h,(c+1),df⟩)
theorem Z5R (o:Orc H) (rd:Option Nat) (t1 t4 t5 t8 t11 t12 t33 t34 t35 t81 t82:Value) (h:H) (c:Nat) (df:List Nat):jx P o 112 rd Z3P (Z0f [1,4,5,8,11,12,33,34,35,81,82] [t1,t4,t5,t8,t11,t12,t33,t34,t35,t81,t82]) h c df (Klp [1,4,5,8,11,12,33,34,35,81,82])=Z53 o rd t1 t4 t5 t8 t11 t12 t33 t34 t35 t81 t82 h c df:=by kernel_rfl
noncomputable def Z3S (o:Orc H) (rd:Option Nat) (t1 t4 t5 t8 t33 t34 t35:Value) (h:H) (c:Nat) (df:List Nat):Option (Rt H) :=
 (Z00 P .lss 3 t35 t34).bind fun t36 =>
 Z07 t36
 ((ixS 1 t33 t35).bind fun t37 =>
 (ld1 h t37).bind fun t38 =>
 (Z00 P .quo 3 t38 (.int .i64 4)).bind fun t41 =>
 (Z00 P .mul 3 t41 (.int .i64 7)).bind fun t42 =>
 (Z00 P .rem 3 t38 (.int .i64 4)).bind fun t44 =>
 (Z00 P .add 3 t42 t44).bind fun t45 =>
 (ixS 1 t1 t45).bind fun t46 =>
 (ld1 h t46).bind fun t47 =>
 (Z0z t8).bind fun t49 =>
 (Z06 t49 0).bind fun t50 =>
 (Z06 t50 0).bind fun t51 =>
 (ld1 h t51).bind fun t52 =>
 (Z0X t52).bind fun t53 =>
 (o (ZcF rd) [t1,t4,t5,t8,t38,t47,t33,t34,t35,t53,(.int .i64 0)] h (c+1+1+1+1) df).bind fun r0 =>
 cond (Z0q r0.e (.exit 2))
  ((Z0z (r0.v 3)).bind fun t77 =>
  (Z06 t77 0).bind fun t78 =>
  (Z06 t78 0).bind fun t79 =>
  (ld1 r0.h t79).bind fun t80 =>
  (Z0X t80).bind fun t81 =>
  (o (ZcE rd) [r0.v 0,r0.v 1,r0.v 2,r0.v 3,r0.v 4,r0.v 5,r0.v 6,r0.v 7,r0.v 8,t81,(.int .i64 0)] r0.h (r0.c+1) r0.df).bind fun r1 =>
  cond (Z0q r1.e (.exit 4))
   ((Z2T [(.int .i64 0)] [(0,1,(r1.v 5))]).bind fun r2 =>
   (Z7q (newB r1.h (256*r1.c+2) r2) (256*r1.c+3) 1 8 (r1.v 1) (.slice (some ⟨(256*r1.c+2),0,none⟩) 1 1)).bind fun r3 =>
   (Z00 P .add 3 (r1.v 8) (.int .i64 1)).bind fun t109 =>
   some ⟨.normal,[r1.v 0,r3.1,r1.v 2,r1.v 3,r1.v 6,r1.v 7,t109],r3.2,(r1.c+1+1),r1.df⟩)
   (none))
  (none))
 (some ⟨(.exit 0),[t1,t4,t5,t8,t33,t34,t35],h,(c+1),df⟩)
theorem Z35 (o:Orc H) (rd:Option Nat) (t1 t4 t5 t8 t33 t34 t35:Value) (h:H) (c:Nat) (df:List Nat):jx P o 112 rd Z3R (Z0f [1,4,5,8,33,34,35] [t1,t4,t5,t8,t33,t34,t35]) h c df (Klp [1,4,5,8,33,34,35])=Z3S o rd t1 t4 t5 t8 t33 t34 t35 h c df:=by kernel_rfl
noncomputable def Zln (o:Orc H) (t0 t1:Value) (h:H) (c:Nat):Option (Rt H) :=
 (bif (t0:Value).cells.toList.all Z0c then
 (ldN (newB h (256*c+0) (t0:Value).cells.toList) 1 (ptrTo (256*c+0))).bind fun t15 =>
 (Z2T [(.slice none 0 0)] [(0,1,t1)]).bind fun r0 =>
 (callF o 47 [t15,(.slice (some ⟨(256*(c+1)+2),0,none⟩) 1 1)] (newB (newB h (256*c+0) (t0:Value).cells.toList) (256*(c+1)+2) r0) (c+1+1)).bind fun r1 =>
 (Z00 P .neq 27 r1.1 (.int .i64 0)).bind fun t20 =>
 Z07 t20
 (some ⟨.ret,[.tuple #[(.slice none 0 0),(.slice none 0 0),r1.1]],r1.2.1,(r1.2.2+1+1),[]⟩)
 ((ldN r1.2.1 1 (ptrTo (256*c+0))).bind fun t23 =>
 (callF o 44 [t23] r1.2.1 (r1.2.2+1+1)).bind fun r2 =>
 (Z23 r2.1 0).bind fun t25 =>
 (Z23 r2.1 1).bind fun t26 =>
 (callF o 53 [t1] r2.2.1 (r2.2.2+1)).bind fun r3 =>
 (Z2T [] []).bind fun r4 =>
 (Z0z t25).bind fun t31 =>
 (Z06 t31 0).bind fun t32 =>
 (callF o 45 [t32] (newB r3.2.1 (256*r3.2.2+0) r4) (r3.2.2+1+1)).bind fun r5 =>
 (Z0X r5.1).bind fun t34 =>
 (o (Z9A none) [t1,(.slice (some ⟨(256*r3.2.2+0),0,none⟩) 0 0),r3.1,t25,r5.1,t34,(.int .i64 0)] r5.2.1 r5.2.2 []).bind fun r6 =>
 cond (Z0q r6.e (.exit 0))
  ((Z0a r6.h r6.df).bind fun h7 =>
  some ⟨.ret,[.tuple #[r6.v 1,r6.v 2,(.int .i64 0)]],h7,(r6.c+1),[]⟩)
  (none))
 else none)
theorem Zia (o:Orc H) (t0 t1:Value) (h:H) (c:Nat):jx P o 112 none f23_c (Z0f (List.range 2) [t0,t1]) h c [] (Kfn P Try.f23.results.toList)=Zln o t0 t1 h c:=by kernel_rfl
theorem f23_go {t0 t1:Value} {h:FH} {c:Nat} {df:List Nat} {r:Rt FH} (e:Zln G t0 t1 h c=some r):G (.fn 23) [t0,t1] h c df=some r:=Z0d (a:=Zg2) bk_23 rfl (fun args h c=>by cases args <;> rfl) rfl ((Zia G t0 t1 h c).trans e)
noncomputable def Zrw (o:Orc H) (t0 t1:Value) (h:H) (c:Nat):Option (Rt H) :=
 (bif (t0:Value).cells.toList.all Z0c then
 (ldN (newB h (256*c+0) (t0:Value).cells.toList) 1 (ptrTo (256*c+0))).bind fun t7 =>
 (Z2T [(.slice none 0 0)] [(0,1,t1)]).bind fun r0 =>
 (callF o 47 [t7,(.slice (some ⟨(256*(c+1)+2),0,none⟩) 1 1)] (newB (newB h (256*c+0) (t0:Value).cells.toList) (256*(c+1)+2) r0) (c+1+1)).bind fun r1 =>
 (Z00 P .neq 27 r1.1 (.int .i64 0)).bind fun t12 =>
 Z07 t12
 (some ⟨.ret,[.tuple #[(.slice none 0 0),r1.1]],r1.2.1,(r1.2.2+1+1),[]⟩)
 ((ldN r1.2.1 1 (ptrTo (256*c+0))).bind fun t14 =>
 (callF o 54 [t14,t1] r1.2.1 (r1.2.2+1+1)).bind fun r2 =>
 some ⟨.ret,[.tuple #[r2.1,(.int .i64 0)]],r2.2.1,r2.2.2,[]⟩)
 else none)
theorem ZoW (o:Orc H) (t0 t1:Value) (h:H) (c:Nat):jx P o 17 none f24_c (Z0f (List.range 2) [t0,t1]) h c [] (Kfn P Try.f24.results.toList)=Zrw o t0 t1 h c:=by kernel_rfl
theorem f24_go {t0 t1:Value} {h:FH} {c:Nat} {df:List Nat} {r:Rt FH} (e:Zrw G t0 t1 h c=some r):G (.fn 24) [t0,t1] h c df=some r:=Z0d (a:=ZoV) bk_24 rfl (fun args h c=>by cases args <;> rfl) rfl ((ZoW G t0 t1 h c).trans e)
noncomputable def Z3O (o:Orc H) (rd:Option Nat) (t1 t2 t4 t5 t29 t30:Value) (h:H) (c:Nat) (df:List Nat):Option (Rt H) :=
 (Z00 P .lss 3 t30 t29).bind fun t31 =>
 Z07 t31
 ((Z00 P .mul 3 (.int .i64 3) t30).bind fun t35 =>
 (Z00 P .mul 3 (.int .i64 3) t30).bind fun t37 =>
 (Z00 P .add 3 t37 (.int .i64 3)).bind fun t38 =>
 (slS h 1 t1 (some t35) (some t38) none).bind fun t39 =>
 (callF o 56 [t39] h (c+1+1+1)).bind fun r0 =>
 (Z1i .not r0.1).bind fun t41 =>
 Z07 t41
  (some ⟨.ret,[t1,t2,(.slice none 0 0),(.int .i64 1),t29,t30],r0.2.1,(r0.2.2+1),df⟩)
  ((Z00 P .add 3 t30 (.int .i64 1)).bind fun t42 =>
  some ⟨.normal,[t1,t2,t4,t5,t29,t42],r0.2.1,(r0.2.2+1),df⟩))
 (some ⟨(.exit 0),[t1,t2,t4,t5,t29,t30],h,(c+1),df⟩)
theorem Z34 (o:Orc H) (rd:Option Nat) (t1 t2 t4 t5 t29 t30:Value) (h:H) (c:Nat) (df:List Nat):jx P o 52 rd Z3N (Z0f [1,2,4,5,29,30] [t1,t2,t4,t5,t29,t30]) h c df (Klp [1,2,4,5,29,30])=Z3O o rd t1 t2 t4 t5 t29 t30 h c df:=by kernel_rfl
noncomputable def Zlm (o:Orc H) (t0 t1:Value) (h:H) (c:Nat):Option (Rt H) :=
 (bif (t0:Value).cells.toList.all Z0c then
 (ldN (newB h (256*c+0) (t0:Value).cells.toList) 1 (ptrTo (256*c+0))).bind fun t10 =>
 (callF o 43 [t10] (newB h (256*c+0) (t0:Value).cells.toList) (c+1+1)).bind fun r0 =>
 (Z00 P .neq 27 r0.1 (.int .i64 0)).bind fun t13 =>
 Z07 t13
 (some ⟨.ret,[.tuple #[(.slice none 0 0),r0.1]],r0.2.1,(r0.2.2+1+1),[]⟩)
 ((Z0X t1).bind fun t16 =>
 (Z06 (ptrTo (256*c+0)) 0).bind fun t17 =>
 (ld1 r0.2.1 t17).bind fun t18 =>
 (Z0X t18).bind fun t19 =>
 (Z00 P .mul 3 (.int .i64 3) t19).bind fun t20 =>
 (Z00 P .neq 3 t16 t20).bind fun t21 =>
 (gd t21 false r0.2.1 (r0.2.2+1+1) (some t1)).bind fun r1 =>
 (gg t21 false r1.2.1 r1.2.2 (callF o 55 [r1.1] r1.2.1 r1.2.2)).bind fun r2 =>
 (gd t21 false r2.2.1 r2.2.2 (Z1i .not r2.1)).bind fun r3 =>
 (Z0D t21 (.bool true) r3.1).bind fun t26 =>
 Z07 t26
  (some ⟨.ret,[.tuple #[(.slice none 0 0),(.int .i64 1)]],r3.2.1,(r3.2.2+1),[]⟩)
  ((Z06 (ptrTo (256*c+0)) 0).bind fun t27 =>
  (ld1 r3.2.1 t27).bind fun t28 =>
  (Z0X t28).bind fun t29 =>
  (o (ZcD none) [t1,(ptrTo (256*c+0)),(.slice none 0 0),(.int .i64 0),t29,(.int .i64 0)] r3.2.1 (r3.2.2+1) []).bind fun r4 =>
  cond (Z0q r4.e (.exit 0))
   ((ldN r4.h 1 (r4.v 1)).bind fun t44 =>
   (callF o 57 [t44,r4.v 0] r4.h (r4.c+1)).bind fun r6 =>
   (Z23 r6.1 0).bind fun t47 =>
   (Z23 r6.1 1).bind fun t48 =>
   (Z1i .not t48).bind fun t50 =>
   Z07 t50
    ((Z0a r6.2.1 r4.df).bind fun h7 =>
    some ⟨.ret,[.tuple #[(.slice none 0 0),(.int .i64 3)]],h7,(r6.2.2+1+1),[]⟩)
    ((Z0a r6.2.1 r4.df).bind fun h8 =>
    some ⟨.ret,[.tuple #[t47,(.int .i64 0)]],h8,(r6.2.2+1+1),[]⟩))
   (cond (Z0q r4.e .ret)
    ((Z0a r4.h r4.df).bind fun h5 =>
    some ⟨.ret,[.tuple #[r4.v 2,r4.v 3]],h5,r4.c,[]⟩)
    (none))))
 else none)
theorem Zi9 (o:Orc H) (t0 t1:Value) (h:H) (c:Nat):jx P o 52 none f25_c (Z0f (List.range 2) [t0,t1]) h c [] (Kfn P Try.f25.results.toList)=Zlm o t0 t1 h c:=by kernel_rfl
theorem f25_go {t0 t1:Value} {h:FH} {c:Nat} {df:List Nat} {r:Rt FH} (e:Zlm G t0 t1 h c=some r):G (.fn 25) [t0,t1] h c df=some r:=Z0d (a:=Zg1) bk_25 rfl (fun args h c=>by cases args <;> rfl) rfl ((Zi9 G t0 t1 h c).trans e)
noncomputable def Z6Q (o:Orc H) (rd:Option Nat) (t1 t5 t6 t7 t8 t9:Value) (h:H) (c:Nat) (df:List Nat):Option (Rt H) :=
 (Z00 P .lss 3 t9 (.int .i64 4)).bind fun t55 =>
 Z07 t55
 (((Z00 P .eql 3 t9 t7).bind fun t60 =>
  Z07 t60
   (some ⟨.normal,[t1,t5,t6,t7,t8,t9],h,(c+1+1),df⟩)
   ((Z06 t1 0).bind fun t61 =>
   (ld1 h t61).bind fun t62 =>
   (Z0X t62).bind fun t63 =>
   (Z00 P .mul 3 (.int .i64 7) t63).bind fun t64 =>
   (mkS 1 8 [(.int .i64 0)] t64 t64).bind fun r0 =>
   (Z06 t8 1).bind fun t67 =>
   (ixA 4 1 t67 t7).bind fun t68 =>
   (ld1 (newB h (256*(c+1+1)+4) r0.1) t68).bind fun t69 =>
   (Z06 t8 1).bind fun t71 =>
   (ixA 4 1 t71 t9).bind fun t72 =>
   (ld1 (newB h (256*(c+1+1)+4) r0.1) t72).bind fun t73 =>
   (Z00 P .mul 3 (.int .i64 7) t6).bind fun t76 =>
   (Z00 P .add 3 t76 t9).bind fun t78 =>
   (ixS 1 (.slice (some ⟨(256*(c+1+1)+4),0,none⟩) r0.2.1 r0.2.2) t78).bind fun t79 =>
   (ld1 (newB h (256*(c+1+1)+4) r0.1) t79).bind fun t80 =>
   (Z00 P .add 3 t80 (.int .i64 1)).bind fun t81 =>
   (ixS 1 (.slice (some ⟨(256*(c+1+1)+4),0,none⟩) r0.2.1 r0.2.2) t78).bind fun t82 =>
   (stN (newB h (256*(c+1+1)+4) r0.1) 1 t82 t81).bind fun h2 =>
   (Z00 P .mul 3 (.int .i64 7) t6).bind fun t85 =>
   (Z00 P .add 3 t85 (.int .i64 4)).bind fun t86 =>
   (callF o 20 [t9,t7] h2 (c+1+1+1+1+1+1+1)).bind fun r3 =>
   (Z00 P .add 3 t86 r3.1).bind fun t90 =>
   (ixS 1 (.slice (some ⟨(256*(c+1+1)+4),0,none⟩) r0.2.1 r0.2.2) t90).bind fun t91 =>
   (ld1 r3.2.1 t91).bind fun t92 =>
   (Z00 P .add 3 t92 (.int .i64 1)).bind fun t93 =>
   (ixS 1 (.slice (some ⟨(256*(c+1+1)+4),0,none⟩) r0.2.1 r0.2.2) t90).bind fun t94 =>
   (stN r3.2.1 1 t94 t93).bind fun h5 =>
   (Z06 t8 0).bind fun t96 =>
   (ld1 h5 t96).bind fun t97 =>
   (Z00 P .mul 3 (.int .i64 7) t97).bind fun t98 =>
   (Z00 P .add 3 t98 t73).bind fun t100 =>
   (ixS 1 (.slice (some ⟨(256*(c+1+1)+4),0,none⟩) r0.2.1 r0.2.2) t100).bind fun t101 =>
   (ld1 h5 t101).bind fun t102 =>
   (Z00 P .sub 3 t102 (.int .i64 1)).bind fun t103 =>
   (ixS 1 (.slice (some ⟨(256*(c+1+1)+4),0,none⟩) r0.2.1 r0.2.2) t100).bind fun t104 =>
   (stN h5 1 t104 t103).bind fun h7 =>
   (Z06 t8 0).bind fun t106 =>
   (ld1 h7 t106).bind fun t107 =>
   (Z00 P .mul 3 (.int .i64 7) t107).bind fun t108 =>
   (Z00 P .add 3 t108 (.int .i64 4)).bind fun t109 =>
   (callF o 20 [t73,t69] h7 (r3.2.2+1+1)).bind fun r8 =>
   (Z00 P .add 3 t109 r8.1).bind fun t113 =>
   (ixS 1 (.slice (some ⟨(256*(c+1+1)+4),0,none⟩) r0.2.1 r0.2.2) t113).bind fun t114 =>
   (ld1 r8.2.1 t114).bind fun t115 =>
   (Z00 P .sub 3 t115 (.int .i64 1)).bind fun t116 =>
   (ixS 1 (.slice (some ⟨(256*(c+1+1)+4),0,none⟩) r0.2.1 r0.2.2) t113).bind fun t117 =>
   (stN r8.2.1 1 t117 t116).bind fun h10 =>
   (bif (Z18 (Z2G t106) h7 r8.2.1 && true) then
   (Z2T [(.slice none 0 0)] [(0,1,(.slice (some ⟨(256*(c+1+1)+4),0,none⟩) r0.2.1 r0.2.2))]).bind fun r11 =>
   (Z7q (newB h10 (256*r8.2.2+2) r11) (256*r8.2.2+3) 1 24 t5 (.slice (some ⟨(256*r8.2.2+2),0,none⟩) 1 1)).bind fun r12 =>
   some ⟨.normal,[t1,r12.1,t6,t7,t8,t9],r12.2,(r8.2.2+1),df⟩
   else none)):Option (Rt H)).bind fun r14 =>
 cond (Z0q r14.e .normal)
  ((Z00 P .add 3 (r14.v 5) (.int .i64 1)).bind fun t57 =>
  some ⟨.normal,[r14.v 0,r14.v 1,r14.v 2,r14.v 3,r14.v 4,t57],r14.h,(r14.c+1),r14.df⟩)
  (none))
 (some ⟨(.exit 4),[t1,t5,t6,t7,t8,t9],h,(c+1),df⟩)
theorem Z5P (o:Orc H) (rd:Option Nat) (t1 t5 t6 t7 t8 t9:Value) (h:H) (c:Nat) (df:List Nat):jx P o 123 rd Z9w (Z0f [1,5,6,7,8,9] [t1,t5,t6,t7,t8,t9]) h c df (Klp [1,5,6,7,8,9])=Z6Q o rd t1 t5 t6 t7 t8 t9 h c df:=by kernel_rfl
noncomputable def Z6R (o:Orc H) (rd:Option Nat) (t1 t5 t6 t7:Value) (h:H) (c:Nat) (df:List Nat):Option (Rt H) :=
 (Z00 P .lss 3 t7 (.int .i64 4)).bind fun t26 =>
 Z07 t26
 (((Z06 t1 0).bind fun t29 =>
  (ld1 h t29).bind fun t30 =>
  (ixS 20 t30 t6).bind fun t33 =>
  (ixA 4 5 t33 t7).bind fun t34 =>
  (ldN h 5 t34).bind fun t35 =>
  (stN (newB h (256*(c+1)+7) [(.int .i64 0),(.int .i64 0),(.int .i64 0),(.int .i64 0),(.int .i64 0)]) 5 (ptrTo (256*(c+1)+7)) t35).bind fun h1 =>
  (Z06 (ptrTo (256*(c+1)+7)) 0).bind fun t36 =>
  (ld1 h1 t36).bind fun t37 =>
  (Z00 P .lss 3 t37 t6).bind fun t39 =>
  (gd t39 false h1 (c+1+1+1) (Z06 (ptrTo (256*(c+1)+7)) 0)).bind fun r2 =>
  (gd t39 false r2.2.1 r2.2.2 (ld1 r2.2.1 r2.1)).bind fun r3 =>
  (gd t39 false r3.2.1 r3.2.2 (some t6)).bind fun r4 =>
  (gd t39 false r4.2.1 r4.2.2 (Z00 P .eql 3 r3.1 r4.1)).bind fun r5 =>
  (gd t39 false r5.2.1 r5.2.2 (some r5.1)).bind fun r6 =>
  (gd r6.1 true r6.2.1 r6.2.2 (some t7)).bind fun r7 =>
  (gd r6.1 true r7.2.1 r7.2.2 (Z06 (ptrTo (256*(c+1)+7)) 1)).bind fun r8 =>
  (gd r6.1 true r8.2.1 r8.2.2 (ixA 4 1 r8.1 r7.1)).bind fun r9 =>
  (gd r6.1 true r9.2.1 r9.2.2 (ld1 r9.2.1 r9.1)).bind fun r10 =>
  (gd r6.1 true r10.2.1 r10.2.2 (some t7)).bind fun r11 =>
  (gd r6.1 true r11.2.1 r11.2.2 (Z00 P .lss 3 r10.1 r11.1)).bind fun r12 =>
  (gg t39 false r12.2.1 r12.2.2 (Zej r12.2.1 r12.2.2 r6.1 r12.1 (.bool false))).bind fun r13 =>
  (Z0D t39 (.bool true) r13.1).bind fun t53 =>
  Z07 t53
   (some ⟨.normal,[t1,t5,t6,t7],r13.2.1,r13.2.2,df⟩)
   ((o (ZcB rd) [t1,t5,t6,t7,(ptrTo (256*(c+1)+7)),(.int .i64 0)] r13.2.1 (r13.2.2+1) df).bind fun r14 =>
   cond (Z0q r14.e (.exit 4))
    (some ⟨.normal,[r14.v 0,r14.v 1,r14.v 2,r14.v 3],r14.h,r14.c,r14.df⟩)
    (none)):Option (Rt H)).bind fun r15 =>
 cond (Z0q r15.e .normal)
  ((Z00 P .add 3 (r15.v 3) (.int .i64 1)).bind fun t28 =>
  some ⟨.normal,[r15.v 0,r15.v 1,r15.v 2,t28],r15.h,(r15.c+1),r15.df⟩)
  (none))
 (some ⟨(.exit 2),[t1,t5,t6,t7],h,(c+1),df⟩)
theorem Z5Q (o:Orc H) (rd:Option Nat) (t1 t5 t6 t7:Value) (h:H) (c:Nat) (df:List Nat):jx P o 123 rd Z9x (Z0f [1,5,6,7] [t1,t5,t6,t7]) h c df (Klp [1,5,6,7])=Z6R o rd t1 t5 t6 t7 h c df:=by kernel_rfl
noncomputable def Z9z (o:Orc H) (rd:Option Nat) (t1 t5 t6:Value) (h:H) (c:Nat) (df:List Nat):Option (Rt H) :=
 (Z06 t1 0).bind fun t19 =>
 (ld1 h t19).bind fun t20 =>
 (Z0X t20).bind fun t21 =>
 (Z00 P .lss 3 t6 t21).bind fun t22 =>
 Z07 t22
 ((o (Z6P rd) [t1,t5,t6,(.int .i64 0)] h (c+1+1) df).bind fun r0 =>
 cond (Z0q r0.e (.exit 2))
  ((Z00 P .add 3 (r0.v 2) (.int .i64 1)).bind fun t24 =>
  some ⟨.normal,[r0.v 0,r0.v 1,t24],r0.h,(r0.c+1),r0.df⟩)
  (none))
 (some ⟨(.exit 0),[t1,t5,t6],h,(c+1),df⟩)
theorem Z86 (o:Orc H) (rd:Option Nat) (t1 t5 t6:Value) (h:H) (c:Nat) (df:List Nat):jx P o 123 rd Z9y (Z0f [1,5,6] [t1,t5,t6]) h c df (Klp [1,5,6])=Z9z o rd t1 t5 t6 h c df:=by kernel_rfl
noncomputable def Zrv (o:Orc H) (t0:Value) (h:H) (c:Nat):Option (Rt H) :=
 (bif (t0:Value).cells.toList.all Z0c then
 (ldN (newB h (256*c+0) (t0:Value).cells.toList) 1 (ptrTo (256*c+0))).bind fun t13 =>
 (callF o 58 [t13] (newB h (256*c+0) (t0:Value).cells.toList) (c+1+1)).bind fun r0 =>
 (Z00 P .neq 27 r0.1 (.int .i64 0)).bind fun t16 =>
 Z07 t16
 (some ⟨.ret,[.tuple #[(.slice none 0 0),r0.1]],r0.2.1,(r0.2.2+1+1),[]⟩)
 ((o (ZcC none) [(ptrTo (256*c+0)),(.slice none 0 0),(.int .i64 0)] r0.2.1 (r0.2.2+1+1+1) []).bind fun r1 =>
 cond (Z0q r1.e (.exit 0))
  ((Z0a r1.h r1.df).bind fun h2 =>
  some ⟨.ret,[.tuple #[r1.v 1,(.int .i64 0)]],h2,(r1.c+1),[]⟩)
  (none))
 else none)
theorem ZoU (o:Orc H) (t0:Value) (h:H) (c:Nat):jx P o 123 none f26_c (Z0f (List.range 1) [t0]) h c [] (Kfn P Try.f26.results.toList)=Zrv o t0 h c:=by kernel_rfl
theorem f26_go {t0:Value} {h:FH} {c:Nat} {df:List Nat} {r:Rt FH} (e:Zrv G t0 h c=some r):G (.fn 26) [t0] h c df=some r:=Z0d (a:=ZoT) bk_26 rfl (fun args h c=>by cases args <;> rfl) rfl ((ZoU G t0 h c).trans e)
noncomputable def Zru (o:Orc H) (t0 t1:Value) (h:H) (c:Nat):Option (Rt H) :=
 (bif (t0:Value).cells.toList.all Z0c then
 (ldN (newB h (256*c+0) (t0:Value).cells.toList) 1 (ptrTo (256*c+0))).bind fun t6 =>
 (callF o 58 [t6] (newB h (256*c+0) (t0:Value).cells.toList) (c+1+1)).bind fun r0 =>
 (Z00 P .neq 27 r0.1 (.int .i64 0)).bind fun t9 =>
 Z07 t9
 (some ⟨.ret,[r0.1],r0.2.1,(r0.2.2+1+1),[]⟩)
 ((ldN r0.2.1 1 (ptrTo (256*c+0))).bind fun t11 =>
 (callF o 61 [t11,t1] r0.2.1 (r0.2.2+1+1)).bind fun r1 =>
 (Z1i .not r1.1).bind fun t14 =>
 Z07 t14
  (some ⟨.ret,[(.int .i64 130)],r1.2.1,(r1.2.2+1),[]⟩)
  (some ⟨.ret,[(.int .i64 0)],r1.2.1,(r1.2.2+1),[]⟩))
 else none)
theorem ZoS (o:Orc H) (t0 t1:Value) (h:H) (c:Nat):jx P o 15 none f28_c (Z0f (List.range 2) [t0,t1]) h c [] (Kfn P Try.f28.results.toList)=Zru o t0 t1 h c:=by kernel_rfl
theorem f28_go {t0 t1:Value} {h:FH} {c:Nat} {df:List Nat} {r:Rt FH} (e:Zru G t0 t1 h c=some r):G (.fn 28) [t0,t1] h c df=some (gcR h c [] r):=Z0d (a:=ZoR) bk_28 rfl (fun args h c=>by cases args <;> rfl) rfl ((ZoS G t0 t1 h c).trans e)
noncomputable def Z9v (o:Orc H) (rd:Option Nat) (t0 t1 t5 t6:Value) (h:H) (c:Nat) (df:List Nat):Option (Rt H) :=
 (Z0X t0).bind fun t9 =>
 (Z00 P .lss 3 t6 t9).bind fun t10 =>
 Z07 t10
 ((ixS 1 t0 t6).bind fun t16 =>
 (ld1 h t16).bind fun t17 =>
 (ixS 1 t1 t6).bind fun t20 =>
 (ld1 h t20).bind fun t21 =>
 (Z00 P .mul 3 t17 t21).bind fun t22 =>
 (Z00 P .add 3 t5 t22).bind fun t23 =>
 (Z00 P .add 3 t6 (.int .i64 1)).bind fun t12 =>
 some ⟨.normal,[t0,t1,t23,t12],h,(c+1+1+1),df⟩)
 (some ⟨(.exit 0),[t0,t1,t5,t6],h,(c+1),df⟩)
theorem Z85 (o:Orc H) (rd:Option Nat) (t0 t1 t5 t6:Value) (h:H) (c:Nat) (df:List Nat):jx P o 25 rd Z9u (Z0f [0,1,5,6] [t0,t1,t5,t6]) h c df (Klp [0,1,5,6])=Z9v o rd t0 t1 t5 t6 h c df:=by kernel_rfl
noncomputable def Zrt (o:Orc H) (t0 t1:Value) (h:H) (c:Nat):Option (Rt H) :=
 (o (ZcA none) [t0,t1,(.int .i64 0),(.int .i64 0)] h (c+1+1+1) []).bind fun r0 =>
 cond (Z0q r0.e (.exit 0))
 ((Z0a r0.h r0.df).bind fun h1 =>
 some ⟨.ret,[r0.v 2],h1,(r0.c+1),[]⟩)
 (none)
theorem ZoQ (o:Orc H) (t0 t1:Value) (h:H) (c:Nat):jx P o 25 none f33_c (Z0f (List.range 2) [t0,t1]) h c [] (Kfn P Try.f33.results.toList)=Zrt o t0 t1 h c:=by kernel_rfl
theorem f33_go {t0 t1:Value} {h:FH} {c:Nat} {df:List Nat} {r:Rt FH} (e:Zrt G t0 t1 h c=some r):G (.fn 33) [t0,t1] h c df=some (gcR h c [] r):=Z0d (a:=ZoP) bk_33 rfl (fun args h c=>by cases args <;> rfl) rfl ((ZoQ G t0 t1 h c).trans e)
noncomputable def Z9t (o:Orc H) (rd:Option Nat) (t6 t7 t9 t24 t25:Value) (h:H) (c:Nat) (df:List Nat):Option (Rt H) :=
 (Z00 P .lss 3 t25 t24).bind fun t26 =>
 Z07 t26
 ((Z00 P .mul 3 (.int .i64 7) t25).bind fun t30 =>
 (Z00 P .add 3 t30 (.int .i64 4)).bind fun t31 =>
 (Z00 P .mul 3 (.int .i64 7) t25).bind fun t33 =>
 (Z00 P .add 3 t33 (.int .i64 7)).bind fun t34 =>
 (slS h 1 t9 (some t31) (some t34) none).bind fun t35 =>
 (callF o 56 [t35] h (c+1+1+1)).bind fun r0 =>
 (Z1i .not r0.1).bind fun t37 =>
 Z07 t37
  (some ⟨.ret,[(.slice none 0 0),(.int .i64 1),t9,t24,t25],r0.2.1,(r0.2.2+1),df⟩)
  ((Z00 P .add 3 t25 (.int .i64 1)).bind fun t38 =>
  some ⟨.normal,[t6,t7,t9,t24,t38],r0.2.1,(r0.2.2+1),df⟩))
 (some ⟨(.exit 0),[t6,t7,t9,t24,t25],h,(c+1),df⟩)
theorem Z84 (o:Orc H) (rd:Option Nat) (t6 t7 t9 t24 t25:Value) (h:H) (c:Nat) (df:List Nat):jx P o 43 rd Z9s (Z0f [6,7,9,24,25] [t6,t7,t9,t24,t25]) h c df (Klp [6,7,9,24,25])=Z9t o rd t6 t7 t9 t24 t25 h c df:=by kernel_rfl
noncomputable def Zrs (o:Orc H) (t0 t1 t2:Value) (h:H) (c:Nat):Option (Rt H) :=
 (bif (t0:Value).cells.toList.all Z0c then
 (ldN (newB h (256*c+0) (t0:Value).cells.toList) 1 (ptrTo (256*c+0))).bind fun t11 =>
 (Z2T [(.slice none 0 0),(.slice none 0 0)] [(0,1,t1),(1,1,t2)]).bind fun r0 =>
 (callF o 47 [t11,(.slice (some ⟨(256*(c+1)+3),0,none⟩) 2 2)] (newB (newB h (256*c+0) (t0:Value).cells.toList) (256*(c+1)+3) r0) (c+1+1)).bind fun r1 =>
 (Z00 P .neq 27 r1.1 (.int .i64 0)).bind fun t17 =>
 Z07 t17
 (some ⟨.ret,[.tuple #[(.slice none 0 0),r1.1]],r1.2.1,(r1.2.2+1+1),[]⟩)
 ((callF o 67 [t1,t2] r1.2.1 (r1.2.2+1+1)).bind fun r2 =>
 (Z06 (ptrTo (256*c+0)) 0).bind fun t22 =>
 (ld1 r2.2.1 t22).bind fun t23 =>
 (Z0X t23).bind fun t24 =>
 (o (Zcz none) [(.slice none 0 0),(.int .i64 0),r2.1,t24,(.int .i64 0)] r2.2.1 (r2.2.2+1) []).bind fun r3 =>
 cond (Z0q r3.e (.exit 0))
  ((callF o 55 [r3.v 2] r3.h (r3.c+1)).bind fun r5 =>
  (Z1i .not r5.1).bind fun t41 =>
  Z07 t41
   ((Z0a r5.2.1 r3.df).bind fun h6 =>
   some ⟨.ret,[.tuple #[(.slice none 0 0),(.int .i64 2)]],h6,(r5.2.2+1),[]⟩)
   ((Z0a r5.2.1 r3.df).bind fun h7 =>
   some ⟨.ret,[.tuple #[r3.v 2,(.int .i64 0)]],h7,(r5.2.2+1),[]⟩))
  (cond (Z0q r3.e .ret)
   ((Z0a r3.h r3.df).bind fun h4 =>
   some ⟨.ret,[.tuple #[r3.v 0,r3.v 1]],h4,r3.c,[]⟩)
   (none)))
 else none)
theorem ZoO (o:Orc H) (t0 t1 t2:Value) (h:H) (c:Nat):jx P o 43 none f34_c (Z0f (List.range 3) [t0,t1,t2]) h c [] (Kfn P Try.f34.results.toList)=Zrs o t0 t1 t2 h c:=by kernel_rfl
theorem f34_go {t0 t1 t2:Value} {h:FH} {c:Nat} {df:List Nat} {r:Rt FH} (e:Zrs G t0 t1 t2 h c=some r):G (.fn 34) [t0,t1,t2] h c df=some r:=Z0d (a:=ZoN) bk_34 rfl (fun args h c=>by cases args <;> rfl) rfl ((ZoO G t0 t1 t2 h c).trans e)
end Go.Proofs.Ytcnndelmnobigaa
