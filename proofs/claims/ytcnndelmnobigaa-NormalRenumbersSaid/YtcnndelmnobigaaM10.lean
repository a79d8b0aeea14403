/- Parts of a proof: S0 S1 S2. Conditions: none. -/
import Derived.Test.YtcnndelmnobigaaM9
set_option linter.all false
set_option maxRecDepth 100000
namespace Go.Proofs.Ytcnndelmnobigaa
open Go Go.Ab Go.Proofs
variable {H:Type} [HeapC H]
noncomputable def ZaZ (o:Orc H) (rd:Option Nat) (t1 t2 t3 t4 t9 t11 t12 t13 t14:Value) (h:H) (c:Nat) (df:List Nat):Option (Rt H) :=
 (Z00 P .lss 3 t14 (.int .i64 4)).bind fun t63 =>
 Z08 t63
 ((Z00 P .mul 3 (.int .i64 7) t12).bind fun t68 =>
 (Z00 P .add 3 t68 t14).bind fun t70 =>
 (ixS 1 t2 t12).bind fun t74 =>
 (ld1 h t74).bind fun t75 =>
 (Z00 P .mul 3 (.int .i64 7) t75).bind fun t76 =>
 (ixA 4 1 t13 t14).bind fun t78 =>
 (ld1 h t78).bind fun t79 =>
 (Z00 P .add 3 t76 t79).bind fun t80 =>
 (ixS 1 t1 t80).bind fun t81 =>
 (ld1 h t81).bind fun t82 =>
 (ixS 1 t11 t70).bind fun t83 =>
 (stN h 1 t83 t82).bind fun h1 =>
 (Z00 P .add 3 t14 (.int .i64 1)).bind fun t65 =>
 some ⟨.normal,[t1,t2,t3,t4,t9,t11,t12,t13,t65],h1,(c+1+1+1),df⟩)
 (some ⟨(.exit 2),[t1,t2,t3,t4,t9,t11,t12,t13,t14],h,(c+1),df⟩)
theorem Z8J (o:Orc H) (rd:Option Nat) (t1 t2 t3 t4 t9 t11 t12 t13 t14:Value) (h:H) (c:Nat) (df:List Nat):jx P o 162 rd ZaW (Z0j [1,2,3,4,9,11,12,13,14] [t1,t2,t3,t4,t9,t11,t12,t13,t14]) h c df (Klp [1,2,3,4,9,11,12,13,14])=ZaZ o rd t1 t2 t3 t4 t9 t11 t12 t13 t14 h c df:=by kernel_rfl
noncomputable def ZaY (o:Orc H) (rd:Option Nat) (t1 t2 t3 t4 t9 t11 t12 t13 t15:Value) (h:H) (c:Nat) (df:List Nat):Option (Rt H) :=
 (Z00 P .lss 3 t15 (.int .i64 3)).bind fun t85 =>
 Z08 t85
 ((Z00 P .mul 3 (.int .i64 7) t12).bind fun t90 =>
 (Z00 P .add 3 t90 (.int .i64 4)).bind fun t91 =>
 (Z00 P .add 3 t91 t15).bind fun t93 =>
 (ixS 1 t2 t12).bind fun t97 =>
 (ld1 h t97).bind fun t98 =>
 (Z00 P .mul 3 (.int .i64 7) t98).bind fun t99 =>
 (Z00 P .add 3 t99 (.int .i64 4)).bind fun t100 =>
 (ixA 4 1 t13 (.int .i64 0)).bind fun t101 =>
 (ld1 h t101).bind fun t102 =>
 (Z00 P .add 3 t15 (.int .i64 1)).bind fun t104 =>
 (ixA 4 1 t13 t104).bind fun t105 =>
 (ld1 h t105).bind fun t106 =>
 (callF o 20 [t102,t106] h (c+1+1)).bind fun r0 =>
 (Z00 P .add 3 t100 r0.1).bind fun t108 =>
 (ixS 1 t1 t108).bind fun t109 =>
 (ld1 r0.2.1 t109).bind fun t110 =>
 (ixS 1 t11 t93).bind fun t111 =>
 (stN r0.2.1 1 t111 t110).bind fun h2 =>
 (bif (Z1o (Z2A t97) h r0.2.1 && true) then
 (Z00 P .add 3 t15 (.int .i64 1)).bind fun t87 =>
 some ⟨.normal,[t1,t2,t3,t4,t9,t11,t12,t13,t87],h2,(r0.2.2+1),df⟩
 else none))
 (some ⟨(.exit 4),[t1,t2,t3,t4,t9,t11,t12,t13,t15],h,(c+1),df⟩)
theorem Z8I (o:Orc H) (rd:Option Nat) (t1 t2 t3 t4 t9 t11 t12 t13 t15:Value) (h:H) (c:Nat) (df:List Nat):jx P o 162 rd ZaV (Z0j [1,2,3,4,9,11,12,13,15] [t1,t2,t3,t4,t9,t11,t12,t13,t15]) h c df (Klp [1,2,3,4,9,11,12,13,15])=ZaY o rd t1 t2 t3 t4 t9 t11 t12 t13 t15 h c df:=by kernel_rfl
noncomputable def Zb0 (o:Orc H) (rd:Option Nat) (t1 t2 t3 t4 t9 t11 t12:Value) (h:H) (c:Nat) (df:List Nat):Option (Rt H) :=
 (Z1B t2).bind fun t54 =>
 (Z00 P .lss 3 t12 t54).bind fun t55 =>
 Z08 t55
 ((ixS 4 t3 t12).bind fun t60 =>
 (ldN h 4 t60).bind fun t61 =>
 (stN (newB h (256*(c+1)+4) [(.int .i64 0),(.int .i64 0),(.int .i64 0),(.int .i64 0)]) 4 (ptrTo (256*(c+1)+4)) t61).bind fun h1 =>
 (o (Zfc rd) [t1,t2,t3,t4,t9,t11,t12,(ptrTo (256*(c+1)+4)),(.int .i64 0)] h1 (c+1+1+1) df).bind fun r2 =>
 cond (Z0x r2.e (.exit 2))
  ((o (Zfb rd) [r2.v 0,r2.v 1,r2.v 2,r2.v 3,r2.v 4,r2.v 5,r2.v 6,r2.v 7,(.int .i64 0)] r2.h (r2.c+1) r2.df).bind fun r3 =>
  cond (Z0x r3.e (.exit 4))
   ((Z00 P .add 3 (r3.v 6) (.int .i64 1)).bind fun t57 =>
   some ⟨.normal,[r3.v 0,r3.v 1,r3.v 2,r3.v 3,r3.v 4,r3.v 5,t57],r3.h,(r3.c+1),r3.df⟩)
   (none))
  (none))
 (some ⟨(.exit 0),[t1,t2,t3,t4,t9,t11,t12],h,(c+1),df⟩)
theorem Z8K (o:Orc H) (rd:Option Nat) (t1 t2 t3 t4 t9 t11 t12:Value) (h:H) (c:Nat) (df:List Nat):jx P o 162 rd ZaX (Z0j [1,2,3,4,9,11,12] [t1,t2,t3,t4,t9,t11,t12]) h c df (Klp [1,2,3,4,9,11,12])=Zb0 o rd t1 t2 t3 t4 t9 t11 t12 h c df:=by kernel_rfl
noncomputable def f4_S (o:Orc H) (t0 t1 t2 t3:Value) (h:H) (c:Nat):Option (Rt H) :=
 (bif (t0:Value).cells.toList.all Z0d then
 (callF o 11 [] (newB h (256*c+0) (t0:Value).cells.toList) (c+1+1)).bind fun r0 =>
 (Z1t .not r0.1).bind fun t24 =>
 Z08 t24
 (some ⟨.ret,[(.bool false)],r0.2.1,(r0.2.2+1),[]⟩)
 ((ldN r0.2.1 1 (ptrTo (256*c+0))).bind fun t25 =>
 (callF o 12 [t25] r0.2.1 (r0.2.2+1)).bind fun r1 =>
 (Z1t .not r1.1).bind fun t27 =>
 (gd t27 false r1.2.1 r1.2.2 (some t1)).bind fun r2 =>
 (gg t27 false r2.2.1 r2.2.2 ((Z4Y [(.slice none 0 0)] [(0,1,r2.1)]).bind fun cs=>some (.slice (some ⟨(256*r0.2.2+5),0,none⟩) 1 1,newB r2.2.1 (256*r0.2.2+5) cs,r2.2.2))).bind fun r3 =>
 (gg t27 false r3.2.1 r3.2.2 (callF o 18 [r3.1] r3.2.1 r3.2.2)).bind fun r4 =>
 (gd t27 false r4.2.1 r4.2.2 (Z1t .not r4.1)).bind fun r5 =>
 (Z0v t27 (.bool true) r5.1).bind fun t33 =>
 (gd t33 false r5.2.1 r5.2.2 (ldN r5.2.1 1 (ptrTo (256*c+0)))).bind fun r6 =>
 (gd t33 false r6.2.1 r6.2.2 (some t1)).bind fun r7 =>
 (gg t33 false r7.2.1 r7.2.2 (callF o 17 [r6.1,r7.1] r7.2.1 r7.2.2)).bind fun r8 =>
 (gd t33 false r8.2.1 r8.2.2 (Z00 P .neq 27 r8.1 (.int .i64 0))).bind fun r9 =>
 (Z0v t33 (.bool true) r9.1).bind fun t39 =>
 Z08 t39
  (some ⟨.ret,[(.bool true)],r9.2.1,(r9.2.2+1),[]⟩)
  ((ldN r9.2.1 1 (ptrTo (256*c+0))).bind fun t41 =>
  (callF o 19 [t41,t2,t3] r9.2.1 (r9.2.2+1)).bind fun r10 =>
  (Z2q r10.1 0).bind fun t45 =>
  (Z2q r10.1 1).bind fun t46 =>
  (stN (newB r10.2.1 (256*r9.2.2+7) [(.slice none 0 0)]) 1 (ptrTo (256*r9.2.2+7)) t45).bind fun h12 =>
  (Z00 P .neq 27 t46 (.int .i64 0)).bind fun t48 =>
  Z08 t48
   (some ⟨.ret,[(.bool true)],h12,(r10.2.2+1+1),[]⟩)
   ((Z1B t1).bind fun t50 =>
   (mkS 1 8 [(.int .i64 0)] t50 t50).bind fun r13 =>
   (o (Zfd none) [t1,t2,t3,(ptrTo (256*c+0)),(ptrTo (256*r9.2.2+7)),(.slice (some ⟨(256*(r10.2.2+1)+2),0,none⟩) r13.2.1 r13.2.2),(.int .i64 0)] (newB h12 (256*(r10.2.2+1)+2) r13.1) (r10.2.2+1+1+1) []).bind fun r14 =>
   cond (Z0x r14.e (.exit 0))
    ((ldN r14.h 1 (r14.v 3)).bind fun t113 =>
    (callF o 15 [t113,r14.v 0] r14.h (r14.c+1)).bind fun r15 =>
    (Z2q r15.1 0).bind fun t116 =>
    (Z2q r15.1 1).bind fun t117 =>
    (ldN r15.2.1 1 (r14.v 4)).bind fun t119 =>
    (callF o 15 [t119,r14.v 5] r15.2.1 (r15.2.2+1)).bind fun r16 =>
    (Z2q r16.1 0).bind fun t122 =>
    (Z2q r16.1 1).bind fun t123 =>
    (ldN r16.2.1 1 (r14.v 3)).bind fun t125 =>
    (callF o 16 [t125,r14.v 0] r16.2.1 (r16.2.2+1)).bind fun r17 =>
    (Z2q r17.1 0).bind fun t128 =>
    (Z2q r17.1 1).bind fun t129 =>
    (ldN r17.2.1 1 (r14.v 4)).bind fun t131 =>
    (callF o 16 [t131,r14.v 5] r17.2.1 (r17.2.2+1)).bind fun r18 =>
    (Z2q r18.1 0).bind fun t134 =>
    (Z2q r18.1 1).bind fun t135 =>
    (Z00 P .eql 27 t117 (.int .i64 0)).bind fun t137 =>
    (gd t137 true r18.2.1 (r18.2.2+1) (some t123)).bind fun r19 =>
    (gd t137 true r19.2.1 r19.2.2 (Z00 P .eql 27 r19.1 (.int .i64 0))).bind fun r20 =>
    (Z0v t137 r20.1 (.bool false)).bind fun t141 =>
    (gd t141 true r20.2.1 r20.2.2 (some t129)).bind fun r21 =>
    (gd t141 true r21.2.1 r21.2.2 (Z00 P .eql 27 r21.1 (.int .i64 0))).bind fun r22 =>
    (Z0v t141 r22.1 (.bool false)).bind fun t145 =>
    (gd t145 true r22.2.1 r22.2.2 (some t135)).bind fun r23 =>
    (gd t145 true r23.2.1 r23.2.2 (Z00 P .eql 27 r23.1 (.int .i64 0))).bind fun r24 =>
    (Z0v t145 r24.1 (.bool false)).bind fun t149 =>
    (gd t149 true r24.2.1 r24.2.2 (some t116)).bind fun r25 =>
    (gd t149 true r25.2.1 r25.2.2 (some t122)).bind fun r26 =>
    (gd t149 true r26.2.1 r26.2.2 (Z00 P .eql 3 r25.1 r26.1)).bind fun r27 =>
    (Z0v t149 r27.1 (.bool false)).bind fun t154 =>
    (gd t154 true r27.2.1 r27.2.2 (some t128)).bind fun r28 =>
    (gg t154 true r28.2.1 r28.2.2 (callF o 22 [r28.1] r28.2.1 r28.2.2)).bind fun r29 =>
    (gd t154 true r29.2.1 r29.2.2 (some t134)).bind fun r30 =>
    (gg t154 true r30.2.1 r30.2.2 (callF o 22 [r30.1] r30.2.1 r30.2.2)).bind fun r31 =>
    (gg t154 true r31.2.1 r31.2.2 (callF o 21 [r29.1,r31.1] r31.2.1 r31.2.2)).bind fun r32 =>
    (Z0v t154 r32.1 (.bool false)).bind fun t161 =>
    (Z09 r32.2.1 r14.df).bind fun h33 =>
    some ⟨.ret,[t161],h33,r32.2.2,[]⟩)
    (none))))
 else none)
theorem ZnQ (o:Orc H) (t0 t1 t2 t3:Value) (h:H) (c:Nat):jx P o 162 none f4_c (Z0j (List.range 4) [t0,t1,t2,t3]) h c [] (Kfn P Try.f4.results.toList)=f4_S o t0 t1 t2 t3 h c:=by kernel_rfl
theorem f4_go {t0 t1 t2 t3:Value} {h:FH} {c:Nat} {df:List Nat} {r:Rt FH} (e:f4_S G t0 t1 t2 t3 h c=some r):G (.fn 4) [t0,t1,t2,t3] h c df=some (gcR h c [] r):=Z0h (a:=f4_f) bk_4 rfl (fun args h c=>by cases args <;> rfl) rfl ((ZnQ G t0 t1 t2 t3 h c).trans e)
noncomputable def Zo1 (o:Orc H) (h:H) (c:Nat):Option (Rt H) :=
 (callF o 40 [(.string (ByteArray.mk #[49,32,48,32,49,48,50,51,32,48,32,49,48,50,51,32,48,32,48,49,51,50,32,48,32,48,49,51,50]))] h (c+1+1)).bind fun r0 =>
 (Z2q r0.1 0).bind fun t20 =>
 (Z2q r0.1 1).bind fun t21 =>
 (stN (newB r0.2.1 (256*(c+1)+4) [(.slice none 0 0)]) 1 (ptrTo (256*(c+1)+4)) t20).bind fun h2 =>
 (Z4Y [(.int .i64 0),(.int .i64 0),(.int .i64 0),(.int .i64 0),(.int .i64 0),(.int .i64 0),(.int .i64 0)] [(0,1,(.int .i64 0)),(1,1,(.int .i64 0)),(2,1,(.int .i64 0)),(3,1,(.int .i64 0)),(4,1,(.int .i64 1)),(5,1,(.int .i64 0)),(6,1,(.int .i64 0))]).bind fun r3 =>
 (ldN (newB h2 (256*r0.2.2+0) r3) 1 (ptrTo (256*(c+1)+4))).bind fun t24 =>
 (callF o 14 [t24] (newB h2 (256*r0.2.2+0) r3) (r0.2.2+1+1)).bind fun r4 =>
 (Z2q r4.1 0).bind fun t26 =>
 (Z2q r4.1 1).bind fun t27 =>
 (Z00 P .neq 27 t27 (.int .i64 0)).bind fun t29 =>
 (gd t29 false r4.2.1 (r4.2.2+1) (some t26)).bind fun r5 =>
 (gg t29 false r5.2.1 r5.2.2 (((Z1B r5.1).bind fun v=>some (v,r5.2.1)).bind fun r=>some (r.1,r.2,r5.2.2))).bind fun r6 =>
 (gd t29 false r6.2.1 r6.2.2 (Z00 P .neq 3 r6.1 (.int .i64 2))).bind fun r7 =>
 (Z0v t29 (.bool true) r7.1).bind fun t34 =>
 (gd t34 false r7.2.1 r7.2.2 (some t26)).bind fun r8 =>
 (gd t34 false r8.2.1 r8.2.2 (ixS 1 r8.1 (.int .i64 0))).bind fun r9 =>
 (gd t34 false r9.2.1 r9.2.2 (ld1 r9.2.1 r9.1)).bind fun r10 =>
 (gg t34 false r10.2.1 r10.2.2 ((Z4Y [(.int .i64 0),(.int .i64 0),(.int .i64 0),(.int .i64 0),(.int .i64 0),(.int .i64 0),(.int .i64 0)] [(0,1,(.int .i64 1)),(1,1,(.int .i64 1)),(2,1,(.int .i64 0)),(3,1,(.int .i64 0)),(4,1,(.int .i64 0)),(5,1,(.int .i64 0)),(6,1,(.int .i64 0))]).bind fun cs=>some (.slice (some ⟨(256*r4.2.2+11),0,none⟩) 7 7,newB r10.2.1 (256*r4.2.2+11) cs,r10.2.2))).bind fun r11 =>
 (gg t34 false r11.2.1 r11.2.2 (callF o 21 [r10.1,r11.1] r11.2.1 r11.2.2)).bind fun r12 =>
 (gd t34 false r12.2.1 r12.2.2 (Z1t .not r12.1)).bind fun r13 =>
 (Z0v t34 (.bool true) r13.1).bind fun t42 =>
 (gd t42 false r13.2.1 r13.2.2 (some t26)).bind fun r14 =>
 (gd t42 false r14.2.1 r14.2.2 (ixS 1 r14.1 (.int .i64 1))).bind fun r15 =>
 (gd t42 false r15.2.1 r15.2.2 (ld1 r15.2.1 r15.1)).bind fun r16 =>
 (gg t42 false r16.2.1 r16.2.2 ((Z4Y [(.int .i64 0),(.int .i64 0),(.int .i64 0),(.int .i64 0),(.int .i64 0),(.int .i64 0),(.int .i64 0)] [(0,1,(.int .i64 0)),(1,1,(.int .i64 0)),(2,1,(.int .i64 1)),(3,1,(.int .i64 1)),(4,1,(.int .i64 0)),(5,1,(.int .i64 0)),(6,1,(.int .i64 0))]).bind fun cs=>some (.slice (some ⟨(256*r4.2.2+19),0,none⟩) 7 7,newB r16.2.1 (256*r4.2.2+19) cs,r16.2.2))).bind fun r17 =>
 (gg t42 false r17.2.1 r17.2.2 (callF o 21 [r16.1,r17.1] r17.2.1 r17.2.2)).bind fun r18 =>
 (gd t42 false r18.2.1 r18.2.2 (Z1t .not r18.1)).bind fun r19 =>
 (Z0v t42 (.bool true) r19.1).bind fun t50 =>
 Z08 t50
 (some ⟨.ret,[(.bool false)],r19.2.1,(r19.2.2+1),[]⟩)
 ((ldN r19.2.1 1 (ptrTo (256*(c+1)+4))).bind fun t52 =>
 (ixS 1 t26 (.int .i64 0)).bind fun t54 =>
 (ld1 r19.2.1 t54).bind fun t55 =>
 (callF o 15 [t52,t55] r19.2.1 (r19.2.2+1)).bind fun r20 =>
 (Z2q r20.1 0).bind fun t57 =>
 (Z2q r20.1 1).bind fun t58 =>
 (ldN r20.2.1 1 (ptrTo (256*(c+1)+4))).bind fun t60 =>
 (ixS 1 t26 (.int .i64 1)).bind fun t62 =>
 (ld1 r20.2.1 t62).bind fun t63 =>
 (callF o 15 [t60,t63] r20.2.1 (r20.2.2+1)).bind fun r21 =>
 (Z2q r21.1 0).bind fun t65 =>
 (Z2q r21.1 1).bind fun t66 =>
 (ldN r21.2.1 1 (ptrTo (256*(c+1)+4))).bind fun t68 =>
 (ixS 1 t26 (.int .i64 0)).bind fun t70 =>
 (ld1 r21.2.1 t70).bind fun t71 =>
 (callF o 16 [t68,t71] r21.2.1 (r21.2.2+1)).bind fun r22 =>
 (Z2q r22.1 0).bind fun t73 =>
 (Z2q r22.1 1).bind fun t74 =>
 (ldN r22.2.1 1 (ptrTo (256*(c+1)+4))).bind fun t76 =>
 (callF o 16 [t76,(.slice (some ⟨(256*r0.2.2+0),0,none⟩) 7 7)] r22.2.1 (r22.2.2+1)).bind fun r23 =>
 (Z2q r23.1 0).bind fun t79 =>
 (Z2q r23.1 1).bind fun t80 =>
 (ldN r23.2.1 1 (ptrTo (256*(c+1)+4))).bind fun t82 =>
 (callF o 15 [t82,(.slice (some ⟨(256*r0.2.2+0),0,none⟩) 7 7)] r23.2.1 (r23.2.2+1)).bind fun r24 =>
 (Z2q r24.1 0).bind fun t85 =>
 (Z2q r24.1 1).bind fun t86 =>
 (Z00 P .neq 27 t58 (.int .i64 0)).bind fun t88 =>
 (gd t88 false r24.2.1 (r24.2.2+1) (some t66)).bind fun r25 =>
 (gd t88 false r25.2.1 r25.2.2 (Z00 P .neq 27 r25.1 (.int .i64 0))).bind fun r26 =>
 (Z0v t88 (.bool true) r26.1).bind fun t92 =>
 (gd t92 false r26.2.1 r26.2.2 (some t74)).bind fun r27 =>
 (gd t92 false r27.2.1 r27.2.2 (Z00 P .neq 27 r27.1 (.int .i64 0))).bind fun r28 =>
 (Z0v t92 (.bool true) r28.1).bind fun t96 =>
 (gd t96 false r28.2.1 r28.2.2 (some t80)).bind fun r29 =>
 (gd t96 false r29.2.1 r29.2.2 (Z00 P .neq 27 r29.1 (.int .i64 0))).bind fun r30 =>
 (Z0v t96 (.bool true) r30.1).bind fun t100 =>
 (gd t100 false r30.2.1 r30.2.2 (some t86)).bind fun r31 =>
 (gd t100 false r31.2.1 r31.2.2 (Z00 P .neq 27 r31.1 (.int .i64 0))).bind fun r32 =>
 (Z0v t100 (.bool true) r32.1).bind fun t104 =>
 (gd t104 false r32.2.1 r32.2.2 (some t57)).bind fun r33 =>
 (gd t104 false r33.2.1 r33.2.2 (Z00 P .neq 3 r33.1 (.int .i64 2))).bind fun r34 =>
 (Z0v t104 (.bool true) r34.1).bind fun t108 =>
 (gd t108 false r34.2.1 r34.2.2 (some t65)).bind fun r35 =>
 (gd t108 false r35.2.1 r35.2.2 (Z00 P .neq 3 r35.1 (.int .i64 2))).bind fun r36 =>
 (Z0v t108 (.bool true) r36.1).bind fun t112 =>
 (gd t112 false r36.2.1 r36.2.2 (some t85)).bind fun r37 =>
 (gd t112 false r37.2.1 r37.2.2 (Z00 P .neq 3 r37.1 (.int .i64 0))).bind fun r38 =>
 (Z0v t112 (.bool true) r38.1).bind fun t116 =>
 (gd t116 false r38.2.1 r38.2.2 (some t73)).bind fun r39 =>
 (gg t116 false r39.2.1 r39.2.2 ((Z4Y [(.int .i64 0),(.int .i64 0),(.int .i64 0)] [(0,1,(.int .i64 2)),(1,1,(.int .i64 1)),(2,1,(.int .i64 0))]).bind fun cs=>some (.slice (some ⟨(256*r24.2.2+32),0,none⟩) 3 3,newB r39.2.1 (256*r24.2.2+32) cs,r39.2.2))).bind fun r40 =>
 (gg t116 false r40.2.1 r40.2.2 (callF o 21 [r39.1,r40.1] r40.2.1 r40.2.2)).bind fun r41 =>
 (gd t116 false r41.2.1 r41.2.2 (Z1t .not r41.1)).bind fun r42 =>
 (Z0v t116 (.bool true) r42.1).bind fun t122 =>
 (gd t122 false r42.2.1 r42.2.2 (some t79)).bind fun r43 =>
 (gg t122 false r43.2.1 r43.2.2 ((Z4Y [(.int .i64 0),(.int .i64 0),(.int .i64 0)] [(0,1,(.int .i64 0)),(1,1,(.int .i64 1)),(2,1,(.int .i64 0))]).bind fun cs=>some (.slice (some ⟨(256*r24.2.2+38),0,none⟩) 3 3,newB r43.2.1 (256*r24.2.2+38) cs,r43.2.2))).bind fun r44 =>
 (gg t122 false r44.2.1 r44.2.2 (callF o 21 [r43.1,r44.1] r44.2.1 r44.2.2)).bind fun r45 =>
 (gd t122 false r45.2.1 r45.2.2 (Z1t .not r45.1)).bind fun r46 =>
 (Z0v t122 (.bool true) r46.1).bind fun t128 =>
 Z08 t128
  (some ⟨.ret,[(.bool false)],r46.2.1,(r46.2.2+1),[]⟩)
  ((ldN r46.2.1 1 (ptrTo (256*(c+1)+4))).bind fun t130 =>
  (Z4Y [(.int .i64 0),(.int .i64 0),(.int .i64 0)] [(0,1,(.int .i64 1)),(1,1,(.int .i64 0)),(2,1,(.int .i64 0))]).bind fun r47 =>
  (callF o 25 [t130,(.slice (some ⟨(256*r46.2.2+1),0,none⟩) 3 3)] (newB r46.2.1 (256*r46.2.2+1) r47) (r46.2.2+1)).bind fun r48 =>
  (Z2q r48.1 0).bind fun t133 =>
  (Z2q r48.1 1).bind fun t134 =>
  (ldN r48.2.1 1 (ptrTo (256*(c+1)+4))).bind fun t136 =>
  (Z4Y [(.int .i64 0),(.int .i64 0),(.int .i64 0),(.int .i64 0),(.int .i64 0),(.int .i64 0),(.int .i64 0)] [(0,1,(.int .i64 3)),(1,1,(.int .i64 3)),(2,1,(.int .i64 1)),(3,1,(.int .i64 1)),(4,1,(.int .i64 2)),(5,1,(.int .i64 0)),(6,1,(.int .i64 0))]).bind fun r49 =>
  (callF o 23 [t136,(.slice (some ⟨(256*r48.2.2+1),0,none⟩) 7 7)] (newB r48.2.1 (256*r48.2.2+1) r49) (r48.2.2+1)).bind fun r50 =>
  (Z2q r50.1 0).bind fun t139 =>
  (Z2q r50.1 1).bind fun t140 =>
  (Z2q r50.1 2).bind fun t141 =>
  (Z00 P .eql 27 t134 (.int .i64 0)).bind fun t143 =>
  (gd t143 true r50.2.1 (r50.2.2+1) (some t141)).bind fun r51 =>
  (gd t143 true r51.2.1 r51.2.2 (Z00 P .eql 27 r51.1 (.int .i64 0))).bind fun r52 =>
  (Z0v t143 r52.1 (.bool false)).bind fun t147 =>
  (gd t147 true r52.2.1 r52.2.2 (some t133)).bind fun r53 =>
  (gd t147 true r53.2.1 r53.2.2 (some (.slice (some ⟨(256*r0.2.2+0),0,none⟩) 7 7))).bind fun r54 =>
  (gg t147 true r54.2.1 r54.2.2 (callF o 21 [r53.1,r54.1] r54.2.1 r54.2.2)).bind fun r55 =>
  (Z0v t147 r55.1 (.bool false)).bind fun t152 =>
  (gd t152 true r55.2.1 r55.2.2 (some t139)).bind fun r56 =>
  (gg t152 true r56.2.1 r56.2.2 ((Z4Y [(.int .i64 0),(.int .i64 0)] [(0,1,(.int .i64 3)),(1,1,(.int .i64 1))]).bind fun cs=>some (.slice (some ⟨(256*r50.2.2+13),0,none⟩) 2 2,newB r56.2.1 (256*r50.2.2+13) cs,r56.2.2))).bind fun r57 =>
  (gg t152 true r57.2.1 r57.2.2 (callF o 21 [r56.1,r57.1] r57.2.1 r57.2.2)).bind fun r58 =>
  (Z0v t152 r58.1 (.bool false)).bind fun t157 =>
  (gd t157 true r58.2.1 r58.2.2 (some t140)).bind fun r59 =>
  (gg t157 true r59.2.1 r59.2.2 ((Z4Y [(.int .i64 0),(.int .i64 0),(.int .i64 0),(.int .i64 0),(.int .i64 0),(.int .i64 0),(.int .i64 0)] [(0,1,(.int .i64 0)),(1,1,(.int .i64 0)),(2,1,(.int .i64 0)),(3,1,(.int .i64 0)),(4,1,(.int .i64 2)),(5,1,(.int .i64 0)),(6,1,(.int .i64 0))]).bind fun cs=>some (.slice (some ⟨(256*r50.2.2+18),0,none⟩) 7 7,newB r59.2.1 (256*r50.2.2+18) cs,r59.2.2))).bind fun r60 =>
  (gg t157 true r60.2.1 r60.2.2 (callF o 21 [r59.1,r60.1] r60.2.1 r60.2.2)).bind fun r61 =>
  (Z0v t157 r61.1 (.bool false)).bind fun t162 =>
  (gd t162 true r61.2.1 r61.2.2 (ldN r61.2.1 1 (ptrTo (256*(c+1)+4)))).bind fun r62 =>
  (gd t162 true r62.2.1 r62.2.2 (some (.slice (some ⟨(256*r0.2.2+0),0,none⟩) 7 7))).bind fun r63 =>
  (gg t162 true r63.2.1 r63.2.2 (callF o 17 [r62.1,r63.1] r63.2.1 r63.2.2)).bind fun r64 =>
  (gd t162 true r64.2.1 r64.2.2 (Z00 P .eql 27 r64.1 (.int .i64 0))).bind fun r65 =>
  (Z0v t162 r65.1 (.bool false)).bind fun t168 =>
  (gd t168 true r65.2.1 r65.2.2 (ldN r65.2.1 1 (ptrTo (256*(c+1)+4)))).bind fun r66 =>
  (gg t168 true r66.2.1 r66.2.2 ((Z4Y [(.int .i64 0),(.int .i64 0),(.int .i64 0),(.int .i64 0),(.int .i64 0),(.int .i64 0),(.int .i64 0)] [(0,1,(.int .i64 0)),(1,1,(.int .i64 0)),(2,1,(.int .i64 0)),(3,1,(.int .i64 0)),(4,1,(.int .i64 0)),(5,1,(.int .i64 1)),(6,1,(.int .i64 0))]).bind fun cs=>some (.slice (some ⟨(256*r50.2.2+29),0,none⟩) 7 7,newB r66.2.1 (256*r50.2.2+29) cs,r66.2.2))).bind fun r67 =>
  (gg t168 true r67.2.1 r67.2.2 (callF o 17 [r66.1,r67.1] r67.2.1 r67.2.2)).bind fun r68 =>
  (gd t168 true r68.2.1 r68.2.2 (Z00 P .eql 27 r68.1 (.int .i64 130))).bind fun r69 =>
  (Z0v t168 r69.1 (.bool false)).bind fun t174 =>
  some ⟨.ret,[t174],r69.2.1,r69.2.2,[]⟩))
theorem ZlV (o:Orc H) (h:H) (c:Nat):jx P o 175 none f11_c (Z0j (List.range 0) []) h c [] (Kfn P Try.f11.results.toList)=Zo1 o h c:=by kernel_rfl
noncomputable def Zo0 (o:Orc H) (t0:Value) (h:H) (c:Nat):Option (Rt H) :=
 (bif (t0:Value).cells.toList.all Z0d then
 (Z04 (ptrTo (256*c+0)) 0).bind fun t3 =>
 (ld1 (newB h (256*c+0) (t0:Value).cells.toList) t3).bind fun t4 =>
 (Z1B t4).bind fun t5 =>
 (Z00 P .leq 3 t5 (.int .i64 6)).bind fun t6 =>
 some ⟨.ret,[t6],(newB h (256*c+0) (t0:Value).cells.toList),(c+1+1),[]⟩
 else none)
theorem ZlU (o:Orc H) (t0:Value) (h:H) (c:Nat):jx P o 7 none f12_c (Z0j (List.range 1) [t0]) h c [] (Kfn P Try.f12.results.toList)=Zo0 o t0 h c:=by kernel_rfl
theorem f12_go {t0:Value} {h:FH} {c:Nat} {df:List Nat} {r:Rt FH} (e:Zo0 G t0 h c=some r):G (.fn 12) [t0] h c df=some (gcR h c [] r):=Z0h (a:=ZlT) bk_12 rfl (fun args h c=>by cases args <;> rfl) rfl ((ZlU G t0 h c).trans e)

variable {H:Type} [HeapC H]
noncomputable def Z1L (o:Orc H) (rd:Option Nat) (t1 t2 t3 t4 t5:Value) (h:H) (c:Nat) (df:List Nat):Option (Rt H) :=
 (Z00 P .lss 3 t5 (.int .i64 4)).bind fun t18 =>
 Z08 t18
 (((Z04 t1 0).bind fun t21 =>
  (ld1 h t21).bind fun t22 =>
  (ixS 20 t22 t4).bind fun t25 =>
  (ixA 4 5 t25 t5).bind fun t26 =>
  (ldN h 5 t26).bind fun t27 =>
  (stN (newB h (256*(c+1)+7) [(.int .i64 0),(.int .i64 0),(.int .i64 0),(.int .i64 0),(.int .i64 0)]) 5 (ptrTo (256*(c+1)+7)) t27).bind fun h1 =>
  (Z04 (ptrTo (256*(c+1)+7)) 0).bind fun t28 =>
  (ld1 h1 t28).bind fun t29 =>
  (Z00 P .eql 3 t29 (.int .i64 (-1))).bind fun t30 =>
  (gd t30 true h1 (c+1+1+1) (Z04 (ptrTo (256*(c+1)+7)) 1)).bind fun r2 =>
  (gd t30 true r2.2.1 r2.2.2 (ldN r2.2.1 4 r2.1)).bind fun r3 =>
  (gd t30 true r3.2.1 r3.2.2 (Z3A [(.int .i64 0),(.int .i64 0),(.int .i64 0),(.int .i64 0)] [])).bind fun r4 =>
  (gd t30 true r4.2.1 r4.2.2 (Z00 P .eql 39 r3.1 r4.1)).bind fun r5 =>
  (Z0v t30 r5.1 (.bool false)).bind fun t36 =>
  Z08 t36
   (some ⟨.normal,[t1,t2,t3,t4,t5],r5.2.1,r5.2.2,df⟩)
   ((Z04 (ptrTo (256*(c+1)+7)) 0).bind fun t37 =>
   (ld1 r5.2.1 t37).bind fun t38 =>
   (Z00 P .lss 3 t38 (.int .i64 0)).bind fun t39 =>
   (gd t39 false r5.2.1 (r5.2.2+1) (Z04 (ptrTo (256*(c+1)+7)) 0)).bind fun r6 =>
   (gd t39 false r6.2.1 r6.2.2 (ld1 r6.2.1 r6.1)).bind fun r7 =>
   (gd t39 false r7.2.1 r7.2.2 (some t3)).bind fun r8 =>
   (gd t39 false r8.2.1 r8.2.2 (Z00 P .geq 3 r7.1 r8.1)).bind fun r9 =>
   (Z0v t39 (.bool true) r9.1).bind fun t45 =>
   (gd t45 false r9.2.1 r9.2.2 (Z04 (ptrTo (256*(c+1)+7)) 1)).bind fun r10 =>
   (gd t45 false r10.2.1 r10.2.2 (ldN r10.2.1 4 r10.1)).bind fun r11 =>
   (gg t45 false r11.2.1 r11.2.2 (callF o 41 [r11.1] r11.2.1 r11.2.2)).bind fun r12 =>
   (gd t45 false r12.2.1 r12.2.2 (Z1t .not r12.1)).bind fun r13 =>
   (Z0v t45 (.bool true) r13.1).bind fun t51 =>
   (gd t51 false r13.2.1 r13.2.2 (Z04 (ptrTo (256*(c+1)+7)) 0)).bind fun r14 =>
   (gd t51 false r14.2.1 r14.2.2 (ld1 r14.2.1 r14.1)).bind fun r15 =>
   (gd t51 false r15.2.1 r15.2.2 (some t4)).bind fun r16 =>
   (gd t51 false r16.2.1 r16.2.2 (Z00 P .eql 3 r15.1 r16.1)).bind fun r17 =>
   (gd t51 false r17.2.1 r17.2.2 (some r17.1)).bind fun r18 =>
   (gd r18.1 true r18.2.1 r18.2.2 (some t5)).bind fun r19 =>
   (gd r18.1 true r19.2.1 r19.2.2 (Z04 (ptrTo (256*(c+1)+7)) 1)).bind fun r20 =>
   (gd r18.1 true r20.2.1 r20.2.2 (ixA 4 1 r20.1 r19.1)).bind fun r21 =>
   (gd r18.1 true r21.2.1 r21.2.2 (ld1 r21.2.1 r21.1)).bind fun r22 =>
   (gd r18.1 true r22.2.1 r22.2.2 (some t5)).bind fun r23 =>
   (gd r18.1 true r23.2.1 r23.2.2 (Z00 P .eql 3 r22.1 r23.1)).bind fun r24 =>
   (gg t51 false r24.2.1 r24.2.2 (Zco r24.2.1 r24.2.2 r18.1 r24.1 (.bool false))).bind fun r25 =>
   (Z0v t51 (.bool true) r25.1).bind fun t65 =>
   Z08 t65
    (some ⟨.ret,[t1,(.int .i64 7),t3,t4,t5],r25.2.1,(r25.2.2+1),df⟩)
    ((Z04 t1 0).bind fun t66 =>
    (ld1 r25.2.1 t66).bind fun t67 =>
    (Z04 (ptrTo (256*(c+1)+7)) 0).bind fun t68 =>
    (ld1 r25.2.1 t68).bind fun t69 =>
    (Z04 (ptrTo (256*(c+1)+7)) 1).bind fun t71 =>
    (ixA 4 1 t71 t5).bind fun t72 =>
    (ld1 r25.2.1 t72).bind fun t73 =>
    (ixS 20 t67 t69).bind fun t74 =>
    (ixA 4 5 t74 t73).bind fun t75 =>
    (ldN r25.2.1 5 t75).bind fun t76 =>
    (Z04 (ptrTo (256*(c+1)+7)) 1).bind fun t78 =>
    (ldN r25.2.1 4 t78).bind fun t79 =>
    (callF o 42 [t79] r25.2.1 (r25.2.2+1)).bind fun r27 =>
    (Z3A [(.int .i64 0),(.int .i64 0),(.int .i64 0),(.int .i64 0),(.int .i64 0)] [(0,1,t4),(1,4,r27.1)]).bind fun t81 =>
    (Z00 P .neq 41 t76 t81).bind fun t82 =>
    (bif (Z1o (Z2A t66) r25.2.1 r27.2.1 && (Z1o (Z2A t68) r25.2.1 r27.2.1 && (Z1o (Z2A t72) r25.2.1 r27.2.1 && (Z1o (Z2A t75) r25.2.1 r27.2.1 && true)))) then
    Z08 t82
     (some ⟨.ret,[t1,(.int .i64 7),t3,t4,t5],r27.2.1,(r27.2.2+1),df⟩)
     (some ⟨.normal,[t1,t2,t3,t4,t5],r27.2.1,r27.2.2,df⟩)
    else none))):Option (Rt H)).bind fun r29 =>
 cond (Z0x r29.e .normal)
  ((Z00 P .add 3 (r29.v 4) (.int .i64 1)).bind fun t20 =>
  some ⟨.normal,[r29.v 0,r29.v 1,r29.v 2,r29.v 3,t20],r29.h,(r29.c+1),r29.df⟩)
  (cond (Z0x r29.e .ret)
   (some ⟨.ret,[r29.v 0,r29.v 1,r29.v 2,r29.v 3,r29.v 4],r29.h,r29.c,r29.df⟩)
   (none)))
 (some ⟨(.exit 2),[t1,t2,t3,t4,t5],h,(c+1),df⟩)
theorem Z4T (o:Orc H) (rd:Option Nat) (t1 t2 t3 t4 t5:Value) (h:H) (c:Nat) (df:List Nat):jx P o 83 rd Z3o (Z0j [1,2,3,4,5] [t1,t2,t3,t4,t5]) h c df (Klp [1,2,3,4,5])=Z1L o rd t1 t2 t3 t4 t5 h c df:=by kernel_rfl
noncomputable def Z1e (o:Orc H) (rd:Option Nat) (t1 t2 t3 t4:Value) (h:H) (c:Nat) (df:List Nat):Option (Rt H) :=
 (Z00 P .lss 3 t4 t3).bind fun t14 =>
 Z08 t14
 ((o (Z3m rd) [t1,t2,t3,t4,(.int .i64 0)] h (c+1+1) df).bind fun r0 =>
 cond (Z0x r0.e (.exit 2))
  ((Z00 P .add 3 (r0.v 3) (.int .i64 1)).bind fun t16 =>
  some ⟨.normal,[r0.v 0,r0.v 1,r0.v 2,t16],r0.h,(r0.c+1),r0.df⟩)
  (cond (Z0x r0.e .ret)
   (some ⟨.ret,[r0.v 0,r0.v 1,r0.v 2,r0.v 3],r0.h,r0.c,r0.df⟩)
   (none)))
 (some ⟨(.exit 0),[t1,t2,t3,t4],h,(c+1),df⟩)
theorem Z4U (o:Orc H) (rd:Option Nat) (t1 t2 t3 t4:Value) (h:H) (c:Nat) (df:List Nat):jx P o 83 rd Z3p (Z0j [1,2,3,4] [t1,t2,t3,t4]) h c df (Klp [1,2,3,4])=Z1e o rd t1 t2 t3 t4 h c df:=by kernel_rfl
noncomputable def ZiU (o:Orc H) (t0:Value) (h:H) (c:Nat):Option (Rt H) :=
 (bif (t0:Value).cells.toList.all Z0d then
 (Z04 (ptrTo (256*c+0)) 0).bind fun t7 =>
 (ld1 (newB h (256*c+0) (t0:Value).cells.toList) t7).bind fun t8 =>
 (Z1B t8).bind fun t9 =>
 (Z00 P .gtr 3 t9 (.int .i64 1000)).bind fun t11 =>
 Z08 t11
 (some ⟨.ret,[(.int .i64 7)],(newB h (256*c+0) (t0:Value).cells.toList),(c+1+1+1+1),[]⟩)
 ((o (Z3n none) [(ptrTo (256*c+0)),(.int .i64 0),t9,(.int .i64 0)] (newB h (256*c+0) (t0:Value).cells.toList) (c+1+1+1+1) []).bind fun r0 =>
 cond (Z0x r0.e (.exit 0))
  ((Z09 r0.h r0.df).bind fun h2 =>
  some ⟨.ret,[(.int .i64 0)],h2,(r0.c+1),[]⟩)
  (cond (Z0x r0.e .ret)
   ((Z09 r0.h r0.df).bind fun h1 =>
   some ⟨.ret,[r0.v 1],h1,r0.c,[]⟩)
   (none)))
 else none)
theorem Zfr (o:Orc H) (t0:Value) (h:H) (c:Nat):jx P o 83 none f13_c (Z0j (List.range 1) [t0]) h c [] (Kfn P Try.f13.results.toList)=ZiU o t0 h c:=by kernel_rfl
theorem f13_go {t0:Value} {h:FH} {c:Nat} {df:List Nat} {r:Rt FH} (e:ZiU G t0 h c=some r):G (.fn 13) [t0] h c df=some (gcR h c [] r):=Z0h (a:=Zdf) bk_13 rfl (fun args h c=>by cases args <;> rfl) rfl ((Zfr G t0 h c).trans e)
theorem Za8 {rd:Option Nat} {t1 t2 t3 t4 t5:Value} {h:FH} {c:Nat} {df:List Nat} {q r:Rt FH} (e:Z1L G rd t1 t2 t3 t4 t5 h c df=some q) (hq:q.e = .normal) (k:G (Z3m rd) q.vs (gcR h c df q).h (gcR h c df q).c q.df=some r):G (Z3m rd) [t1,t2,t3,t4,t5] h c df=some r:=Z0J ((Z4T G rd t1 t2 t3 t4 t5 h c df).trans e) hq k
theorem Za6 {rd:Option Nat} {t1 t2 t3 t4 t5:Value} {h:FH} {c:Nat} {df:List Nat} {q:Rt FH} (e:Z1L G rd t1 t2 t3 t4 t5 h c df=some q) (hq:q.e ≠ .normal):G (Z3m rd) [t1,t2,t3,t4,t5] h c df=some (gcR h c df q):=Z0K ((Z4T G rd t1 t2 t3 t4 t5 h c df).trans e) hq
theorem Za9 {rd:Option Nat} {t1 t2 t3 t4:Value} {h:FH} {c:Nat} {df:List Nat} {q r:Rt FH} (e:Z1e G rd t1 t2 t3 t4 h c df=some q) (hq:q.e = .normal) (k:G (Z3n rd) q.vs (gcR h c df q).h (gcR h c df q).c q.df=some r):G (Z3n rd) [t1,t2,t3,t4] h c df=some r:=Z0J ((Z4U G rd t1 t2 t3 t4 h c df).trans e) hq k
theorem Za7 {rd:Option Nat} {t1 t2 t3 t4:Value} {h:FH} {c:Nat} {df:List Nat} {q:Rt FH} (e:Z1e G rd t1 t2 t3 t4 h c df=some q) (hq:q.e ≠ .normal):G (Z3n rd) [t1,t2,t3,t4] h c df=some (gcR h c df q):=Z0K ((Z4U G rd t1 t2 t3 t4 h c df).trans e) hq
noncomputable def Z7q (o:Orc H) (rd:Option Nat) (t1 t5 t7 t9 t10 t26 t27 t28 t42 t43:Value) (h:H) (c:Nat) (df:List Nat):Option (Rt H) :=
 (Z00 P .lss 3 t43 t42).bind fun t44 =>
 Z08 t44
 ((Z0s t5).bind fun t47 =>
 (Z04 t47 0).bind fun t48 =>
 (callF o 46 [t48,t43] h (c+1+1+1)).bind fun r0 =>
 (Z00 P .eql 3 r0.1 t9).bind fun t52 =>
 (Z08 t52
  ((Z00 P .quo 3 t43 (.int .i64 4)).bind fun t55 =>
  (Z00 P .mul 3 t55 (.int .i64 7)).bind fun t56 =>
  (Z00 P .rem 3 t43 (.int .i64 4)).bind fun t58 =>
  (Z00 P .add 3 t56 t58).bind fun t59 =>
  (ixS 1 t10 t59).bind fun t60 =>
  (stN r0.2.1 1 t60 (.int .i64 1)).bind fun h2 =>
  some ⟨.normal,[t1,t5,t7,t9,t10,t26,t27,t28,t42,t43],h2,(r0.2.2+1),df⟩)
  (some ⟨.normal,[t1,t5,t7,t9,t10,t26,t27,t28,t42,t43],r0.2.1,r0.2.2,df⟩):Option (Rt H)).bind fun r3 =>
 cond (Z0x r3.e .normal)
  ((Z00 P .add 3 (r3.v 9) (.int .i64 1)).bind fun t61 =>
  some ⟨.normal,[r3.v 0,r3.v 1,r3.v 2,r3.v 3,r3.v 4,r3.v 5,r3.v 6,r3.v 7,r3.v 8,t61],r3.h,(r3.c+1),r3.df⟩)
  (none))
 (some ⟨(.exit 2),[t1,t5,t7,t9,t10,t26,t27,t28,t42,t43],h,(c+1),df⟩)
theorem Zb9 (o:Orc H) (rd:Option Nat) (t1 t5 t7 t9 t10 t26 t27 t28 t42 t43:Value) (h:H) (c:Nat) (df:List Nat):jx P o 68 rd Z3k (Z0j [1,5,7,9,10,26,27,28,42,43] [t1,t5,t7,t9,t10,t26,t27,t28,t42,t43]) h c df (Klp [1,5,7,9,10,26,27,28,42,43])=Z7q o rd t1 t5 t7 t9 t10 t26 t27 t28 t42 t43 h c df:=by kernel_rfl
noncomputable def Z7r (o:Orc H) (rd:Option Nat) (t1 t5 t7 t26 t27 t28:Value) (h:H) (c:Nat) (df:List Nat):Option (Rt H) :=
 (Z00 P .lss 3 t28 t27).bind fun t29 =>
 Z08 t29
 ((ixS 1 t26 t28).bind fun t30 =>
 (ld1 h t30).bind fun t31 =>
 (Z04 t1 0).bind fun t32 =>
 (ld1 h t32).bind fun t33 =>
 (Z1B t33).bind fun t34 =>
 (Z00 P .mul 3 (.int .i64 7) t34).bind fun t35 =>
 (mkS 1 8 [(.int .i64 0)] t35 t35).bind fun r0 =>
 (Z0s t5).bind fun t38 =>
 (Z04 t38 0).bind fun t39 =>
 (Z04 t39 0).bind fun t40 =>
 (ld1 (newB h (256*(c+1+1)+4) r0.1) t40).bind fun t41 =>
 (Z1B t41).bind fun t42 =>
 (o (ZgR rd) [t1,t5,t7,t31,(.slice (some ⟨(256*(c+1+1)+4),0,none⟩) r0.2.1 r0.2.2),t26,t27,t28,t42,(.int .i64 0)] (newB h (256*(c+1+1)+4) r0.1) (c+1+1+1+1) df).bind fun r1 =>
 cond (Z0x r1.e (.exit 2))
  ((Z4Y [(.slice none 0 0)] [(0,1,(r1.v 4))]).bind fun r2 =>
  (Z9h (newB r1.h (256*r1.c+2) r2) (256*r1.c+3) 1 24 (r1.v 2) (.slice (some ⟨(256*r1.c+2),0,none⟩) 1 1)).bind fun r3 =>
  (Z00 P .add 3 (r1.v 7) (.int .i64 1)).bind fun t66 =>
  some ⟨.normal,[r1.v 0,r1.v 1,r3.1,r1.v 5,r1.v 6,t66],r3.2,(r1.c+1+1),r1.df⟩)
  (none))
 (some ⟨(.exit 0),[t1,t5,t7,t26,t27,t28],h,(c+1),df⟩)
theorem Zba (o:Orc H) (rd:Option Nat) (t1 t5 t7 t26 t27 t28:Value) (h:H) (c:Nat) (df:List Nat):jx P o 68 rd Z3l (Z0j [1,5,7,26,27,28] [t1,t5,t7,t26,t27,t28]) h c df (Klp [1,5,7,26,27,28])=Z7r o rd t1 t5 t7 t26 t27 t28 h c df:=by kernel_rfl
noncomputable def ZnY (o:Orc H) (t0:Value) (h:H) (c:Nat):Option (Rt H) :=
 (bif (t0:Value).cells.toList.all Z0d then
 (ldN (newB h (256*c+0) (t0:Value).cells.toList) 1 (ptrTo (256*c+0))).bind fun t12 =>
 (callF o 43 [t12] (newB h (256*c+0) (t0:Value).cells.toList) (c+1+1)).bind fun r0 =>
 (Z00 P .neq 27 r0.1 (.int .i64 0)).bind fun t15 =>
 Z08 t15
 (some ⟨.ret,[.tuple #[(.slice none 0 0),r0.1]],r0.2.1,(r0.2.2+1+1),[]⟩)
 ((ldN r0.2.1 1 (ptrTo (256*c+0))).bind fun t18 =>
 (callF o 44 [t18] r0.2.1 (r0.2.2+1+1)).bind fun r1 =>
 (Z2q r1.1 0).bind fun t20 =>
 (Z2q r1.1 1).bind fun t21 =>
 (Z4Y [] []).bind fun r2 =>
 (Z0s t20).bind fun t24 =>
 (Z04 t24 0).bind fun t25 =>
 (callF o 45 [t25] (newB r1.2.1 (256*r1.2.2+0) r2) (r1.2.2+1+1)).bind fun r3 =>
 (Z1B r3.1).bind fun t27 =>
 (o (ZgS none) [(ptrTo (256*c+0)),t20,(.slice (some ⟨(256*r1.2.2+0),0,none⟩) 0 0),r3.1,t27,(.int .i64 0)] r3.2.1 r3.2.2 []).bind fun r4 =>
 cond (Z0x r4.e (.exit 0))
  ((Z09 r4.h r4.df).bind fun h5 =>
  some ⟨.ret,[.tuple #[r4.v 2,(.int .i64 0)]],h5,(r4.c+1),[]⟩)
  (none))
 else none)
theorem ZlS (o:Orc H) (t0:Value) (h:H) (c:Nat):jx P o 68 none f14_c (Z0j (List.range 1) [t0]) h c [] (Kfn P Try.f14.results.toList)=ZnY o t0 h c:=by kernel_rfl
noncomputable def Z3j (o:Orc H) (rd:Option Nat) (t1 t7 t8 t10 t28 t29 t30 t35 t36 t63:Value) (h:H) (c:Nat) (df:List Nat):Option (Rt H) :=
 (Z00 P .lss 3 t63 (.int .i64 4)).bind fun t64 =>
 Z08 t64
 ((Z00 P .neq 3 t63 t10).bind fun t68 =>
 (Z08 t68
  ((callF o 50 [t1,t8,t10,t63] h (c+1+1+1+1)).bind fun r0 =>
  (Z00 P .sub 3 t7 r0.1).bind fun t75 =>
  some ⟨.normal,[t1,t75,t8,t10,t28,t29,t30,t35,t36,t63],r0.2.1,r0.2.2,df⟩)
  (some ⟨.normal,[t1,t7,t8,t10,t28,t29,t30,t35,t36,t63],h,(c+1+1+1),df⟩):Option (Rt H)).bind fun r2 =>
 cond (Z0x r2.e .normal)
  ((Z00 P .add 3 (r2.v 9) (.int .i64 1)).bind fun t76 =>
  some ⟨.normal,[r2.v 0,r2.v 1,r2.v 2,r2.v 3,r2.v 4,r2.v 5,r2.v 6,r2.v 7,r2.v 8,t76],r2.h,(r2.c+1),r2.df⟩)
  (none))
 (some ⟨(.exit 4),[t1,t7,t8,t10,t28,t29,t30,t35,t36,t63],h,(c+1),df⟩)
theorem Z2s (o:Orc H) (rd:Option Nat) (t1 t7 t8 t10 t28 t29 t30 t35 t36 t63:Value) (h:H) (c:Nat) (df:List Nat):jx P o 80 rd Z3g (Z0j [1,7,8,10,28,29,30,35,36,63] [t1,t7,t8,t10,t28,t29,t30,t35,t36,t63]) h c df (Klp [1,7,8,10,28,29,30,35,36,63])=Z3j o rd t1 t7 t8 t10 t28 t29 t30 t35 t36 t63 h c df:=by kernel_rfl
noncomputable def Z4j (o:Orc H) (rd:Option Nat) (t1 t7 t8 t28 t29 t30 t35 t36:Value) (h:H) (c:Nat) (df:List Nat):Option (Rt H) :=
 (Z00 P .lss 3 t36 (.int .i64 4)).bind fun t37 =>
 Z08 t37
 (((ixV 4 true 5 t35 t36).bind fun t39 =>
  (stN (newB h (256*(c+1)+2) [(.int .i64 0),(.int .i64 0),(.int .i64 0),(.int .i64 0),(.int .i64 0)]) 5 (ptrTo (256*(c+1)+2)) t39).bind fun h1 =>
  (Z04 (ptrTo (256*(c+1)+2)) 0).bind fun t40 =>
  (ld1 h1 t40).bind fun t41 =>
  (Z00 P .geq 3 t41 (.int .i64 0)).bind fun t42 =>
  (gd t42 true h1 (c+1+1+1) (Z04 (ptrTo (256*(c+1)+2)) 0)).bind fun r2 =>
  (gd t42 true r2.2.1 r2.2.2 (ld1 r2.2.1 r2.1)).bind fun r3 =>
  (gd t42 true r3.2.1 r3.2.2 (some t8)).bind fun r4 =>
  (gd t42 true r4.2.1 r4.2.2 (Z00 P .lss 3 r3.1 r4.1)).bind fun r5 =>
  (gd t42 true r5.2.1 r5.2.2 (some r5.1)).bind fun r6 =>
  (gd r6.1 false r6.2.1 r6.2.2 (Z04 (ptrTo (256*(c+1)+2)) 0)).bind fun r7 =>
  (gd r6.1 false r7.2.1 r7.2.2 (ld1 r7.2.1 r7.1)).bind fun r8 =>
  (gd r6.1 false r8.2.1 r8.2.2 (some t8)).bind fun r9 =>
  (gd r6.1 false r9.2.1 r9.2.2 (Z00 P .eql 3 r8.1 r9.1)).bind fun r10 =>
  (gd r6.1 false r10.2.1 r10.2.2 (some r10.1)).bind fun r11 =>
  (gd r11.1 true r11.2.1 r11.2.2 (some t36)).bind fun r12 =>
  (gd r11.1 true r12.2.1 r12.2.2 (Z04 (ptrTo (256*(c+1)+2)) 1)).bind fun r13 =>
  (gd r11.1 true r13.2.1 r13.2.2 (ixA 4 1 r13.1 r12.1)).bind fun r14 =>
  (gd r11.1 true r14.2.1 r14.2.2 (ld1 r14.2.1 r14.1)).bind fun r15 =>
  (gd r11.1 true r15.2.1 r15.2.2 (some t36)).bind fun r16 =>
  (gd r11.1 true r16.2.1 r16.2.2 (Z00 P .lss 3 r15.1 r16.1)).bind fun r17 =>
  (gg r6.1 false r17.2.1 r17.2.2 (Zco r17.2.1 r17.2.2 r11.1 r17.1 (.bool false))).bind fun r18 =>
  (gg t42 true r18.2.1 r18.2.2 (Zco r18.2.1 r18.2.2 r6.1 (.bool true) r18.1)).bind fun r19 =>
  (Z0v t42 r19.1 (.bool false)).bind fun t62 =>
  Z08 t62
   (some ⟨.normal,[t1,t7,t8,t28,t29,t30,t35,t36],r19.2.1,r19.2.2,df⟩)
   ((o (Za4 rd) [t1,t7,t8,t36,t28,t29,t30,t35,t36,(.int .i64 0)] r19.2.1 (r19.2.2+1) df).bind fun r20 =>
   cond (Z0x r20.e (.exit 4))
    (some ⟨.normal,[r20.v 0,r20.v 1,r20.v 2,r20.v 4,r20.v 5,r20.v 6,r20.v 7,r20.v 8],r20.h,r20.c,r20.df⟩)
    (none)):Option (Rt H)).bind fun r21 =>
 cond (Z0x r21.e .normal)
  ((Z00 P .add 3 (r21.v 7) (.int .i64 1)).bind fun t77 =>
  some ⟨.normal,[r21.v 0,r21.v 1,r21.v 2,r21.v 3,r21.v 4,r21.v 5,r21.v 6,t77],r21.h,(r21.c+1),r21.df⟩)
  (none))
 (some ⟨(.exit 2),[t1,t7,t8,t28,t29,t30,t35,t36],h,(c+1),df⟩)
theorem Z4R (o:Orc H) (rd:Option Nat) (t1 t7 t8 t28 t29 t30 t35 t36:Value) (h:H) (c:Nat) (df:List Nat):jx P o 80 rd Z3h (Z0j [1,7,8,28,29,30,35,36] [t1,t7,t8,t28,t29,t30,t35,t36]) h c df (Klp [1,7,8,28,29,30,35,36])=Z4j o rd t1 t7 t8 t28 t29 t30 t35 t36 h c df:=by kernel_rfl
noncomputable def Z4k (o:Orc H) (rd:Option Nat) (t1 t7 t28 t29 t30:Value) (h:H) (c:Nat) (df:List Nat):Option (Rt H) :=
 (Z00 P .lss 3 t30 t29).bind fun t31 =>
 Z08 t31
 ((ixS 20 t28 t30).bind fun t33 =>
 (ldN h 20 t33).bind fun t34 =>
 (stN (newB h (256*(c+1)+3) [(.int .i64 0),(.int .i64 0),(.int .i64 0),(.int .i64 0),(.int .i64 0),(.int .i64 0),(.int .i64 0),(.int .i64 0),(.int .i64 0),(.int .i64 0),(.int .i64 0),(.int .i64 0),(.int .i64 0),(.int .i64 0),(.int .i64 0),(.int .i64 0),(.int .i64 0),(.int .i64 0),(.int .i64 0),(.int .i64 0)]) 20 (ptrTo (256*(c+1)+3)) t34).bind fun h1 =>
 (ldN h1 20 (ptrTo (256*(c+1)+3))).bind fun t35 =>
 (o (Z5w rd) [t1,t7,t30,t28,t29,t30,t35,(.int .i64 0)] h1 (c+1+1+1) df).bind fun r2 =>
 cond (Z0x r2.e (.exit 2))
  ((Z00 P .add 3 (r2.v 5) (.int .i64 1)).bind fun t78 =>
  some ⟨.normal,[r2.v 0,r2.v 1,r2.v 3,r2.v 4,t78],r2.h,(r2.c+1),r2.df⟩)
  (none))
 (some ⟨(.exit 0),[t1,t7,t28,t29,t30],h,(c+1),df⟩)
theorem Z4S (o:Orc H) (rd:Option Nat) (t1 t7 t28 t29 t30:Value) (h:H) (c:Nat) (df:List Nat):jx P o 80 rd Z3i (Z0j [1,7,28,29,30] [t1,t7,t28,t29,t30]) h c df (Klp [1,7,28,29,30])=Z4k o rd t1 t7 t28 t29 t30 h c df:=by kernel_rfl
noncomputable def ZiT (o:Orc H) (t0 t1:Value) (h:H) (c:Nat):Option (Rt H) :=
 (bif (t0:Value).cells.toList.all Z0d then
 (ldN (newB h (256*c+0) (t0:Value).cells.toList) 1 (ptrTo (256*c+0))).bind fun t13 =>
 (Z4Y [(.slice none 0 0)] [(0,1,t1)]).bind fun r0 =>
 (callF o 47 [t13,(.slice (some ⟨(256*(c+1)+2),0,none⟩) 1 1)] (newB (newB h (256*c+0) (t0:Value).cells.toList) (256*(c+1)+2) r0) (c+1+1)).bind fun r1 =>
 (Z00 P .neq 27 r1.1 (.int .i64 0)).bind fun t18 =>
 Z08 t18
 (some ⟨.ret,[.tuple #[(.int .i64 0),r1.1]],r1.2.1,(r1.2.2+1+1),[]⟩)
 ((ldN r1.2.1 1 (ptrTo (256*c+0))).bind fun t20 =>
 (callF o 49 [t20,t1] r1.2.1 (r1.2.2+1+1)).bind fun r2 =>
 (callF o 48 [r2.1] r2.2.1 r2.2.2).bind fun r3 =>
 (callF o 48 [t1] r3.2.1 r3.2.2).bind fun r4 =>
 (Z00 P .add 3 r3.1 r4.1).bind fun t26 =>
 (Z04 (ptrTo (256*c+0)) 0).bind fun t27 =>
 (ld1 r4.2.1 t27).bind fun t28 =>
 (Z1B t28).bind fun t29 =>
 (o (Za5 none) [t1,t26,t28,t29,(.int .i64 0)] r4.2.1 (r4.2.2+1) []).bind fun r5 =>
 cond (Z0x r5.e (.exit 0))
  ((Z09 r5.h r5.df).bind fun h6 =>
  some ⟨.ret,[.tuple #[r5.v 1,(.int .i64 0)]],h6,(r5.c+1),[]⟩)
  (none))
 else none)
theorem Zfq (o:Orc H) (t0 t1:Value) (h:H) (c:Nat):jx P o 80 none f15_c (Z0j (List.range 2) [t0,t1]) h c [] (Kfn P Try.f15.results.toList)=ZiT o t0 t1 h c:=by kernel_rfl
theorem f15_go {t0 t1:Value} {h:FH} {c:Nat} {df:List Nat} {r:Rt FH} (e:ZiT G t0 t1 h c=some r):G (.fn 15) [t0,t1] h c df=some (gcR h c [] r):=Z0h (a:=Zde) bk_15 rfl (fun args h c=>by cases args <;> rfl) rfl ((Zfq G t0 t1 h c).trans e)
noncomputable def ZiS (o:Orc H) (t0 t1:Value) (h:H) (c:Nat):Option (Rt H) :=
 (bif (t0:Value).cells.toList.all Z0d then
 (ldN (newB h (256*c+0) (t0:Value).cells.toList) 1 (ptrTo (256*c+0))).bind fun t7 =>
 (Z4Y [(.slice none 0 0)] [(0,1,t1)]).bind fun r0 =>
 (callF o 47 [t7,(.slice (some ⟨(256*(c+1)+2),0,none⟩) 1 1)] (newB (newB h (256*c+0) (t0:Value).cells.toList) (256*(c+1)+2) r0) (c+1+1)).bind fun r1 =>
 (Z00 P .neq 27 r1.1 (.int .i64 0)).bind fun t12 =>
 Z08 t12
 (some ⟨.ret,[.tuple #[(.slice none 0 0),r1.1]],r1.2.1,(r1.2.2+1+1),[]⟩)
 ((ldN r1.2.1 1 (ptrTo (256*c+0))).bind fun t14 =>
 (callF o 49 [t14,t1] r1.2.1 (r1.2.2+1+1)).bind fun r2 =>
 some ⟨.ret,[.tuple #[r2.1,(.int .i64 0)]],r2.2.1,r2.2.2,[]⟩)
 else none)
theorem Zfp (o:Orc H) (t0 t1:Value) (h:H) (c:Nat):jx P o 17 none f16_c (Z0j (List.range 2) [t0,t1]) h c [] (Kfn P Try.f16.results.toList)=ZiS o t0 t1 h c:=by kernel_rfl
theorem f16_go {t0 t1:Value} {h:FH} {c:Nat} {df:List Nat} {r:Rt FH} (e:ZiS G t0 t1 h c=some r):G (.fn 16) [t0,t1] h c df=some r:=Z0h (a:=Zdd) bk_16 rfl (fun args h c=>by cases args <;> rfl) rfl ((Zfp G t0 t1 h c).trans e)
noncomputable def ZiR (o:Orc H) (t0 t1:Value) (h:H) (c:Nat):Option (Rt H) :=
 (bif (t0:Value).cells.toList.all Z0d then
 (ldN (newB h (256*c+0) (t0:Value).cells.toList) 1 (ptrTo (256*c+0))).bind fun t5 =>
 (Z4Y [(.slice none 0 0)] [(0,1,t1)]).bind fun r0 =>
 (callF o 47 [t5,(.slice (some ⟨(256*(c+1)+2),0,none⟩) 1 1)] (newB (newB h (256*c+0) (t0:Value).cells.toList) (256*(c+1)+2) r0) (c+1+1)).bind fun r1 =>
 some ⟨.ret,[r1.1],r1.2.1,r1.2.2,[]⟩
 else none)
theorem Zfo (o:Orc H) (t0 t1:Value) (h:H) (c:Nat):jx P o 9 none f17_c (Z0j (List.range 2) [t0,t1]) h c [] (Kfn P Try.f17.results.toList)=ZiR o t0 t1 h c:=by kernel_rfl
theorem f17_go {t0 t1:Value} {h:FH} {c:Nat} {df:List Nat} {r:Rt FH} (e:ZiR G t0 t1 h c=some r):G (.fn 17) [t0,t1] h c df=some (gcR h c [] r):=Z0h (a:=Zdc) bk_17 rfl (fun args h c=>by cases args <;> rfl) rfl ((Zfo G t0 t1 h c).trans e)
noncomputable def Z7p (o:Orc H) (rd:Option Nat) (t0 t2 t3:Value) (h:H) (c:Nat) (df:List Nat):Option (Rt H) :=
 (Z1B t0).bind fun t6 =>
 (Z00 P .lss 3 t3 t6).bind fun t7 =>
 Z08 t7
 ((ixS 1 t0 t3).bind fun t12 =>
 (ld1 h t12).bind fun t13 =>
 (Z1B t13).bind fun t14 =>
 (Z00 P .gtr 3 t14 (.int .i64 50)).bind fun t15 =>
 Z08 t15
  (some ⟨.ret,[t0,(.bool false),t3],h,(c+1+1+1),df⟩)
  ((Z00 P .add 3 t3 (.int .i64 1)).bind fun t9 =>
  some ⟨.normal,[t0,t2,t9],h,(c+1+1+1),df⟩))
 (some ⟨(.exit 0),[t0,t2,t3],h,(c+1),df⟩)
theorem Z6y (o:Orc H) (rd:Option Nat) (t0 t2 t3:Value) (h:H) (c:Nat) (df:List Nat):jx P o 16 rd Z7o (Z0j [0,2,3] [t0,t2,t3]) h c df (Klp [0,2,3])=Z7p o rd t0 t2 t3 h c df:=by kernel_rfl
noncomputable def ZnW (o:Orc H) (t0:Value) (h:H) (c:Nat):Option (Rt H) :=
 (o (Za3 none) [t0,(.bool false),(.int .i64 0)] h (c+1+1) []).bind fun r0 =>
 cond (Z0x r0.e (.exit 0))
 ((Z09 r0.h r0.df).bind fun h2 =>
 some ⟨.ret,[(.bool true)],h2,(r0.c+1),[]⟩)
 (cond (Z0x r0.e .ret)
  ((Z09 r0.h r0.df).bind fun h1 =>
  some ⟨.ret,[r0.v 1],h1,r0.c,[]⟩)
  (none))
theorem ZlR (o:Orc H) (t0:Value) (h:H) (c:Nat):jx P o 16 none f18_c (Z0j (List.range 1) [t0]) h c [] (Kfn P Try.f18.results.toList)=ZnW o t0 h c:=by kernel_rfl
theorem f18_go {t0:Value} {h:FH} {c:Nat} {df:List Nat} {r:Rt FH} (e:ZnW G t0 h c=some r):G (.fn 18) [t0] h c df=some (gcR h c [] r):=Z0h (a:=ZlQ) bk_18 rfl (fun args h c=>by cases args <;> rfl) rfl ((ZlR G t0 h c).trans e)

variable {H:Type} [HeapC H]
noncomputable def Z7n (o:Orc H) (rd:Option Nat) (t1 t2 t3 t6 t8 t9 t10:Value) (h:H) (c:Nat) (df:List Nat):Option (Rt H) :=
 (Z00 P .lss 3 t10 t8).bind fun t34 =>
 Z08 t34
 ((ixS 1 t1 t10).bind fun t40 =>
 (ld1 h t40).bind fun t41 =>
 (ixS 1 t9 t41).bind fun t43 =>
 (stN h 1 t43 t10).bind fun h1 =>
 (Z00 P .add 3 t10 (.int .i64 1)).bind fun t36 =>
 some ⟨.normal,[t1,t2,t3,t6,t8,t9,t36],h1,(c+1+1+1),df⟩)
 (some ⟨(.exit 0),[t1,t2,t3,t6,t8,t9,t10],h,(c+1),df⟩)
theorem Z6x (o:Orc H) (rd:Option Nat) (t1 t2 t3 t6 t8 t9 t10:Value) (h:H) (c:Nat) (df:List Nat):jx P o 103 rd Z7k (Z0j [1,2,3,6,8,9,10] [t1,t2,t3,t6,t8,t9,t10]) h c df (Klp [1,2,3,6,8,9,10])=Z7n o rd t1 t2 t3 t6 t8 t9 t10 h c df:=by kernel_rfl
noncomputable def Z7l (o:Orc H) (rd:Option Nat) (t1 t2 t3 t6 t8 t9 t11 t12 t13 t14:Value) (h:H) (c:Nat) (df:List Nat):Option (Rt H) :=
 (Z00 P .lss 3 t14 (.int .i64 4)).bind fun t50 =>
 Z08 t50
 (((Z04 t3 0).bind fun t53 =>
  (ld1 h t53).bind fun t54 =>
  (ixS 1 t1 t12).bind fun t57 =>
  (ld1 h t57).bind fun t58 =>
  (ixS 4 t2 t12).bind fun t62 =>
  (ixA 4 1 t62 t14).bind fun t63 =>
  (ld1 h t63).bind fun t64 =>
  (ixS 20 t54 t58).bind fun t65 =>
  (ixA 4 5 t65 t64).bind fun t66 =>
  (ldN h 5 t66).bind fun t67 =>
  (stN (newB h (256*(c+1)+15) [(.int .i64 0),(.int .i64 0),(.int .i64 0),(.int .i64 0),(.int .i64 0)]) 5 (ptrTo (256*(c+1)+15)) t67).bind fun h1 =>
  (Z04 (ptrTo (256*(c+1)+15)) 0).bind fun t68 =>
  (ld1 h1 t68).bind fun t69 =>
  (Z00 P .lss 3 t69 (.int .i64 0)).bind fun t70 =>
  Z08 t70
   ((ixA 4 5 t13 t14).bind fun t72 =>
   (Z04 t72 0).bind fun t73 =>
   (stN h1 1 t73 (.int .i64 (-1))).bind fun h3 =>
   some ⟨.normal,[t1,t2,t3,t6,t8,t9,t11,t12,t13,t14],h3,(c+1+1+1+1),df⟩)
   ((Z04 (ptrTo (256*(c+1)+15)) 0).bind fun t75 =>
   (ld1 h1 t75).bind fun t76 =>
   (ixS 1 t9 t76).bind fun t77 =>
   (ld1 h1 t77).bind fun t78 =>
   (ixS 4 t2 t78).bind fun t83 =>
   (ldN h1 4 t83).bind fun t84 =>
   (callF o 42 [t84] h1 (c+1+1+1+1+1)).bind fun r4 =>
   (Z04 (ptrTo (256*(c+1)+15)) 1).bind fun t86 =>
   (ldN r4.2.1 4 t86).bind fun t87 =>
   (ixS 4 t2 t12).bind fun t90 =>
   (ldN r4.2.1 4 t90).bind fun t91 =>
   (callF o 52 [t87,t91] r4.2.1 r4.2.2).bind fun r5 =>
   (callF o 52 [r4.1,r5.1] r5.2.1 r5.2.2).bind fun r6 =>
   (Z3A [(.int .i64 0),(.int .i64 0),(.int .i64 0),(.int .i64 0),(.int .i64 0)] [(0,1,t78),(1,4,r6.1)]).bind fun t94 =>
   (ixA 4 5 t13 t14).bind fun t95 =>
   (stN r6.2.1 5 t95 t94).bind fun h8 =>
   (bif (Z1o (Z2A t86) h1 r4.2.1 && (Z1o (Z2A t90) h1 r4.2.1 && true)) then
   some ⟨.normal,[t1,t2,t3,t6,t8,t9,t11,t12,t13,t14],h8,r6.2.2,df⟩
   else none)):Option (Rt H)).bind fun r9 =>
 cond (Z0x r9.e .normal)
  ((Z00 P .add 3 (r9.v 9) (.int .i64 1)).bind fun t52 =>
  some ⟨.normal,[r9.v 0,r9.v 1,r9.v 2,r9.v 3,r9.v 4,r9.v 5,r9.v 6,r9.v 7,r9.v 8,t52],r9.h,(r9.c+1),r9.df⟩)
  (none))
 (some ⟨(.exit 4),[t1,t2,t3,t6,t8,t9,t11,t12,t13,t14],h,(c+1),df⟩)
theorem Z6v (o:Orc H) (rd:Option Nat) (t1 t2 t3 t6 t8 t9 t11 t12 t13 t14:Value) (h:H) (c:Nat) (df:List Nat):jx P o 103 rd Z7i (Z0j [1,2,3,6,8,9,11,12,13,14] [t1,t2,t3,t6,t8,t9,t11,t12,t13,t14]) h c df (Klp [1,2,3,6,8,9,11,12,13,14])=Z7l o rd t1 t2 t3 t6 t8 t9 t11 t12 t13 t14 h c df:=by kernel_rfl
noncomputable def Z7m (o:Orc H) (rd:Option Nat) (t1 t2 t3 t6 t8 t9 t11 t12:Value) (h:H) (c:Nat) (df:List Nat):Option (Rt H) :=
 (Z00 P .lss 3 t12 t8).bind fun t46 =>
 Z08 t46
 ((o (Za0 rd) [t1,t2,t3,t6,t8,t9,t11,t12,(ptrTo (256*(c+1)+0)),(.int .i64 0)] (newB h (256*(c+1)+0) [(.int .i64 0),(.int .i64 0),(.int .i64 0),(.int .i64 0),(.int .i64 0),(.int .i64 0),(.int .i64 0),(.int .i64 0),(.int .i64 0),(.int .i64 0),(.int .i64 0),(.int .i64 0),(.int .i64 0),(.int .i64 0),(.int .i64 0),(.int .i64 0),(.int .i64 0),(.int .i64 0),(.int .i64 0),(.int .i64 0)]) (c+1+1+1) df).bind fun r0 =>
 cond (Z0x r0.e (.exit 4))
  ((Z04 (r0.v 6) 0).bind fun t96 =>
  (ld1 r0.h t96).bind fun t97 =>
  (ldN r0.h 20 (r0.v 8)).bind fun t98 =>
  (Z4Y [(.int .i64 0),(.int .i64 0),(.int .i64 0),(.int .i64 0),(.int .i64 0),(.int .i64 0),(.int .i64 0),(.int .i64 0),(.int .i64 0),(.int .i64 0),(.int .i64 0),(.int .i64 0),(.int .i64 0),(.int .i64 0),(.int .i64 0),(.int .i64 0),(.int .i64 0),(.int .i64 0),(.int .i64 0),(.int .i64 0)] [(0,20,t98)]).bind fun r1 =>
  (Z9h (newB r0.h (256*r0.c+3) r1) (256*r0.c+4) 20 160 t97 (.slice (some ⟨(256*r0.c+3),0,none⟩) 1 1)).bind fun r2 =>
  (Z04 (r0.v 6) 0).bind fun t101 =>
  (stN r2.2 1 t101 r2.1).bind fun h4 =>
  (Z00 P .add 3 (r0.v 7) (.int .i64 1)).bind fun t48 =>
  some ⟨.normal,[r0.v 0,r0.v 1,r0.v 2,r0.v 3,r0.v 4,r0.v 5,r0.v 6,t48],h4,(r0.c+1+1),r0.df⟩)
  (none))
 (some ⟨(.exit 2),[t1,t2,t3,t6,t8,t9,t11,t12],h,(c+1),df⟩)
theorem Z6w (o:Orc H) (rd:Option Nat) (t1 t2 t3 t6 t8 t9 t11 t12:Value) (h:H) (c:Nat) (df:List Nat):jx P o 103 rd Z7j (Z0j [1,2,3,6,8,9,11,12] [t1,t2,t3,t6,t8,t9,t11,t12]) h c df (Klp [1,2,3,6,8,9,11,12])=Z7m o rd t1 t2 t3 t6 t8 t9 t11 t12 h c df:=by kernel_rfl
noncomputable def ZnV (o:Orc H) (t0 t1 t2:Value) (h:H) (c:Nat):Option (Rt H) :=
 (bif (t0:Value).cells.toList.all Z0d then
 (ldN (newB (newB h (256*c+0) (t0:Value).cells.toList) (256*c+1) [(.slice none 0 0)]) 1 (ptrTo (256*c+0))).bind fun t17 =>
 (callF o 13 [t17] (newB (newB h (256*c+0) (t0:Value).cells.toList) (256*c+1) [(.slice none 0 0)]) (c+1+1)).bind fun r0 =>
 (Z00 P .neq 27 r0.1 (.int .i64 0)).bind fun t19 =>
 Z08 t19
 ((Z3A [(.slice none 0 0)] []).bind fun t20 =>
 (stN r0.2.1 1 (ptrTo (256*c+1)) t20).bind fun h2 =>
 (ldN h2 1 (ptrTo (256*c+1))).bind fun v3 =>
 some ⟨.ret,[.tuple #[v3,(.int .i64 7)]],h2,(r0.2.2+1),[]⟩)
 ((Z04 (ptrTo (256*c+0)) 0).bind fun t21 =>
 (ld1 r0.2.1 t21).bind fun t22 =>
 (Z1B t22).bind fun t23 =>
 (callF o 51 [t1,t2,t23] r0.2.1 (r0.2.2+1+1)).bind fun r4 =>
 (Z1t .not r4.1).bind fun t28 =>
 Z08 t28
  ((Z3A [(.slice none 0 0)] []).bind fun t29 =>
  (stN r4.2.1 1 (ptrTo (256*c+1)) t29).bind fun h6 =>
  (ldN h6 1 (ptrTo (256*c+1))).bind fun v7 =>
  some ⟨.ret,[.tuple #[v7,(.int .i64 1)]],h6,(r4.2.2+1),[]⟩)
  ((mkS 1 8 [(.int .i64 0)] t23 t23).bind fun r8 =>
  (o (Za2 none) [t1,t2,(ptrTo (256*c+0)),(ptrTo (256*c+1)),t23,(.slice (some ⟨(256*r4.2.2+1),0,none⟩) r8.2.1 r8.2.2),(.int .i64 0)] (newB r4.2.1 (256*r4.2.2+1) r8.1) (r4.2.2+1+1) []).bind fun r9 =>
  cond (Z0x r9.e (.exit 0))
   ((o (Za1 none) [r9.v 0,r9.v 1,r9.v 2,r9.v 3,r9.v 4,r9.v 5,(ptrTo (256*r9.c+0)),(.int .i64 0)] (newB r9.h (256*r9.c+0) [(.slice none 0 0)]) (r9.c+1+1) r9.df).bind fun r10 =>
   cond (Z0x r10.e (.exit 2))
    ((ldN r10.h 1 (r10.v 6)).bind fun t102 =>
    (stN r10.h 1 (r10.v 3) t102).bind fun h12 =>
    (Z09 h12 r10.df).bind fun h13 =>
    (ldN h13 1 (r10.v 3)).bind fun v14 =>
    some ⟨.ret,[.tuple #[v14,(.int .i64 0)]],h13,(r10.c+1),[]⟩)
    (none))
   (none)))
 else none)
theorem ZlP (o:Orc H) (t0 t1 t2:Value) (h:H) (c:Nat):jx P o 103 none f19_c (Z0j (List.range 3) [t0,t1,t2]) h c [] (Kfn P Try.f19.results.toList)=ZnV o t0 t1 t2 h c:=by kernel_rfl
theorem f19_go {t0 t1 t2:Value} {h:FH} {c:Nat} {df:List Nat} {r:Rt FH} (e:ZnV G t0 t1 t2 h c=some r):G (.fn 19) [t0,t1,t2] h c df=some r:=Z0h (a:=ZlO) bk_19 rfl (fun args h c=>by cases args <;> rfl) rfl ((ZlP G t0 t1 t2 h c).trans e)
noncomputable def ZlN (o:Orc H) (t0 t1:Value) (h:H) (c:Nat):Option (Rt H) :=
 (Z00 P .gtr 3 t0 t1).bind fun t7 =>
 Z08 t7
 ((callF o 20 [t1,t0] h (c+1+1+1)).bind fun r0 =>
 some ⟨.ret,[r0.1],r0.2.1,r0.2.2,[]⟩)
 ((Z00 P .eql 3 t0 (.int .i64 0)).bind fun t12 =>
 Z08 t12
  ((Z00 P .sub 3 t1 (.int .i64 1)).bind fun t14 =>
  some ⟨.ret,[t14],h,(c+1+1+1+1),[]⟩)
  ((Z00 P .sub 3 (.int .i64 5) t0).bind fun t16 =>
  (Z00 P .sub 3 t16 t1).bind fun t18 =>
  some ⟨.ret,[t18],h,(c+1+1+1+1),[]⟩))
theorem ZlM (o:Orc H) (t0 t1:Value) (h:H) (c:Nat):jx P o 19 none f20_c (Z0j (List.range 2) [t0,t1]) h c [] (Kfn P Try.f20.results.toList)=ZlN o t0 t1 h c:=by kernel_rfl
theorem ZmI {t0 t1:Value} {h:FH} {c:Nat} {df:List Nat} {r:Rt FH} (e:ZlN G t0 t1 h c=some r):G (.fn 20) [t0,t1] h c df=some (gcR h c [] r):=Z0h (a:=ZlL) bk_20 rfl (fun args h c=>by cases args <;> rfl) rfl ((ZlM G t0 t1 h c).trans e)
noncomputable def Z4i (o:Orc H) (rd:Option Nat) (t0 t1 t4 t5:Value) (h:H) (c:Nat) (df:List Nat):Option (Rt H) :=
 (Z1B t0).bind fun t13 =>
 (Z00 P .lss 3 t5 t13).bind fun t14 =>
 Z08 t14
 ((ixS 1 t0 t5).bind fun t19 =>
 (ld1 h t19).bind fun t20 =>
 (ixS 1 t1 t5).bind fun t23 =>
 (ld1 h t23).bind fun t24 =>
 (Z00 P .neq 3 t20 t24).bind fun t25 =>
 Z08 t25
  (some ⟨.ret,[t0,t1,(.bool false),t5],h,(c+1+1+1),df⟩)
  ((Z00 P .add 3 t5 (.int .i64 1)).bind fun t16 =>
  some ⟨.normal,[t0,t1,t4,t16],h,(c+1+1+1),df⟩))
 (some ⟨(.exit 0),[t0,t1,t4,t5],h,(c+1),df⟩)
theorem Z4Q (o:Orc H) (rd:Option Nat) (t0 t1 t4 t5:Value) (h:H) (c:Nat) (df:List Nat):jx P o 26 rd Z3f (Z0j [0,1,4,5] [t0,t1,t4,t5]) h c df (Klp [0,1,4,5])=Z4i o rd t0 t1 t4 t5 h c df:=by kernel_rfl
noncomputable def ZiQ (o:Orc H) (t0 t1:Value) (h:H) (c:Nat):Option (Rt H) :=
 (Z1B t0).bind fun t7 =>
 (Z1B t1).bind fun t9 =>
 (Z00 P .neq 3 t7 t9).bind fun t10 =>
 Z08 t10
 (some ⟨.ret,[(.bool false)],h,(c+1+1+1),[]⟩)
 ((o (Z9Z none) [t0,t1,(.bool false),(.int .i64 0)] h (c+1+1+1) []).bind fun r0 =>
 cond (Z0x r0.e (.exit 0))
  ((Z09 r0.h r0.df).bind fun h2 =>
  some ⟨.ret,[(.bool true)],h2,(r0.c+1),[]⟩)
  (cond (Z0x r0.e .ret)
   ((Z09 r0.h r0.df).bind fun h1 =>
   some ⟨.ret,[r0.v 2],h1,r0.c,[]⟩)
   (none)))
theorem Zfn (o:Orc H) (t0 t1:Value) (h:H) (c:Nat):jx P o 26 none f21_c (Z0j (List.range 2) [t0,t1]) h c [] (Kfn P Try.f21.results.toList)=ZiQ o t0 t1 h c:=by kernel_rfl
theorem f21_go {t0 t1:Value} {h:FH} {c:Nat} {df:List Nat} {r:Rt FH} (e:ZiQ G t0 t1 h c=some r):G (.fn 21) [t0,t1] h c df=some (gcR h c [] r):=Z0h (a:=Zda) bk_21 rfl (fun args h c=>by cases args <;> rfl) rfl ((Zfn G t0 t1 h c).trans e)
noncomputable def Z7h (o:Orc H) (rd:Option Nat) (t3 t4 t5:Value) (h:H) (c:Nat) (df:List Nat):Option (Rt H) :=
 (Z00 P .gtr 3 t5 (.int .i64 0)).bind fun t17 =>
 (gd t17 true h (c+1) (some t3)).bind fun r0 =>
 (gd t17 true r0.2.1 r0.2.2 (some t5)).bind fun r1 =>
 (gd t17 true r1.2.1 r1.2.2 (ixS 1 r0.1 r1.1)).bind fun r2 =>
 (gd t17 true r2.2.1 r2.2.2 (ld1 r2.2.1 r2.1)).bind fun r3 =>
 (gd t17 true r3.2.1 r3.2.2 (some t3)).bind fun r4 =>
 (gd t17 true r4.2.1 r4.2.2 (some t5)).bind fun r5 =>
 (gd t17 true r5.2.1 r5.2.2 (Z00 P .sub 3 r5.1 (.int .i64 1))).bind fun r6 =>
 (gd t17 true r6.2.1 r6.2.2 (ixS 1 r4.1 r6.1)).bind fun r7 =>
 (gd t17 true r7.2.1 r7.2.2 (ld1 r7.2.1 r7.1)).bind fun r8 =>
 (gd t17 true r8.2.1 r8.2.2 (Z00 P .lss 3 r3.1 r8.1)).bind fun r9 =>
 (Z0v t17 r9.1 (.bool false)).bind fun t29 =>
 Z08 t29
 ((Z00 P .sub 3 t5 (.int .i64 1)).bind fun t36 =>
 (Z00 P .sub 3 t5 (.int .i64 1)).bind fun t39 =>
 (ixS 1 t3 t39).bind fun t40 =>
 (ld1 r9.2.1 t40).bind fun t41 =>
 (ixS 1 t3 t5).bind fun t44 =>
 (ld1 r9.2.1 t44).bind fun t45 =>
 (ixS 1 t3 t5).bind fun t46 =>
 (stN r9.2.1 1 t46 t41).bind fun h11 =>
 (ixS 1 t3 t36).bind fun t47 =>
 (stN h11 1 t47 t45).bind fun h13 =>
 (Z00 P .sub 3 t5 (.int .i64 1)).bind fun t31 =>
 some ⟨.normal,[t3,t4,t31],h13,(r9.2.2+1+1),df⟩)
 (some ⟨(.exit 2),[t3,t4,t5],r9.2.1,r9.2.2,df⟩)
theorem Z6u (o:Orc H) (rd:Option Nat) (t3 t4 t5:Value) (h:H) (c:Nat) (df:List Nat):jx P o 49 rd Z7f (Z0j [3,4,5] [t3,t4,t5]) h c df (Klp [3,4,5])=Z7h o rd t3 t4 t5 h c df:=by kernel_rfl
noncomputable def Z5v (o:Orc H) (rd:Option Nat) (t3 t4:Value) (h:H) (c:Nat) (df:List Nat):Option (Rt H) :=
 (Z1B t3).bind fun t11 =>
 (Z00 P .lss 3 t4 t11).bind fun t12 =>
 Z08 t12
 ((o (Z9Y rd) [t3,t4,t4] h (c+1+1) df).bind fun r0 =>
 cond (Z0x r0.e (.exit 2))
  ((Z00 P .add 3 (r0.v 1) (.int .i64 1)).bind fun t14 =>
  some ⟨.normal,[r0.v 0,t14],r0.h,(r0.c+1),r0.df⟩)
  (none))
 (some ⟨(.exit 0),[t3,t4],h,(c+1),df⟩)
theorem Z4P (o:Orc H) (rd:Option Nat) (t3 t4:Value) (h:H) (c:Nat) (df:List Nat):jx P o 49 rd Z7g (Z0j [3,4] [t3,t4]) h c df (Klp [3,4])=Z5v o rd t3 t4 h c df:=by kernel_rfl
noncomputable def ZnU (o:Orc H) (t0:Value) (h:H) (c:Nat):Option (Rt H) :=
 (Z4Y [] []).bind fun r0 =>
 (Z9h (newB h (256*(c+1)+0) r0) (256*(c+1)+2) 1 8 (.slice (some ⟨(256*(c+1)+0),0,none⟩) 0 0) t0).bind fun r1 =>
 (o (Z7e none) [r1.1,(.int .i64 1)] r1.2 (c+1+1+1) []).bind fun r2 =>
 cond (Z0x r2.e (.exit 0))
 ((Z09 r2.h r2.df).bind fun h3 =>
 some ⟨.ret,[r2.v 0],h3,(r2.c+1),[]⟩)
 (none)
theorem ZlK (o:Orc H) (t0:Value) (h:H) (c:Nat):jx P o 49 none f22_c (Z0j (List.range 1) [t0]) h c [] (Kfn P Try.f22.results.toList)=ZnU o t0 h c:=by kernel_rfl
theorem f22_go {t0:Value} {h:FH} {c:Nat} {df:List Nat} {r:Rt FH} (e:ZnU G t0 h c=some r):G (.fn 22) [t0] h c df=some r:=Z0h (a:=ZlJ) bk_22 rfl (fun args h c=>by cases args <;> rfl) rfl ((ZlK G t0 h c).trans e)
noncomputable def Z7c (o:Orc H) (rd:Option Nat) (t1 t4 t5 t8 t11 t12 t33 t34 t35 t53 t54:Value) (h:H) (c:Nat) (df:List Nat):Option (Rt H) :=
 (Z00 P .lss 3 t54 t53).bind fun t55 =>
 Z08 t55
 ((Z0s t8).bind fun t58 =>
 (Z04 t58 0).bind fun t59 =>
 (callF o 46 [t59,t54] h (c+1+1+1)).bind fun r0 =>
 (Z00 P .eql 3 r0.1 t11).bind fun t63 =>
 (Z08 t63
  ((Z00 P .quo 3 t54 (.int .i64 4)).bind fun t67 =>
  (Z00 P .mul 3 t67 (.int .i64 7)).bind fun t68 =>
  (Z00 P .rem 3 t54 (.int .i64 4)).bind fun t70 =>
  (Z00 P .add 3 t68 t70).bind fun t71 =>
  (ixS 1 t1 t71).bind fun t72 =>
  (ld1 r0.2.1 t72).bind fun t73 =>
  (Z3X min2 [t12,t73]).bind fun t74 =>
  some ⟨.normal,[t1,t4,t5,t8,t11,t74,t33,t34,t35,t53,t54],r0.2.1,(r0.2.2+1),df⟩)
  (some ⟨.normal,[t1,t4,t5,t8,t11,t12,t33,t34,t35,t53,t54],r0.2.1,r0.2.2,df⟩):Option (Rt H)).bind fun r2 =>
 cond (Z0x r2.e .normal)
  ((Z00 P .add 3 (r2.v 10) (.int .i64 1)).bind fun t75 =>
  some ⟨.normal,[r2.v 0,r2.v 1,r2.v 2,r2.v 3,r2.v 4,r2.v 5,r2.v 6,r2.v 7,r2.v 8,r2.v 9,t75],r2.h,(r2.c+1),r2.df⟩)
  (none))
 (some ⟨(.exit 2),[t1,t4,t5,t8,t11,t12,t33,t34,t35,t53,t54],h,(c+1),df⟩)
theorem Zb7 (o:Orc H) (rd:Option Nat) (t1 t4 t5 t8 t11 t12 t33 t34 t35 t53 t54:Value) (h:H) (c:Nat) (df:List Nat):jx P o 112 rd Z3d (Z0j [1,4,5,8,11,12,33,34,35,53,54] [t1,t4,t5,t8,t11,t12,t33,t34,t35,t53,t54]) h c df (Klp [1,4,5,8,11,12,33,34,35,53,54])=Z7c o rd t1 t4 t5 t8 t11 t12 t33 t34 t35 t53 t54 h c df:=by kernel_rfl
noncomputable def Z7b (o:Orc H) (rd:Option Nat) (t1 t4 t5 t8 t11 t12 t33 t34 t35 t81 t82:Value) (h:H) (c:Nat) (df:List Nat):Option (Rt H) :=
 (Z00 P .lss 3 t82 t81).bind fun t83 =>
 Z08 t83
 ((Z0s t8).bind fun t86 =>
 (Z04 t86 0).bind fun t87 =>
 (callF o 46 [t87,t82] h (c+1+1+1)).bind fun r0 =>
 (Z00 P .eql 3 r0.1 t11).bind fun t91 =>
 (Z08 t91
  ((Z00 P .quo 3 t82 (.int .i64 4)).bind fun t94 =>
  (Z00 P .mul 3 t94 (.int .i64 7)).bind fun t95 =>
  (Z00 P .rem 3 t82 (.int .i64 4)).bind fun t97 =>
  (Z00 P .add 3 t95 t97).bind fun t98 =>
  (ixS 1 t5 t98).bind fun t99 =>
  (ld1 r0.2.1 t99).bind fun t100 =>
  (Z00 P .sub 3 t100 t12).bind fun t102 =>
  (ixS 1 t5 t98).bind fun t103 =>
  (stN r0.2.1 1 t103 t102).bind fun h2 =>
  some ⟨.normal,[t1,t4,t5,t8,t11,t12,t33,t34,t35,t81,t82],h2,(r0.2.2+1),df⟩)
  (some ⟨.normal,[t1,t4,t5,t8,t11,t12,t33,t34,t35,t81,t82],r0.2.1,r0.2.2,df⟩):Option (Rt H)).bind fun r3 =>
 cond (Z0x r3.e .normal)
  ((Z00 P .add 3 (r3.v 10) (.int .i64 1)).bind fun t104 =>
  some ⟨.normal,[r3.v 0,r3.v 1,r3.v 2,r3.v 3,r3.v 4,r3.v 5,r3.v 6,r3.v 7,r3.v 8,r3.v 9,t104],r3.h,(r3.c+1),r3.df⟩)
  (none))
 (some ⟨(.exit 4),[t1,t4,t5,t8,t11,t12,t33,t34,t35,t81,t82],h,(c+1),df⟩)
theorem Zb6 (o:Orc H) (rd:Option Nat) (t1 t4 t5 t8 t11 t12 t33 t34 t35 t81 t82:Value) (h:H) (c:Nat) (df:List Nat):jx P o 112 rd Z3c (Z0j [1,4,5,8,11,12,33,34,35,81,82] [t1,t4,t5,t8,t11,t12,t33,t34,t35,t81,t82]) h c df (Klp [1,4,5,8,11,12,33,34,35,81,82])=Z7b o rd t1 t4 t5 t8 t11 t12 t33 t34 t35 t81 t82 h c df:=by kernel_rfl
noncomputable def Z7d (o:Orc H) (rd:Option Nat) (t1 t4 t5 t8 t33 t34 t35:Value) (h:H) (c:Nat) (df:List Nat):Option (Rt H) :=
 (Z00 P .lss 3 t35 t34).bind fun t36 =>
 Z08 t36
 ((ixS 1 t33 t35).bind fun t37 =>
 (ld1 h t37).bind fun t38 =>
 (Z00 P .quo 3 t38 (.int .i64 4)).bind fun t41 =>
 (Z00 P .mul 3 t41 (.int .i64 7)).bind fun t42 =>
 (Z00 P .rem 3 t38 (.int .i64 4)).bind fun t44 =>
 (Z00 P .add 3 t42 t44).bind fun t45 =>
 (ixS 1 t1 t45).bind fun t46 =>
 (ld1 h t46).bind fun t47 =>
 (Z0s t8).bind fun t49 =>
 (Z04 t49 0).bind fun t50 =>
 (Z04 t50 0).bind fun t51 =>
 (ld1 h t51).bind fun t52 =>
 (Z1B t52).bind fun t53 =>
 (o (ZgN rd) [t1,t4,t5,t8,t38,t47,t33,t34,t35,t53,(.int .i64 0)] h (c+1+1+1+1) df).bind fun r0 =>
 cond (Z0x r0.e (.exit 2))
  ((Z0s (r0.v 3)).bind fun t77 =>
  (Z04 t77 0).bind fun t78 =>
  (Z04 t78 0).bind fun t79 =>
  (ld1 r0.h t79).bind fun t80 =>
  (Z1B t80).bind fun t81 =>
  (o (ZgM rd) [r0.v 0,r0.v 1,r0.v 2,r0.v 3,r0.v 4,r0.v 5,r0.v 6,r0.v 7,r0.v 8,t81,(.int .i64 0)] r0.h (r0.c+1) r0.df).bind fun r1 =>
  cond (Z0x r1.e (.exit 4))
   ((Z4Y [(.int .i64 0)] [(0,1,(r1.v 5))]).bind fun r2 =>
   (Z9h (newB r1.h (256*r1.c+2) r2) (256*r1.c+3) 1 8 (r1.v 1) (.slice (some ⟨(256*r1.c+2),0,none⟩) 1 1)).bind fun r3 =>
   (Z00 P .add 3 (r1.v 8) (.int .i64 1)).bind fun t109 =>
   some ⟨.normal,[r1.v 0,r3.1,r1.v 2,r1.v 3,r1.v 6,r1.v 7,t109],r3.2,(r1.c+1+1),r1.df⟩)
   (none))
  (none))
 (some ⟨(.exit 0),[t1,t4,t5,t8,t33,t34,t35],h,(c+1),df⟩)
theorem Zb8 (o:Orc H) (rd:Option Nat) (t1 t4 t5 t8 t33 t34 t35:Value) (h:H) (c:Nat) (df:List Nat):jx P o 112 rd Z3e (Z0j [1,4,5,8,33,34,35] [t1,t4,t5,t8,t33,t34,t35]) h c df (Klp [1,4,5,8,33,34,35])=Z7d o rd t1 t4 t5 t8 t33 t34 t35 h c df:=by kernel_rfl
noncomputable def ZnT (o:Orc H) (t0 t1:Value) (h:H) (c:Nat):Option (Rt H) :=
 (bif (t0:Value).cells.toList.all Z0d then
 (ldN (newB h (256*c+0) (t0:Value).cells.toList) 1 (ptrTo (256*c+0))).bind fun t15 =>
 (Z4Y [(.slice none 0 0)] [(0,1,t1)]).bind fun r0 =>
 (callF o 47 [t15,(.slice (some ⟨(256*(c+1)+2),0,none⟩) 1 1)] (newB (newB h (256*c+0) (t0:Value).cells.toList) (256*(c+1)+2) r0) (c+1+1)).bind fun r1 =>
 (Z00 P .neq 27 r1.1 (.int .i64 0)).bind fun t20 =>
 Z08 t20
 (some ⟨.ret,[.tuple #[(.slice none 0 0),(.slice none 0 0),r1.1]],r1.2.1,(r1.2.2+1+1),[]⟩)
 ((ldN r1.2.1 1 (ptrTo (256*c+0))).bind fun t23 =>
 (callF o 44 [t23] r1.2.1 (r1.2.2+1+1)).bind fun r2 =>
 (Z2q r2.1 0).bind fun t25 =>
 (Z2q r2.1 1).bind fun t26 =>
 (callF o 53 [t1] r2.2.1 (r2.2.2+1)).bind fun r3 =>
 (Z4Y [] []).bind fun r4 =>
 (Z0s t25).bind fun t31 =>
 (Z04 t31 0).bind fun t32 =>
 (callF o 45 [t32] (newB r3.2.1 (256*r3.2.2+0) r4) (r3.2.2+1+1)).bind fun r5 =>
 (Z1B r5.1).bind fun t34 =>
 (o (ZgO none) [t1,(.slice (some ⟨(256*r3.2.2+0),0,none⟩) 0 0),r3.1,t25,r5.1,t34,(.int .i64 0)] r5.2.1 r5.2.2 []).bind fun r6 =>
 cond (Z0x r6.e (.exit 0))
  ((Z09 r6.h r6.df).bind fun h7 =>
  some ⟨.ret,[.tuple #[r6.v 1,r6.v 2,(.int .i64 0)]],h7,(r6.c+1),[]⟩)
  (none))
 else none)
theorem ZlI (o:Orc H) (t0 t1:Value) (h:H) (c:Nat):jx P o 112 none f23_c (Z0j (List.range 2) [t0,t1]) h c [] (Kfn P Try.f23.results.toList)=ZnT o t0 t1 h c:=by kernel_rfl
noncomputable def Z7a (o:Orc H) (rd:Option Nat) (t1 t2 t4 t5 t29 t30:Value) (h:H) (c:Nat) (df:List Nat):Option (Rt H) :=
 (Z00 P .lss 3 t30 t29).bind fun t31 =>
 Z08 t31
 ((Z00 P .mul 3 (.int .i64 3) t30).bind fun t35 =>
 (Z00 P .mul 3 (.int .i64 3) t30).bind fun t37 =>
 (Z00 P .add 3 t37 (.int .i64 3)).bind fun t38 =>
 (slS h 1 t1 (some t35) (some t38) none).bind fun t39 =>
 (callF o 56 [t39] h (c+1+1+1)).bind fun r0 =>
 (Z1t .not r0.1).bind fun t41 =>
 Z08 t41
  (some ⟨.ret,[t1,t2,(.slice none 0 0),(.int .i64 1),t29,t30],r0.2.1,(r0.2.2+1),df⟩)
  ((Z00 P .add 3 t30 (.int .i64 1)).bind fun t42 =>
  some ⟨.normal,[t1,t2,t4,t5,t29,t42],r0.2.1,(r0.2.2+1),df⟩))
 (some ⟨(.exit 0),[t1,t2,t4,t5,t29,t30],h,(c+1),df⟩)
theorem Zb5 (o:Orc H) (rd:Option Nat) (t1 t2 t4 t5 t29 t30:Value) (h:H) (c:Nat) (df:List Nat):jx P o 52 rd Z3b (Z0j [1,2,4,5,29,30] [t1,t2,t4,t5,t29,t30]) h c df (Klp [1,2,4,5,29,30])=Z7a o rd t1 t2 t4 t5 t29 t30 h c df:=by kernel_rfl
noncomputable def ZnS (o:Orc H) (t0 t1:Value) (h:H) (c:Nat):Option (Rt H) :=
 (bif (t0:Value).cells.toList.all Z0d then
 (ldN (newB h (256*c+0) (t0:Value).cells.toList) 1 (ptrTo (256*c+0))).bind fun t10 =>
 (callF o 43 [t10] (newB h (256*c+0) (t0:Value).cells.toList) (c+1+1)).bind fun r0 =>
 (Z00 P .neq 27 r0.1 (.int .i64 0)).bind fun t13 =>
 Z08 t13
 (some ⟨.ret,[.tuple #[(.slice none 0 0),r0.1]],r0.2.1,(r0.2.2+1+1),[]⟩)
 ((Z1B t1).bind fun t16 =>
 (Z04 (ptrTo (256*c+0)) 0).bind fun t17 =>
 (ld1 r0.2.1 t17).bind fun t18 =>
 (Z1B t18).bind fun t19 =>
 (Z00 P .mul 3 (.int .i64 3) t19).bind fun t20 =>
 (Z00 P .neq 3 t16 t20).bind fun t21 =>
 (gd t21 false r0.2.1 (r0.2.2+1+1) (some t1)).bind fun r1 =>
 (gg t21 false r1.2.1 r1.2.2 (callF o 55 [r1.1] r1.2.1 r1.2.2)).bind fun r2 =>
 (gd t21 false r2.2.1 r2.2.2 (Z1t .not r2.1)).bind fun r3 =>
 (Z0v t21 (.bool true) r3.1).bind fun t26 =>
 Z08 t26
  (some ⟨.ret,[.tuple #[(.slice none 0 0),(.int .i64 1)]],r3.2.1,(r3.2.2+1),[]⟩)
  ((Z04 (ptrTo (256*c+0)) 0).bind fun t27 =>
  (ld1 r3.2.1 t27).bind fun t28 =>
  (Z1B t28).bind fun t29 =>
  (o (ZgK none) [t1,(ptrTo (256*c+0)),(.slice none 0 0),(.int .i64 0),t29,(.int .i64 0)] r3.2.1 (r3.2.2+1) []).bind fun r4 =>
  cond (Z0x r4.e (.exit 0))
   ((ldN r4.h 1 (r4.v 1)).bind fun t44 =>
   (callF o 57 [t44,r4.v 0] r4.h (r4.c+1)).bind fun r6 =>
   (Z2q r6.1 0).bind fun t47 =>
   (Z2q r6.1 1).bind fun t48 =>
   (Z1t .not t48).bind fun t50 =>
   Z08 t50
    ((Z09 r6.2.1 r4.df).bind fun h7 =>
    some ⟨.ret,[.tuple #[(.slice none 0 0),(.int .i64 3)]],h7,(r6.2.2+1+1),[]⟩)
    ((Z09 r6.2.1 r4.df).bind fun h8 =>
    some ⟨.ret,[.tuple #[t47,(.int .i64 0)]],h8,(r6.2.2+1+1),[]⟩))
   (cond (Z0x r4.e .ret)
    ((Z09 r4.h r4.df).bind fun h5 =>
    some ⟨.ret,[.tuple #[r4.v 2,r4.v 3]],h5,r4.c,[]⟩)
    (none))))
 else none)
theorem ZlH (o:Orc H) (t0 t1:Value) (h:H) (c:Nat):jx P o 52 none f25_c (Z0j (List.range 2) [t0,t1]) h c [] (Kfn P Try.f25.results.toList)=ZnS o t0 t1 h c:=by kernel_rfl
end Go.Proofs.Ytcnndelmnobigaa
