/- Parts of a proof: S0 S1 S2. Conditions: none. -/
import Derived.Test.YtdodippbpdechaaM8
set_option linter.all false
set_option maxRecDepth 100000
set_option maxHeartbeats 4000000
namespace Go.Proofs.Ytdodippbpdechaa
open Go Go.Ab Go.Proofs
variable {H:Type} [HeapC H]
noncomputable def f6_S (o:Orc H) (t0 t1 t2:Value) (h:H) (c:Nat):Option (Rt H) :=
 (bif (t0:Value).cells.toList.all Z08 then
 (Z03 (ptrTo (256*c+0)) 0).bind fun t23 =>
 (ld1 (newB h (256*c+0) (t0:Value).cells.toList) t23).bind fun t24 =>
 (Z1q t24).bind fun t25 =>
 (Z00 P .gtr 3 t25 (.int .i64 30)).bind fun t26 =>
 Z09 t26
 ((callF o 10 [] (newB h (256*c+0) (t0:Value).cells.toList) (c+1+1+1)).bind fun r0 =>
 some ⟨.ret,[r0.1],r0.2.1,r0.2.2,[]⟩)
 ((ldN (newB h (256*c+0) (t0:Value).cells.toList) 1 (ptrTo (256*c+0))).bind fun t29 =>
 (callF o 21 [t29] (newB h (256*c+0) (t0:Value).cells.toList) (c+1+1+1)).bind fun r1 =>
 (Z19 r1.1 0).bind fun t31 =>
 (Z19 r1.1 1).bind fun t32 =>
 (stN (newB r1.2.1 (256*(c+1+1)+5) [(.slice none 0 0),(.slice none 0 0),(.slice none 0 0),(.slice none 0 0),(.slice none 0 0),(.slice none 0 0)]) 6 (ptrTo (256*(c+1+1)+5)) t31).bind fun h3 =>
 (ldN h3 1 (ptrTo (256*c+0))).bind fun t34 =>
 (callF o 22 [t34] h3 (r1.2.2+1)).bind fun r4 =>
 (Z19 r4.1 0).bind fun t36 =>
 (Z19 r4.1 1).bind fun t37 =>
 (ldN r4.2.1 1 (ptrTo (256*c+0))).bind fun t39 =>
 (callF o 23 [t39] r4.2.1 (r4.2.2+1)).bind fun r5 =>
 (Z19 r5.1 0).bind fun t41 =>
 (Z19 r5.1 1).bind fun t42 =>
 (callF o 24 [t1] r5.2.1 (r5.2.2+1)).bind fun r6 =>
 (Z19 r6.1 0).bind fun t46 =>
 (Z19 r6.1 1).bind fun t47 =>
 (ldN r6.2.1 1 (ptrTo (256*c+0))).bind fun t49 =>
 (callF o 11 [t49] r6.2.1 (r6.2.2+1)).bind fun r7 =>
 (Z19 r7.1 0).bind fun t51 =>
 (Z19 r7.1 1).bind fun t52 =>
 (stN (newB r7.2.1 (256*r6.2.2+5) [(.slice none 0 0),(.slice none 0 0),(.slice none 0 0),(.slice none 0 0),(.slice none 0 0),(.slice none 0 0)]) 6 (ptrTo (256*r6.2.2+5)) t51).bind fun h9 =>
 (ldN h9 1 (ptrTo (256*c+0))).bind fun t54 =>
 (callF o 13 [t54] h9 (r7.2.2+1)).bind fun r10 =>
 (Z19 r10.1 0).bind fun t56 =>
 (Z19 r10.1 1).bind fun t57 =>
 (ldN r10.2.1 1 (ptrTo (256*c+0))).bind fun t59 =>
 (callF o 12 [t59] r10.2.1 (r10.2.2+1)).bind fun r11 =>
 (Z19 r11.1 0).bind fun t61 =>
 (Z19 r11.1 1).bind fun t62 =>
 (callF o 25 [t1] r11.2.1 (r11.2.2+1)).bind fun r12 =>
 (Z19 r12.1 0).bind fun t66 =>
 (Z19 r12.1 1).bind fun t67 =>
 (callF o 10 [] r12.2.1 (r12.2.2+1)).bind fun r13 =>
 (gd r13.1 true r13.2.1 r13.2.2 (some t52)).bind fun r14 =>
 (gd r13.1 true r14.2.1 r14.2.2 (some t32)).bind fun r15 =>
 (gd r13.1 true r15.2.1 r15.2.2 (Z00 P .eql 33 r14.1 r15.1)).bind fun r16 =>
 (Z0C r13.1 r16.1 (.bool false)).bind fun t73 =>
 (gd t73 true r16.2.1 r16.2.2 (ldN r16.2.1 6 (ptrTo (256*r6.2.2+5)))).bind fun r17 =>
 (gd t73 true r17.2.1 r17.2.2 (ldN r17.2.1 6 (ptrTo (256*(c+1+1)+5)))).bind fun r18 =>
 (gg t73 true r18.2.1 r18.2.2 (callF o 26 [r17.1,r18.1] r18.2.1 r18.2.2)).bind fun r19 =>
 (Z0C t73 r19.1 (.bool false)).bind fun t78 =>
 (gd t78 true r19.2.1 r19.2.2 (some t56)).bind fun r20 =>
 (gd t78 true r20.2.1 r20.2.2 (some t36)).bind fun r21 =>
 (gd t78 true r21.2.1 r21.2.2 (Z00 P .eql 3 r20.1 r21.1)).bind fun r22 =>
 (Z0C t78 r22.1 (.bool false)).bind fun t83 =>
 (gd t83 true r22.2.1 r22.2.2 (some t57)).bind fun r23 =>
 (gd t83 true r23.2.1 r23.2.2 (some t37)).bind fun r24 =>
 (gd t83 true r24.2.1 r24.2.2 (Z00 P .eql 33 r23.1 r24.1)).bind fun r25 =>
 (Z0C t83 r25.1 (.bool false)).bind fun t88 =>
 (gd t88 true r25.2.1 r25.2.2 (some t61)).bind fun r26 =>
 (gd t88 true r26.2.1 r26.2.2 (some t41)).bind fun r27 =>
 (gd t88 true r27.2.1 r27.2.2 (Z00 P .eql 3 r26.1 r27.1)).bind fun r28 =>
 (Z0C t88 r28.1 (.bool false)).bind fun t93 =>
 (gd t93 true r28.2.1 r28.2.2 (some t62)).bind fun r29 =>
 (gd t93 true r29.2.1 r29.2.2 (some t42)).bind fun r30 =>
 (gd t93 true r30.2.1 r30.2.2 (Z00 P .eql 33 r29.1 r30.1)).bind fun r31 =>
 (Z0C t93 r31.1 (.bool false)).bind fun t98 =>
 (gd t98 true r31.2.1 r31.2.2 (some t1)).bind fun r32 =>
 (gd t98 true r32.2.1 r32.2.2 (some t2)).bind fun r33 =>
 (gg t98 true r33.2.1 r33.2.2 (callF o 27 [r32.1,r33.1] r33.2.1 r33.2.2)).bind fun r34 =>
 (gd t98 true r34.2.1 r34.2.2 (some t1)).bind fun r35 =>
 (gd t98 true r35.2.1 r35.2.2 (some t2)).bind fun r36 =>
 (gg t98 true r36.2.1 r36.2.2 (callF o 28 [r35.1,r36.1] r36.2.1 r36.2.2)).bind fun r37 =>
 (gd t98 true r37.2.1 r37.2.2 (Z00 P .eql 3 r34.1 r37.1)).bind fun r38 =>
 (Z0C t98 r38.1 (.bool false)).bind fun t107 =>
 (gd t107 true r38.2.1 r38.2.2 (some t66)).bind fun r39 =>
 (gd t107 true r39.2.1 r39.2.2 (some t46)).bind fun r40 =>
 (gd t107 true r40.2.1 r40.2.2 (Z00 P .eql 3 r39.1 r40.1)).bind fun r41 =>
 (Z0C t107 r41.1 (.bool false)).bind fun t112 =>
 (gd t112 true r41.2.1 r41.2.2 (some t67)).bind fun r42 =>
 (gd t112 true r42.2.1 r42.2.2 (some t47)).bind fun r43 =>
 (gd t112 true r43.2.1 r43.2.2 (Z00 P .eql 3 r42.1 r43.1)).bind fun r44 =>
 (Z0C t112 r44.1 (.bool false)).bind fun t117 =>
 some ⟨.ret,[t117],r44.2.1,r44.2.2,[]⟩)
 else none)
theorem ZpT (o:Orc H) (t0 t1 t2:Value) (h:H) (c:Nat):jx P o 118 none f6_c (Z0h (List.range 3) [t0,t1,t2]) h c [] (Kfn P Try.f6.results.toList)=f6_S o t0 t1 t2 h c:=by kernel_rfl
theorem f6_go {t0 t1 t2:Value} {h:FH} {c:Nat} {df:List Nat} {r:Rt FH} (e:f6_S G t0 t1 t2 h c=some r):G (.fn 6) [t0,t1,t2] h c df=some (gcR h c [] r):=Z0f (a:=f6_f) bk_6 rfl (fun args h c=>by cases args <;> rfl) rfl ((ZpT G t0 t1 t2 h c).trans e)
noncomputable def Zqd (o:Orc H) (h:H) (c:Nat):Option (Rt H) :=
 (callF o 37 [] h (c+1+1)).bind fun r0 =>
 (callF o 13 [r0.1] r0.2.1 r0.2.2).bind fun r1 =>
 (Z19 r1.1 0).bind fun t8 =>
 (Z19 r1.1 1).bind fun t9 =>
 (callF o 37 [] r1.2.1 (r1.2.2+1)).bind fun r2 =>
 (callF o 11 [r2.1] r2.2.1 r2.2.2).bind fun r3 =>
 (Z19 r3.1 0).bind fun t13 =>
 (Z19 r3.1 1).bind fun t14 =>
 (stN (newB r3.2.1 (256*r1.2.2+5) [(.slice none 0 0),(.slice none 0 0),(.slice none 0 0),(.slice none 0 0),(.slice none 0 0),(.slice none 0 0)]) 6 (ptrTo (256*r1.2.2+5)) t13).bind fun h5 =>
 (Z00 P .eql 33 t9 (.int .i64 0)).bind fun t16 =>
 (gd t16 true h5 (r3.2.2+1) (some t8)).bind fun r6 =>
 (gd t16 true r6.2.1 r6.2.2 (Z00 P .eql 3 r6.1 (.int .i64 1))).bind fun r7 =>
 (Z0C t16 r7.1 (.bool false)).bind fun t20 =>
 (gd t20 true r7.2.1 r7.2.2 (some t14)).bind fun r8 =>
 (gd t20 true r8.2.1 r8.2.2 (Z00 P .eql 33 r8.1 (.int .i64 0))).bind fun r9 =>
 (Z0C t20 r9.1 (.bool false)).bind fun t24 =>
 (gd t24 true r9.2.1 r9.2.2 (Z03 (ptrTo (256*r1.2.2+5)) 3)).bind fun r10 =>
 (gd t24 true r10.2.1 r10.2.2 (ld1 r10.2.1 r10.1)).bind fun r11 =>
 (gg t24 true r11.2.1 r11.2.2 ((Z9D [(.int .i64 0),(.int .i64 0),(.int .i64 0)] [(0,1,(.int .i64 1)),(1,1,(.int .i64 4)),(2,1,(.int .i64 1))]).bind fun cs=>some (.slice (some ⟨(256*r3.2.2+13),0,none⟩) 3 3,newB r11.2.1 (256*r3.2.2+13) cs,r11.2.2))).bind fun r12 =>
 (gg t24 true r12.2.1 r12.2.2 (callF o 16 [r11.1,r12.1] r12.2.1 r12.2.2)).bind fun r13 =>
 (Z0C t24 r13.1 (.bool false)).bind fun t30 =>
 some ⟨.ret,[t30],r13.2.1,r13.2.2,[]⟩
theorem ZnL (o:Orc H) (h:H) (c:Nat):jx P o 31 none f10_c (Z0h (List.range 0) []) h c [] (Kfn P Try.f10.results.toList)=Zqd o h c:=by kernel_rfl
noncomputable def Zic (o:Orc H) (t0:Value) (h:H) (c:Nat):Option (Rt H) :=
 (bif (t0:Value).cells.toList.all Z08 then
 (ldN (newB (newB h (256*c+0) (t0:Value).cells.toList) (256*c+1) [(.slice none 0 0),(.slice none 0 0),(.slice none 0 0),(.slice none 0 0),(.slice none 0 0),(.slice none 0 0)]) 1 (ptrTo (256*c+0))).bind fun t4 =>
 (callF o 38 [t4] (newB (newB h (256*c+0) (t0:Value).cells.toList) (256*c+1) [(.slice none 0 0),(.slice none 0 0),(.slice none 0 0),(.slice none 0 0),(.slice none 0 0),(.slice none 0 0)]) (c+1+1)).bind fun r0 =>
 (Z00 P .neq 33 r0.1 (.int .i64 0)).bind fun t6 =>
 Z09 t6
 ((Z1K [(.slice none 0 0),(.slice none 0 0),(.slice none 0 0),(.slice none 0 0),(.slice none 0 0),(.slice none 0 0)] []).bind fun t7 =>
 (stN r0.2.1 6 (ptrTo (256*c+1)) t7).bind fun h2 =>
 (ldN h2 6 (ptrTo (256*c+1))).bind fun v3 =>
 some ⟨.ret,[.tuple #[v3,(.int .i64 7)]],h2,(r0.2.2+1),[]⟩)
 ((ldN r0.2.1 1 (ptrTo (256*c+0))).bind fun t8 =>
 (callF o 39 [t8] r0.2.1 (r0.2.2+1)).bind fun r4 =>
 (stN r4.2.1 6 (ptrTo (256*c+1)) r4.1).bind fun h6 =>
 (ldN h6 6 (ptrTo (256*c+1))).bind fun v7 =>
 some ⟨.ret,[.tuple #[v7,(.int .i64 0)]],h6,r4.2.2,[]⟩)
 else none)
theorem ZgW (o:Orc H) (t0:Value) (h:H) (c:Nat):jx P o 10 none f11_c (Z0h (List.range 1) [t0]) h c [] (Kfn P Try.f11.results.toList)=Zic o t0 h c:=by kernel_rfl
theorem Zov {t0:Value} {h:FH} {c:Nat} {df:List Nat} {r:Rt FH} (e:Zic G t0 h c=some r):G (.fn 11) [t0] h c df=some r:=Z0f (a:=Zf1) bk_11 rfl (fun args h c=>by cases args <;> rfl) rfl ((ZgW G t0 h c).trans e)
noncomputable def Zqc (o:Orc H) (t0:Value) (h:H) (c:Nat):Option (Rt H) :=
 (bif (t0:Value).cells.toList.all Z08 then
 (ldN (newB h (256*c+0) (t0:Value).cells.toList) 1 (ptrTo (256*c+0))).bind fun t11 =>
 (callF o 38 [t11] (newB h (256*c+0) (t0:Value).cells.toList) (c+1+1)).bind fun r0 =>
 (Z00 P .neq 33 r0.1 (.int .i64 0)).bind fun t13 =>
 Z09 t13
 (some ⟨.ret,[.tuple #[(.int .i64 0),(.int .i64 7)]],r0.2.1,(r0.2.2+1),[]⟩)
 ((ldN r0.2.1 1 (ptrTo (256*c+0))).bind fun t14 =>
 (callF o 40 [t14] r0.2.1 (r0.2.2+1)).bind fun r1 =>
 (Z0e r1.1).bind fun t18 =>
 (Z03 t18 1).bind fun t19 =>
 (Z03 t19 0).bind fun t20 =>
 (callF o 41 [t20] r1.2.1 (r1.2.2+1)).bind fun r2 =>
 (Z19 r2.1 0).bind fun t22 =>
 (Z19 r2.1 1).bind fun t23 =>
 (Z0e r1.1).bind fun t26 =>
 (Z03 t26 3).bind fun t27 =>
 (Z03 t27 0).bind fun t28 =>
 (callF o 41 [t28] r2.2.1 (r2.2.2+1)).bind fun r3 =>
 (Z19 r3.1 0).bind fun t30 =>
 (Z19 r3.1 1).bind fun t31 =>
 (Z0e r1.1).bind fun t34 =>
 (Z03 t34 4).bind fun t35 =>
 (Z03 t35 0).bind fun t36 =>
 (callF o 41 [t36] r3.2.1 (r3.2.2+1)).bind fun r4 =>
 (Z19 r4.1 0).bind fun t38 =>
 (Z19 r4.1 1).bind fun t39 =>
 (Z00 P .sub 3 t23 t31).bind fun t42 =>
 (Z00 P .add 3 t42 t39).bind fun t44 =>
 (Z03 (ptrTo (256*c+0)) 0).bind fun t45 =>
 (ld1 r4.2.1 t45).bind fun t46 =>
 (Z1q t46).bind fun t47 =>
 (Z00 P .sub 3 t44 t47).bind fun t48 =>
 some ⟨.ret,[.tuple #[t48,(.int .i64 0)]],r4.2.1,(r4.2.2+1),[]⟩)
 else none)
theorem ZnK (o:Orc H) (t0:Value) (h:H) (c:Nat):jx P o 49 none f12_c (Z0h (List.range 1) [t0]) h c [] (Kfn P Try.f12.results.toList)=Zqc o t0 h c:=by kernel_rfl
theorem f12_go {t0:Value} {h:FH} {c:Nat} {df:List Nat} {r:Rt FH} (e:Zqc G t0 h c=some r):G (.fn 12) [t0] h c df=some (gcR h c [] r):=Z0f (a:=ZnJ) bk_12 rfl (fun args h c=>by cases args <;> rfl) rfl ((ZnK G t0 h c).trans e)
noncomputable def Z4K (o:Orc H) (rd:Option Nat) (t2 t3 t4 t12 t13:Value) (h:H) (c:Nat) (df:List Nat):Option (Rt H) :=
 (Z00 P .lss 3 t13 (.int .i64 4)).bind fun t14 =>
 Z09 t14
 ((ixV 4 true 2 t12 t13).bind fun t15 =>
 (stN (newB h (256*(c+1)+1) [(.int .i64 0),.nilFunc]) 2 (ptrTo (256*(c+1)+1)) t15).bind fun h1 =>
 (Z03 (ptrTo (256*(c+1)+1)) 1).bind fun t16 =>
 (ld1 h1 t16).bind fun t17 =>
 (ldN h1 4 t4).bind fun t18 =>
 (Z43 o h1 (c+1+1+1) t17 [t18]).bind fun r2 =>
 Z09 r2.1
  ((Z03 (ptrTo (256*(c+1)+1)) 0).bind fun t20 =>
  (ld1 r2.2.1 t20).bind fun t21 =>
  some ⟨.ret,[t21,(.int .i64 0),t4,t12,t13],r2.2.1,(r2.2.2+1),df⟩)
  ((Z00 P .add 3 t13 (.int .i64 1)).bind fun t22 =>
  some ⟨.normal,[t2,t3,t4,t12,t22],r2.2.1,(r2.2.2+1),df⟩))
 (some ⟨(.exit 0),[t2,t3,t4,t12,t13],h,(c+1),df⟩)
theorem Z5u (o:Orc H) (rd:Option Nat) (t2 t3 t4 t12 t13:Value) (h:H) (c:Nat) (df:List Nat):jx P o 23 rd Z3T (Z0h [2,3,4,12,13] [t2,t3,t4,t12,t13]) h c df (Klp [2,3,4,12,13])=Z4K o rd t2 t3 t4 t12 t13 h c df:=by kernel_rfl
noncomputable def Zk1 (o:Orc H) (t0:Value) (h:H) (c:Nat):Option (Rt H) :=
 (bif (t0:Value).cells.toList.all Z08 then
 (ldN (newB h (256*c+0) (t0:Value).cells.toList) 1 (ptrTo (256*c+0))).bind fun t7 =>
 (callF o 38 [t7] (newB h (256*c+0) (t0:Value).cells.toList) (c+1+1)).bind fun r0 =>
 (Z00 P .neq 33 r0.1 (.int .i64 0)).bind fun t9 =>
 Z09 t9
 (some ⟨.ret,[.tuple #[(.int .i64 0),(.int .i64 7)]],r0.2.1,(r0.2.2+1),[]⟩)
 ((ldN r0.2.1 1 (ptrTo (256*c+0))).bind fun t10 =>
 (callF o 42 [t10] r0.2.1 (r0.2.2+1)).bind fun r1 =>
 (stN (newB r1.2.1 (256*r0.2.2+2) [(.bool false),(.bool false),(.bool false),(.bool false)]) 4 (ptrTo (256*r0.2.2+2)) r1.1).bind fun h3 =>
 (callF o 43 [] h3 (r1.2.2+1)).bind fun r4 =>
 (o (Z4J none) [(.int .i64 0),(.int .i64 0),(ptrTo (256*r0.2.2+2)),r4.1,(.int .i64 0)] r4.2.1 r4.2.2 []).bind fun r5 =>
 cond (Z0r r5.e (.exit 0))
  ((Z0a r5.h r5.df).bind fun h7 =>
  some ⟨.ret,[.tuple #[(.int .i64 4),(.int .i64 0)]],h7,(r5.c+1),[]⟩)
  (cond (Z0r r5.e .ret)
   ((Z0a r5.h r5.df).bind fun h6 =>
   some ⟨.ret,[.tuple #[r5.v 0,r5.v 1]],h6,r5.c,[]⟩)
   (none)))
 else none)
theorem ZgV (o:Orc H) (t0:Value) (h:H) (c:Nat):jx P o 23 none f13_c (Z0h (List.range 1) [t0]) h c [] (Kfn P Try.f13.results.toList)=Zk1 o t0 h c:=by kernel_rfl
theorem f13_go {t0:Value} {h:FH} {c:Nat} {df:List Nat} {r:Rt FH} (e:Zk1 G t0 h c=some r):G (.fn 13) [t0] h c df=some (gcR h c [] r):=Z0f (a:=Zf0) bk_13 rfl (fun args h c=>by cases args <;> rfl) rfl ((ZgV G t0 h c).trans e)
noncomputable def Z20 (o:Orc H) (rd:Option Nat) (t1 t2 t3 t4 t5:Value) (h:H) (c:Nat) (df:List Nat):Option (Rt H) :=
 (Z00 P .lss 3 t5 (.int .i64 4)).bind fun t18 =>
 Z09 t18
 (((Z03 t1 0).bind fun t21 =>
  (ld1 h t21).bind fun t22 =>
  (ixS 20 t22 t4).bind fun t25 =>
  (ixA 4 5 t25 t5).bind fun t26 =>
  (ldN h 5 t26).bind fun t27 =>
  (stN (newB h (256*(c+1)+7) [(.int .i64 0),(.int .i64 0),(.int .i64 0),(.int .i64 0),(.int .i64 0)]) 5 (ptrTo (256*(c+1)+7)) t27).bind fun h1 =>
  (Z03 (ptrTo (256*(c+1)+7)) 0).bind fun t28 =>
  (ld1 h1 t28).bind fun t29 =>
  (Z00 P .eql 3 t29 (.int .i64 (-1))).bind fun t30 =>
  (gd t30 true h1 (c+1+1+1) (Z03 (ptrTo (256*(c+1)+7)) 1)).bind fun r2 =>
  (gd t30 true r2.2.1 r2.2.2 (ldN r2.2.1 4 r2.1)).bind fun r3 =>
  (gd t30 true r3.2.1 r3.2.2 (Z1K [(.int .i64 0),(.int .i64 0),(.int .i64 0),(.int .i64 0)] [])).bind fun r4 =>
  (gd t30 true r4.2.1 r4.2.2 (Z00 P .eql 42 r3.1 r4.1)).bind fun r5 =>
  (Z0C t30 r5.1 (.bool false)).bind fun t36 =>
  Z09 t36
   (some ⟨.normal,[t1,t2,t3,t4,t5],r5.2.1,r5.2.2,df⟩)
   ((Z03 (ptrTo (256*(c+1)+7)) 0).bind fun t37 =>
   (ld1 r5.2.1 t37).bind fun t38 =>
   (Z00 P .lss 3 t38 (.int .i64 0)).bind fun t39 =>
   (gd t39 false r5.2.1 (r5.2.2+1) (Z03 (ptrTo (256*(c+1)+7)) 0)).bind fun r6 =>
   (gd t39 false r6.2.1 r6.2.2 (ld1 r6.2.1 r6.1)).bind fun r7 =>
   (gd t39 false r7.2.1 r7.2.2 (some t3)).bind fun r8 =>
   (gd t39 false r8.2.1 r8.2.2 (Z00 P .geq 3 r7.1 r8.1)).bind fun r9 =>
   (Z0C t39 (.bool true) r9.1).bind fun t45 =>
   (gd t45 false r9.2.1 r9.2.2 (Z03 (ptrTo (256*(c+1)+7)) 1)).bind fun r10 =>
   (gd t45 false r10.2.1 r10.2.2 (ldN r10.2.1 4 r10.1)).bind fun r11 =>
   (gg t45 false r11.2.1 r11.2.2 (callF o 44 [r11.1] r11.2.1 r11.2.2)).bind fun r12 =>
   (gd t45 false r12.2.1 r12.2.2 (Z2g .not r12.1)).bind fun r13 =>
   (Z0C t45 (.bool true) r13.1).bind fun t51 =>
   (gd t51 false r13.2.1 r13.2.2 (Z03 (ptrTo (256*(c+1)+7)) 0)).bind fun r14 =>
   (gd t51 false r14.2.1 r14.2.2 (ld1 r14.2.1 r14.1)).bind fun r15 =>
   (gd t51 false r15.2.1 r15.2.2 (some t4)).bind fun r16 =>
   (gd t51 false r16.2.1 r16.2.2 (Z00 P .eql 3 r15.1 r16.1)).bind fun r17 =>
   (gd t51 false r17.2.1 r17.2.2 (some r17.1)).bind fun r18 =>
   (gd r18.1 true r18.2.1 r18.2.2 (some t5)).bind fun r19 =>
   (gd r18.1 true r19.2.1 r19.2.2 (Z03 (ptrTo (256*(c+1)+7)) 1)).bind fun r20 =>
   (gd r18.1 true r20.2.1 r20.2.2 (ixA 4 1 r20.1 r19.1)).bind fun r21 =>
   (gd r18.1 true r21.2.1 r21.2.2 (ld1 r21.2.1 r21.1)).bind fun r22 =>
   (gd r18.1 true r22.2.1 r22.2.2 (some t5)).bind fun r23 =>
   (gd r18.1 true r23.2.1 r23.2.2 (Z00 P .eql 3 r22.1 r23.1)).bind fun r24 =>
   (gg t51 false r24.2.1 r24.2.2 (Zdz r24.2.1 r24.2.2 r18.1 r24.1 (.bool false))).bind fun r25 =>
   (Z0C t51 (.bool true) r25.1).bind fun t65 =>
   Z09 t65
    (some ⟨.ret,[t1,(.int .i64 7),t3,t4,t5],r25.2.1,(r25.2.2+1),df⟩)
    ((Z03 t1 0).bind fun t66 =>
    (ld1 r25.2.1 t66).bind fun t67 =>
    (Z03 (ptrTo (256*(c+1)+7)) 0).bind fun t68 =>
    (ld1 r25.2.1 t68).bind fun t69 =>
    (Z03 (ptrTo (256*(c+1)+7)) 1).bind fun t71 =>
    (ixA 4 1 t71 t5).bind fun t72 =>
    (ld1 r25.2.1 t72).bind fun t73 =>
    (ixS 20 t67 t69).bind fun t74 =>
    (ixA 4 5 t74 t73).bind fun t75 =>
    (ldN r25.2.1 5 t75).bind fun t76 =>
    (Z03 (ptrTo (256*(c+1)+7)) 1).bind fun t78 =>
    (ldN r25.2.1 4 t78).bind fun t79 =>
    (callF o 45 [t79] r25.2.1 (r25.2.2+1)).bind fun r27 =>
    (Z1K [(.int .i64 0),(.int .i64 0),(.int .i64 0),(.int .i64 0),(.int .i64 0)] [(0,1,t4),(1,4,r27.1)]).bind fun t81 =>
    (Z00 P .neq 44 t76 t81).bind fun t82 =>
    (bif (Z1y (Z2O t66) r25.2.1 r27.2.1 && (Z1y (Z2O t68) r25.2.1 r27.2.1 && (Z1y (Z2O t72) r25.2.1 r27.2.1 && (Z1y (Z2O t75) r25.2.1 r27.2.1 && true)))) then
    Z09 t82
     (some ⟨.ret,[t1,(.int .i64 7),t3,t4,t5],r27.2.1,(r27.2.2+1),df⟩)
     (some ⟨.normal,[t1,t2,t3,t4,t5],r27.2.1,r27.2.2,df⟩)
    else none))):Option (Rt H)).bind fun r29 =>
 cond (Z0r r29.e .normal)
  ((Z00 P .add 3 (r29.v 4) (.int .i64 1)).bind fun t20 =>
  some ⟨.normal,[r29.v 0,r29.v 1,r29.v 2,r29.v 3,t20],r29.h,(r29.c+1),r29.df⟩)
  (cond (Z0r r29.e .ret)
   (some ⟨.ret,[r29.v 0,r29.v 1,r29.v 2,r29.v 3,r29.v 4],r29.h,r29.c,r29.df⟩)
   (none)))
 (some ⟨(.exit 2),[t1,t2,t3,t4,t5],h,(c+1),df⟩)
theorem Z5s (o:Orc H) (rd:Option Nat) (t1 t2 t3 t4 t5:Value) (h:H) (c:Nat) (df:List Nat):jx P o 83 rd Z3R (Z0h [1,2,3,4,5] [t1,t2,t3,t4,t5]) h c df (Klp [1,2,3,4,5])=Z20 o rd t1 t2 t3 t4 t5 h c df:=by kernel_rfl
noncomputable def Z1n (o:Orc H) (rd:Option Nat) (t1 t2 t3 t4:Value) (h:H) (c:Nat) (df:List Nat):Option (Rt H) :=
 (Z00 P .lss 3 t4 t3).bind fun t14 =>
 Z09 t14
 ((o (Z3P rd) [t1,t2,t3,t4,(.int .i64 0)] h (c+1+1) df).bind fun r0 =>
 cond (Z0r r0.e (.exit 2))
  ((Z00 P .add 3 (r0.v 3) (.int .i64 1)).bind fun t16 =>
  some ⟨.normal,[r0.v 0,r0.v 1,r0.v 2,t16],r0.h,(r0.c+1),r0.df⟩)
  (cond (Z0r r0.e .ret)
   (some ⟨.ret,[r0.v 0,r0.v 1,r0.v 2,r0.v 3],r0.h,r0.c,r0.df⟩)
   (none)))
 (some ⟨(.exit 0),[t1,t2,t3,t4],h,(c+1),df⟩)
theorem Z5t (o:Orc H) (rd:Option Nat) (t1 t2 t3 t4:Value) (h:H) (c:Nat) (df:List Nat):jx P o 83 rd Z3S (Z0h [1,2,3,4] [t1,t2,t3,t4]) h c df (Klp [1,2,3,4])=Z1n o rd t1 t2 t3 t4 h c df:=by kernel_rfl
noncomputable def Zk0 (o:Orc H) (t0:Value) (h:H) (c:Nat):Option (Rt H) :=
 (bif (t0:Value).cells.toList.all Z08 then
 (Z03 (ptrTo (256*c+0)) 0).bind fun t7 =>
 (ld1 (newB h (256*c+0) (t0:Value).cells.toList) t7).bind fun t8 =>
 (Z1q t8).bind fun t9 =>
 (Z00 P .gtr 3 t9 (.int .i64 1000)).bind fun t11 =>
 Z09 t11
 (some ⟨.ret,[(.int .i64 7)],(newB h (256*c+0) (t0:Value).cells.toList),(c+1+1+1+1),[]⟩)
 ((o (Z3Q none) [(ptrTo (256*c+0)),(.int .i64 0),t9,(.int .i64 0)] (newB h (256*c+0) (t0:Value).cells.toList) (c+1+1+1+1) []).bind fun r0 =>
 cond (Z0r r0.e (.exit 0))
  ((Z0a r0.h r0.df).bind fun h2 =>
  some ⟨.ret,[(.int .i64 0)],h2,(r0.c+1),[]⟩)
  (cond (Z0r r0.e .ret)
   ((Z0a r0.h r0.df).bind fun h1 =>
   some ⟨.ret,[r0.v 1],h1,r0.c,[]⟩)
   (none)))
 else none)
theorem ZgU (o:Orc H) (t0:Value) (h:H) (c:Nat):jx P o 83 none f14_c (Z0h (List.range 1) [t0]) h c [] (Kfn P Try.f14.results.toList)=Zk0 o t0 h c:=by kernel_rfl
theorem f14_go {t0:Value} {h:FH} {c:Nat} {df:List Nat} {r:Rt FH} (e:Zk0 G t0 h c=some r):G (.fn 14) [t0] h c df=some (gcR h c [] r):=Z0f (a:=ZeZ) bk_14 rfl (fun args h c=>by cases args <;> rfl) rfl ((ZgU G t0 h c).trans e)
theorem Zcj {rd:Option Nat} {t1 t2 t3 t4 t5:Value} {h:FH} {c:Nat} {df:List Nat} {q r:Rt FH} (e:Z20 G rd t1 t2 t3 t4 t5 h c df=some q) (hq:q.e = .normal) (k:G (Z3P rd) q.vs (gcR h c df q).h (gcR h c df q).c q.df=some r):G (Z3P rd) [t1,t2,t3,t4,t5] h c df=some r:=Z0U ((Z5s G rd t1 t2 t3 t4 t5 h c df).trans e) hq k
theorem Zch {rd:Option Nat} {t1 t2 t3 t4 t5:Value} {h:FH} {c:Nat} {df:List Nat} {q:Rt FH} (e:Z20 G rd t1 t2 t3 t4 t5 h c df=some q) (hq:q.e ≠ .normal):G (Z3P rd) [t1,t2,t3,t4,t5] h c df=some (gcR h c df q):=Z0V ((Z5s G rd t1 t2 t3 t4 t5 h c df).trans e) hq
theorem Zck {rd:Option Nat} {t1 t2 t3 t4:Value} {h:FH} {c:Nat} {df:List Nat} {q r:Rt FH} (e:Z1n G rd t1 t2 t3 t4 h c df=some q) (hq:q.e = .normal) (k:G (Z3Q rd) q.vs (gcR h c df q).h (gcR h c df q).c q.df=some r):G (Z3Q rd) [t1,t2,t3,t4] h c df=some r:=Z0U ((Z5t G rd t1 t2 t3 t4 h c df).trans e) hq k
theorem Zci {rd:Option Nat} {t1 t2 t3 t4:Value} {h:FH} {c:Nat} {df:List Nat} {q:Rt FH} (e:Z1n G rd t1 t2 t3 t4 h c df=some q) (hq:q.e ≠ .normal):G (Z3Q rd) [t1,t2,t3,t4] h c df=some (gcR h c df q):=Z0V ((Z5t G rd t1 t2 t3 t4 h c df).trans e) hq
noncomputable def Z4I (o:Orc H) (rd:Option Nat) (t0 t1 t4 t5:Value) (h:H) (c:Nat) (df:List Nat):Option (Rt H) :=
 (Z1q t0).bind fun t13 =>
 (Z00 P .lss 3 t5 t13).bind fun t14 =>
 Z09 t14
 ((ixS 1 t0 t5).bind fun t19 =>
 (ld1 h t19).bind fun t20 =>
 (ixS 1 t1 t5).bind fun t23 =>
 (ld1 h t23).bind fun t24 =>
 (Z00 P .neq 3 t20 t24).bind fun t25 =>
 Z09 t25
  (some ⟨.ret,[t0,t1,(.bool false),t5],h,(c+1+1+1),df⟩)
  ((Z00 P .add 3 t5 (.int .i64 1)).bind fun t16 =>
  some ⟨.normal,[t0,t1,t4,t16],h,(c+1+1+1),df⟩))
 (some ⟨(.exit 0),[t0,t1,t4,t5],h,(c+1),df⟩)
theorem Z5r (o:Orc H) (rd:Option Nat) (t0 t1 t4 t5:Value) (h:H) (c:Nat) (df:List Nat):jx P o 26 rd Z3O (Z0h [0,1,4,5] [t0,t1,t4,t5]) h c df (Klp [0,1,4,5])=Z4I o rd t0 t1 t4 t5 h c df:=by kernel_rfl
noncomputable def ZjZ (o:Orc H) (t0 t1:Value) (h:H) (c:Nat):Option (Rt H) :=
 (Z1q t0).bind fun t7 =>
 (Z1q t1).bind fun t9 =>
 (Z00 P .neq 3 t7 t9).bind fun t10 =>
 Z09 t10
 (some ⟨.ret,[(.bool false)],h,(c+1+1+1),[]⟩)
 ((o (Zcg none) [t0,t1,(.bool false),(.int .i64 0)] h (c+1+1+1) []).bind fun r0 =>
 cond (Z0r r0.e (.exit 0))
  ((Z0a r0.h r0.df).bind fun h2 =>
  some ⟨.ret,[(.bool true)],h2,(r0.c+1),[]⟩)
  (cond (Z0r r0.e .ret)
   ((Z0a r0.h r0.df).bind fun h1 =>
   some ⟨.ret,[r0.v 2],h1,r0.c,[]⟩)
   (none)))
theorem ZgT (o:Orc H) (t0 t1:Value) (h:H) (c:Nat):jx P o 26 none f16_c (Z0h (List.range 2) [t0,t1]) h c [] (Kfn P Try.f16.results.toList)=ZjZ o t0 t1 h c:=by kernel_rfl
theorem f16_go {t0 t1:Value} {h:FH} {c:Nat} {df:List Nat} {r:Rt FH} (e:ZjZ G t0 t1 h c=some r):G (.fn 16) [t0,t1] h c df=some (gcR h c [] r):=Z0f (a:=ZeY) bk_16 rfl (fun args h c=>by cases args <;> rfl) rfl ((ZgT G t0 t1 h c).trans e)
noncomputable def ZnI (o:Orc H) (t0:Value) (h:H) (c:Nat):Option (Rt H) :=
 (bif (t0:Value).cells.toList.all Z08 then
 (ldN (newB (newB h (256*c+0) (t0:Value).cells.toList) (256*c+1) [(.slice none 0 0),(.slice none 0 0),(.slice none 0 0),(.slice none 0 0),(.slice none 0 0),(.slice none 0 0)]) 1 (ptrTo (256*c+0))).bind fun t5 =>
 (callF o 14 [t5] (newB (newB h (256*c+0) (t0:Value).cells.toList) (256*c+1) [(.slice none 0 0),(.slice none 0 0),(.slice none 0 0),(.slice none 0 0),(.slice none 0 0),(.slice none 0 0)]) (c+1+1)).bind fun r0 =>
 (Z00 P .neq 33 r0.1 (.int .i64 0)).bind fun t8 =>
 Z09 t8
 ((Z1K [(.slice none 0 0),(.slice none 0 0),(.slice none 0 0),(.slice none 0 0),(.slice none 0 0),(.slice none 0 0)] []).bind fun t9 =>
 (stN r0.2.1 6 (ptrTo (256*c+1)) t9).bind fun h2 =>
 (ldN h2 6 (ptrTo (256*c+1))).bind fun v3 =>
 some ⟨.ret,[.tuple #[v3,r0.1]],h2,(r0.2.2+1+1),[]⟩)
 ((ldN r0.2.1 1 (ptrTo (256*c+0))).bind fun t11 =>
 (callF o 51 [t11] r0.2.1 (r0.2.2+1+1)).bind fun r4 =>
 (stN r4.2.1 6 (ptrTo (256*c+1)) r4.1).bind fun h6 =>
 (ldN h6 6 (ptrTo (256*c+1))).bind fun v7 =>
 some ⟨.ret,[.tuple #[v7,(.int .i64 0)]],h6,r4.2.2,[]⟩)
 else none)
theorem ZnH (o:Orc H) (t0:Value) (h:H) (c:Nat):jx P o 13 none f21_c (Z0h (List.range 1) [t0]) h c [] (Kfn P Try.f21.results.toList)=ZnI o t0 h c:=by kernel_rfl
theorem Zou {t0:Value} {h:FH} {c:Nat} {df:List Nat} {r:Rt FH} (e:ZnI G t0 h c=some r):G (.fn 21) [t0] h c df=some r:=Z0f (a:=ZnG) bk_21 rfl (fun args h c=>by cases args <;> rfl) rfl ((ZnH G t0 h c).trans e)
noncomputable def Zqb (o:Orc H) (t0:Value) (h:H) (c:Nat):Option (Rt H) :=
 (bif (t0:Value).cells.toList.all Z08 then
 (ldN (newB h (256*c+0) (t0:Value).cells.toList) 1 (ptrTo (256*c+0))).bind fun t5 =>
 (callF o 14 [t5] (newB h (256*c+0) (t0:Value).cells.toList) (c+1+1)).bind fun r0 =>
 (Z00 P .neq 33 r0.1 (.int .i64 0)).bind fun t8 =>
 Z09 t8
 (some ⟨.ret,[.tuple #[(.int .i64 0),r0.1]],r0.2.1,(r0.2.2+1+1),[]⟩)
 ((ldN r0.2.1 1 (ptrTo (256*c+0))).bind fun t10 =>
 (callF o 52 [t10] r0.2.1 (r0.2.2+1+1)).bind fun r1 =>
 some ⟨.ret,[.tuple #[r1.1,(.int .i64 0)]],r1.2.1,r1.2.2,[]⟩)
 else none)
theorem ZnF (o:Orc H) (t0:Value) (h:H) (c:Nat):jx P o 12 none f22_c (Z0h (List.range 1) [t0]) h c [] (Kfn P Try.f22.results.toList)=Zqb o t0 h c:=by kernel_rfl
theorem f22_go {t0:Value} {h:FH} {c:Nat} {df:List Nat} {r:Rt FH} (e:Zqb G t0 h c=some r):G (.fn 22) [t0] h c df=some (gcR h c [] r):=Z0f (a:=ZnE) bk_22 rfl (fun args h c=>by cases args <;> rfl) rfl ((ZnF G t0 h c).trans e)
noncomputable def Zqa (o:Orc H) (t0:Value) (h:H) (c:Nat):Option (Rt H) :=
 (bif (t0:Value).cells.toList.all Z08 then
 (ldN (newB h (256*c+0) (t0:Value).cells.toList) 1 (ptrTo (256*c+0))).bind fun t5 =>
 (callF o 14 [t5] (newB h (256*c+0) (t0:Value).cells.toList) (c+1+1)).bind fun r0 =>
 (Z00 P .neq 33 r0.1 (.int .i64 0)).bind fun t8 =>
 Z09 t8
 (some ⟨.ret,[.tuple #[(.int .i64 0),r0.1]],r0.2.1,(r0.2.2+1+1),[]⟩)
 ((ldN r0.2.1 1 (ptrTo (256*c+0))).bind fun t10 =>
 (callF o 53 [t10] r0.2.1 (r0.2.2+1+1)).bind fun r1 =>
 some ⟨.ret,[.tuple #[r1.1,(.int .i64 0)]],r1.2.1,r1.2.2,[]⟩)
 else none)
theorem ZnD (o:Orc H) (t0:Value) (h:H) (c:Nat):jx P o 12 none f23_c (Z0h (List.range 1) [t0]) h c [] (Kfn P Try.f23.results.toList)=Zqa o t0 h c:=by kernel_rfl
theorem f23_go {t0:Value} {h:FH} {c:Nat} {df:List Nat} {r:Rt FH} (e:Zqa G t0 h c=some r):G (.fn 23) [t0] h c df=some (gcR h c [] r):=Z0f (a:=ZnC) bk_23 rfl (fun args h c=>by cases args <;> rfl) rfl ((ZnD G t0 h c).trans e)

variable {H:Type} [HeapC H]
noncomputable def Z67 (o:Orc H) (rd:Option Nat) (t0 t2 t3 t4 t5:Value) (h:H) (c:Nat) (df:List Nat):Option (Rt H) :=
 (Z00 P .lss 3 t5 (.int .i64 4)).bind fun t13 =>
 Z09 t13
 ((callF o 28 [t4,t5] h (c+1+1)).bind fun r0 =>
 (Z00 P .eql 3 r0.1 t0).bind fun t20 =>
 Z09 t20
  (some ⟨.ret,[t0,t4,t5,t4,t5],r0.2.1,(r0.2.2+1),df⟩)
  ((Z00 P .add 3 t5 (.int .i64 1)).bind fun t15 =>
  some ⟨.normal,[t0,t2,t3,t4,t15],r0.2.1,(r0.2.2+1),df⟩))
 (some ⟨(.exit 2),[t0,t2,t3,t4,t5],h,(c+1),df⟩)
theorem Z5p (o:Orc H) (rd:Option Nat) (t0 t2 t3 t4 t5:Value) (h:H) (c:Nat) (df:List Nat):jx P o 23 rd Z9a (Z0h [0,2,3,4,5] [t0,t2,t3,t4,t5]) h c df (Klp [0,2,3,4,5])=Z67 o rd t0 t2 t3 t4 t5 h c df:=by kernel_rfl
noncomputable def Z68 (o:Orc H) (rd:Option Nat) (t0 t2 t3 t4:Value) (h:H) (c:Nat) (df:List Nat):Option (Rt H) :=
 (Z00 P .lss 3 t4 (.int .i64 4)).bind fun t7 =>
 Z09 t7
 ((Z00 P .add 3 t4 (.int .i64 1)).bind fun t11 =>
 (o (Zce rd) [t0,t2,t3,t4,t11] h (c+1+1) df).bind fun r0 =>
 cond (Z0r r0.e (.exit 2))
  ((Z00 P .add 3 (r0.v 3) (.int .i64 1)).bind fun t9 =>
  some ⟨.normal,[r0.v 0,r0.v 1,r0.v 2,t9],r0.h,(r0.c+1),r0.df⟩)
  (cond (Z0r r0.e .ret)
   (some ⟨.ret,[r0.v 0,r0.v 1,r0.v 2,r0.v 3],r0.h,r0.c,r0.df⟩)
   (none)))
 (some ⟨(.exit 0),[t0,t2,t3,t4],h,(c+1),df⟩)
theorem Z5q (o:Orc H) (rd:Option Nat) (t0 t2 t3 t4:Value) (h:H) (c:Nat) (df:List Nat):jx P o 23 rd Z9b (Z0h [0,2,3,4] [t0,t2,t3,t4]) h c df (Klp [0,2,3,4])=Z68 o rd t0 t2 t3 t4 h c df:=by kernel_rfl
noncomputable def Zq9 (o:Orc H) (t0:Value) (h:H) (c:Nat):Option (Rt H) :=
 (o (Zcf none) [t0,(.int .i64 0),(.int .i64 0),(.int .i64 0)] h (c+1+1) []).bind fun r0 =>
 cond (Z0r r0.e (.exit 0))
 ((Z0a r0.h r0.df).bind fun h2 =>
 some ⟨.ret,[.tuple #[(.int .i64 (-1)),(.int .i64 (-1))]],h2,(r0.c+1),[]⟩)
 (cond (Z0r r0.e .ret)
  ((Z0a r0.h r0.df).bind fun h1 =>
  some ⟨.ret,[.tuple #[r0.v 1,r0.v 2]],h1,r0.c,[]⟩)
  (none))
theorem ZnB (o:Orc H) (t0:Value) (h:H) (c:Nat):jx P o 23 none f24_c (Z0h (List.range 1) [t0]) h c [] (Kfn P Try.f24.results.toList)=Zq9 o t0 h c:=by kernel_rfl
theorem f24_go {t0:Value} {h:FH} {c:Nat} {df:List Nat} {r:Rt FH} (e:Zq9 G t0 h c=some r):G (.fn 24) [t0] h c df=some (gcR h c [] r):=Z0f (a:=ZnA) bk_24 rfl (fun args h c=>by cases args <;> rfl) rfl ((ZnB G t0 h c).trans e)
noncomputable def Zq8 (o:Orc H) (t0:Value) (h:H) (c:Nat):Option (Rt H) :=
 (Z00 P .lss 3 t0 (.int .i64 0)).bind fun t6 =>
 (gd t6 false h (c+1+1) (some t0)).bind fun r0 =>
 (gd t6 false r0.2.1 r0.2.2 (Z00 P .gtr 3 r0.1 (.int .i64 5))).bind fun r1 =>
 (Z0C t6 (.bool true) r1.1).bind fun t10 =>
 Z09 t10
 (some ⟨.ret,[.tuple #[(.int .i64 (-1)),(.int .i64 (-1))]],r1.2.1,(r1.2.2+1),[]⟩)
 ((callF o 54 [] r1.2.1 (r1.2.2+1)).bind fun r2 =>
 (ixV 6 true 2 r2.1 t0).bind fun t13 =>
 (stN (newB r2.2.1 (256*r1.2.2+3) [(.int .i64 0),(.int .i64 0)]) 2 (ptrTo (256*r1.2.2+3)) t13).bind fun h4 =>
 (ixA 2 1 (ptrTo (256*r1.2.2+3)) (.int .i64 0)).bind fun t14 =>
 (ld1 h4 t14).bind fun t15 =>
 (ixA 2 1 (ptrTo (256*r1.2.2+3)) (.int .i64 1)).bind fun t16 =>
 (ld1 h4 t16).bind fun t17 =>
 some ⟨.ret,[.tuple #[t15,t17]],h4,(r2.2.2+1),[]⟩)
theorem Znz (o:Orc H) (t0:Value) (h:H) (c:Nat):jx P o 18 none f25_c (Z0h (List.range 1) [t0]) h c [] (Kfn P Try.f25.results.toList)=Zq8 o t0 h c:=by kernel_rfl
theorem f25_go {t0:Value} {h:FH} {c:Nat} {df:List Nat} {r:Rt FH} (e:Zq8 G t0 h c=some r):G (.fn 25) [t0] h c df=some (gcR h c [] r):=Z0f (a:=Zny) bk_25 rfl (fun args h c=>by cases args <;> rfl) rfl ((Znz G t0 h c).trans e)
noncomputable def Z99 (o:Orc H) (rd:Option Nat) (t2 t3 t4 t61 t62:Value) (h:H) (c:Nat) (df:List Nat):Option (Rt H) :=
 (Z00 P .lss 3 t62 t61).bind fun t63 =>
 Z09 t63
 ((Z03 t2 0).bind fun t65 =>
 (ld1 h t65).bind fun t66 =>
 (ixS 4 t66 t62).bind fun t68 =>
 (ldN h 4 t68).bind fun t69 =>
 (Z03 t3 0).bind fun t70 =>
 (ld1 h t70).bind fun t71 =>
 (ixS 4 t71 t62).bind fun t73 =>
 (ldN h 4 t73).bind fun t74 =>
 (Z00 P .neq 41 t69 t74).bind fun t75 =>
 Z09 t75
  (some ⟨.ret,[t2,t3,(.bool false),t61,t62],h,(c+1+1+1+1),df⟩)
  ((Z00 P .add 3 t62 (.int .i64 1)).bind fun t76 =>
  some ⟨.normal,[t2,t3,t4,t61,t76],h,(c+1+1+1+1),df⟩))
 (some ⟨(.exit 0),[t2,t3,t4,t61,t62],h,(c+1),df⟩)
theorem Z7w (o:Orc H) (rd:Option Nat) (t2 t3 t4 t61 t62:Value) (h:H) (c:Nat) (df:List Nat):jx P o 131 rd Z95 (Z0h [2,3,4,61,62] [t2,t3,t4,t61,t62]) h c df (Klp [2,3,4,61,62])=Z99 o rd t2 t3 t4 t61 t62 h c df:=by kernel_rfl
noncomputable def Z98 (o:Orc H) (rd:Option Nat) (t2 t3 t4 t79 t80:Value) (h:H) (c:Nat) (df:List Nat):Option (Rt H) :=
 (Z00 P .lss 3 t80 t79).bind fun t81 =>
 Z09 t81
 ((Z03 t2 1).bind fun t83 =>
 (ld1 h t83).bind fun t84 =>
 (ixS 6 t84 t80).bind fun t86 =>
 (ldN h 6 t86).bind fun t87 =>
 (Z03 t3 1).bind fun t88 =>
 (ld1 h t88).bind fun t89 =>
 (ixS 6 t89 t80).bind fun t91 =>
 (ldN h 6 t91).bind fun t92 =>
 (Z00 P .neq 64 t87 t92).bind fun t93 =>
 Z09 t93
  (some ⟨.ret,[t2,t3,(.bool false),t79,t80],h,(c+1+1+1+1),df⟩)
  ((Z00 P .add 3 t80 (.int .i64 1)).bind fun t94 =>
  some ⟨.normal,[t2,t3,t4,t79,t94],h,(c+1+1+1+1),df⟩))
 (some ⟨(.exit 2),[t2,t3,t4,t79,t80],h,(c+1),df⟩)
theorem Z7v (o:Orc H) (rd:Option Nat) (t2 t3 t4 t79 t80:Value) (h:H) (c:Nat) (df:List Nat):jx P o 131 rd Z94 (Z0h [2,3,4,79,80] [t2,t3,t4,t79,t80]) h c df (Klp [2,3,4,79,80])=Z98 o rd t2 t3 t4 t79 t80 h c df:=by kernel_rfl
noncomputable def Z97 (o:Orc H) (rd:Option Nat) (t2 t3 t4 t97 t98:Value) (h:H) (c:Nat) (df:List Nat):Option (Rt H) :=
 (Z00 P .lss 3 t98 t97).bind fun t99 =>
 Z09 t99
 ((Z03 t2 2).bind fun t101 =>
 (ld1 h t101).bind fun t102 =>
 (ixS 4 t102 t98).bind fun t104 =>
 (ldN h 4 t104).bind fun t105 =>
 (Z03 t3 2).bind fun t106 =>
 (ld1 h t106).bind fun t107 =>
 (ixS 4 t107 t98).bind fun t109 =>
 (ldN h 4 t109).bind fun t110 =>
 (Z00 P .neq 41 t105 t110).bind fun t111 =>
 Z09 t111
  (some ⟨.ret,[t2,t3,(.bool false),t97,t98],h,(c+1+1+1+1),df⟩)
  ((Z00 P .add 3 t98 (.int .i64 1)).bind fun t112 =>
  some ⟨.normal,[t2,t3,t4,t97,t112],h,(c+1+1+1+1),df⟩))
 (some ⟨(.exit 4),[t2,t3,t4,t97,t98],h,(c+1),df⟩)
theorem Z7u (o:Orc H) (rd:Option Nat) (t2 t3 t4 t97 t98:Value) (h:H) (c:Nat) (df:List Nat):jx P o 131 rd Z93 (Z0h [2,3,4,97,98] [t2,t3,t4,t97,t98]) h c df (Klp [2,3,4,97,98])=Z97 o rd t2 t3 t4 t97 t98 h c df:=by kernel_rfl
noncomputable def Z96 (o:Orc H) (rd:Option Nat) (t2 t3 t4 t115 t116:Value) (h:H) (c:Nat) (df:List Nat):Option (Rt H) :=
 (Z00 P .lss 3 t116 t115).bind fun t117 =>
 Z09 t117
 ((Z03 t2 4).bind fun t119 =>
 (ld1 h t119).bind fun t120 =>
 (ixS 1 t120 t116).bind fun t122 =>
 (ld1 h t122).bind fun t123 =>
 (Z03 t3 4).bind fun t124 =>
 (ld1 h t124).bind fun t125 =>
 (ixS 1 t125 t116).bind fun t127 =>
 (ld1 h t127).bind fun t128 =>
 (Z00 P .neq 4 t123 t128).bind fun t129 =>
 Z09 t129
  (some ⟨.ret,[t2,t3,(.bool false),t115,t116],h,(c+1+1+1+1),df⟩)
  ((Z00 P .add 3 t116 (.int .i64 1)).bind fun t130 =>
  some ⟨.normal,[t2,t3,t4,t115,t130],h,(c+1+1+1+1),df⟩))
 (some ⟨(.exit 6),[t2,t3,t4,t115,t116],h,(c+1),df⟩)
theorem Z7t (o:Orc H) (rd:Option Nat) (t2 t3 t4 t115 t116:Value) (h:H) (c:Nat) (df:List Nat):jx P o 131 rd Z92 (Z0h [2,3,4,115,116] [t2,t3,t4,t115,t116]) h c df (Klp [2,3,4,115,116])=Z96 o rd t2 t3 t4 t115 t116 h c df:=by kernel_rfl
noncomputable def Zq7 (o:Orc H) (t0 t1:Value) (h:H) (c:Nat):Option (Rt H) :=
 (bif (t0:Value).cells.toList.all Z08 then
 (bif (t1:Value).cells.toList.all Z08 then
 (Z03 (ptrTo (256*c+0)) 0).bind fun t9 =>
 (ld1 (newB (newB h (256*c+0) (t0:Value).cells.toList) (256*c+1) (t1:Value).cells.toList) t9).bind fun t10 =>
 (Z1q t10).bind fun t11 =>
 (Z03 (ptrTo (256*c+1)) 0).bind fun t12 =>
 (ld1 (newB (newB h (256*c+0) (t0:Value).cells.toList) (256*c+1) (t1:Value).cells.toList) t12).bind fun t13 =>
 (Z1q t13).bind fun t14 =>
 (Z00 P .neq 3 t11 t14).bind fun t15 =>
 (gd t15 false (newB (newB h (256*c+0) (t0:Value).cells.toList) (256*c+1) (t1:Value).cells.toList) (c+1+1) (Z03 (ptrTo (256*c+0)) 1)).bind fun r0 =>
 (gd t15 false r0.2.1 r0.2.2 (ld1 r0.2.1 r0.1)).bind fun r1 =>
 (gg t15 false r1.2.1 r1.2.2 (((Z1q r1.1).bind fun v=>some (v,r1.2.1)).bind fun r=>some (r.1,r.2,r1.2.2))).bind fun r2 =>
 (gd t15 false r2.2.1 r2.2.2 (Z03 (ptrTo (256*c+1)) 1)).bind fun r3 =>
 (gd t15 false r3.2.1 r3.2.2 (ld1 r3.2.1 r3.1)).bind fun r4 =>
 (gg t15 false r4.2.1 r4.2.2 (((Z1q r4.1).bind fun v=>some (v,r4.2.1)).bind fun r=>some (r.1,r.2,r4.2.2))).bind fun r5 =>
 (gd t15 false r5.2.1 r5.2.2 (Z00 P .neq 3 r2.1 r5.1)).bind fun r6 =>
 (Z0C t15 (.bool true) r6.1).bind fun t24 =>
 (gd t24 false r6.2.1 r6.2.2 (Z03 (ptrTo (256*c+0)) 2)).bind fun r7 =>
 (gd t24 false r7.2.1 r7.2.2 (ld1 r7.2.1 r7.1)).bind fun r8 =>
 (gg t24 false r8.2.1 r8.2.2 (((Z1q r8.1).bind fun v=>some (v,r8.2.1)).bind fun r=>some (r.1,r.2,r8.2.2))).bind fun r9 =>
 (gd t24 false r9.2.1 r9.2.2 (Z03 (ptrTo (256*c+1)) 2)).bind fun r10 =>
 (gd t24 false r10.2.1 r10.2.2 (ld1 r10.2.1 r10.1)).bind fun r11 =>
 (gg t24 false r11.2.1 r11.2.2 (((Z1q r11.1).bind fun v=>some (v,r11.2.1)).bind fun r=>some (r.1,r.2,r11.2.2))).bind fun r12 =>
 (gd t24 false r12.2.1 r12.2.2 (Z00 P .neq 3 r9.1 r12.1)).bind fun r13 =>
 (Z0C t24 (.bool true) r13.1).bind fun t33 =>
 (gd t33 false r13.2.1 r13.2.2 (Z03 (ptrTo (256*c+0)) 4)).bind fun r14 =>
 (gd t33 false r14.2.1 r14.2.2 (ld1 r14.2.1 r14.1)).bind fun r15 =>
 (gg t33 false r15.2.1 r15.2.2 (((Z1q r15.1).bind fun v=>some (v,r15.2.1)).bind fun r=>some (r.1,r.2,r15.2.2))).bind fun r16 =>
 (gd t33 false r16.2.1 r16.2.2 (Z03 (ptrTo (256*c+1)) 4)).bind fun r17 =>
 (gd t33 false r17.2.1 r17.2.2 (ld1 r17.2.1 r17.1)).bind fun r18 =>
 (gg t33 false r18.2.1 r18.2.2 (((Z1q r18.1).bind fun v=>some (v,r18.2.1)).bind fun r=>some (r.1,r.2,r18.2.2))).bind fun r19 =>
 (gd t33 false r19.2.1 r19.2.2 (Z00 P .neq 3 r16.1 r19.1)).bind fun r20 =>
 (Z0C t33 (.bool true) r20.1).bind fun t42 =>
 (gd t42 false r20.2.1 r20.2.2 (Z03 (ptrTo (256*c+0)) 3)).bind fun r21 =>
 (gd t42 false r21.2.1 r21.2.2 (ld1 r21.2.1 r21.1)).bind fun r22 =>
 (gd t42 false r22.2.1 r22.2.2 (Z03 (ptrTo (256*c+1)) 3)).bind fun r23 =>
 (gd t42 false r23.2.1 r23.2.2 (ld1 r23.2.1 r23.1)).bind fun r24 =>
 (gg t42 false r24.2.1 r24.2.2 (callF o 16 [r22.1,r24.1] r24.2.1 r24.2.2)).bind fun r25 =>
 (gd t42 false r25.2.1 r25.2.2 (Z2g .not r25.1)).bind fun r26 =>
 (Z0C t42 (.bool true) r26.1).bind fun t50 =>
 (gd t50 false r26.2.1 r26.2.2 (Z03 (ptrTo (256*c+0)) 5)).bind fun r27 =>
 (gd t50 false r27.2.1 r27.2.2 (ld1 r27.2.1 r27.1)).bind fun r28 =>
 (gd t50 false r28.2.1 r28.2.2 (Z03 (ptrTo (256*c+1)) 5)).bind fun r29 =>
 (gd t50 false r29.2.1 r29.2.2 (ld1 r29.2.1 r29.1)).bind fun r30 =>
 (gg t50 false r30.2.1 r30.2.2 (callF o 55 [r28.1,r30.1] r30.2.1 r30.2.2)).bind fun r31 =>
 (gd t50 false r31.2.1 r31.2.2 (Z2g .not r31.1)).bind fun r32 =>
 (Z0C t50 (.bool true) r32.1).bind fun t58 =>
 Z09 t58
 (some ⟨.ret,[(.bool false)],r32.2.1,(r32.2.2+1),[]⟩)
 ((Z03 (ptrTo (256*c+0)) 0).bind fun t59 =>
 (ld1 r32.2.1 t59).bind fun t60 =>
 (Z1q t60).bind fun t61 =>
 (o (Zcd none) [(ptrTo (256*c+0)),(ptrTo (256*c+1)),(.bool false),t61,(.int .i64 0)] r32.2.1 (r32.2.2+1) []).bind fun r33 =>
 cond (Z0r r33.e (.exit 0))
  ((Z03 (r33.v 0) 1).bind fun t77 =>
  (ld1 r33.h t77).bind fun t78 =>
  (Z1q t78).bind fun t79 =>
  (o (Zcc none) [r33.v 0,r33.v 1,r33.v 2,t79,(.int .i64 0)] r33.h (r33.c+1) r33.df).bind fun r35 =>
  cond (Z0r r35.e (.exit 2))
   ((Z03 (r35.v 0) 2).bind fun t95 =>
   (ld1 r35.h t95).bind fun t96 =>
   (Z1q t96).bind fun t97 =>
   (o (Zcb none) [r35.v 0,r35.v 1,r35.v 2,t97,(.int .i64 0)] r35.h (r35.c+1) r35.df).bind fun r37 =>
   cond (Z0r r37.e (.exit 4))
    ((Z03 (r37.v 0) 4).bind fun t113 =>
    (ld1 r37.h t113).bind fun t114 =>
    (Z1q t114).bind fun t115 =>
    (o (Zca none) [r37.v 0,r37.v 1,r37.v 2,t115,(.int .i64 0)] r37.h (r37.c+1) r37.df).bind fun r39 =>
    cond (Z0r r39.e (.exit 6))
     ((Z0a r39.h r39.df).bind fun h41 =>
     some ⟨.ret,[(.bool true)],h41,(r39.c+1),[]⟩)
     (cond (Z0r r39.e .ret)
      ((Z0a r39.h r39.df).bind fun h40 =>
      some ⟨.ret,[r39.v 2],h40,r39.c,[]⟩)
      (none)))
    (cond (Z0r r37.e .ret)
     ((Z0a r37.h r37.df).bind fun h38 =>
     some ⟨.ret,[r37.v 2],h38,r37.c,[]⟩)
     (none)))
   (cond (Z0r r35.e .ret)
    ((Z0a r35.h r35.df).bind fun h36 =>
    some ⟨.ret,[r35.v 2],h36,r35.c,[]⟩)
    (none)))
  (cond (Z0r r33.e .ret)
   ((Z0a r33.h r33.df).bind fun h34 =>
   some ⟨.ret,[r33.v 2],h34,r33.c,[]⟩)
   (none)))
 else none)
 else none)
theorem Znx (o:Orc H) (t0 t1:Value) (h:H) (c:Nat):jx P o 131 none f26_c (Z0h (List.range 2) [t0,t1]) h c [] (Kfn P Try.f26.results.toList)=Zq7 o t0 t1 h c:=by kernel_rfl
theorem f26_go {t0 t1:Value} {h:FH} {c:Nat} {df:List Nat} {r:Rt FH} (e:Zq7 G t0 t1 h c=some r):G (.fn 26) [t0,t1] h c df=some (gcR h c [] r):=Z0f (a:=Znw) bk_26 rfl (fun args h c=>by cases args <;> rfl) rfl ((Znx G t0 t1 h c).trans e)
noncomputable def Z4H (o:Orc H) (rd:Option Nat) (t0 t1 t4 t7 t8:Value) (h:H) (c:Nat) (df:List Nat):Option (Rt H) :=
 (Z00 P .lss 3 t8 (.int .i64 6)).bind fun t9 =>
 Z09 t9
 ((ixV 6 true 2 t7 t8).bind fun t11 =>
 (stN (newB h (256*(c+1)+2) [(.int .i64 0),(.int .i64 0)]) 2 (ptrTo (256*(c+1)+2)) t11).bind fun h1 =>
 (ldN h1 2 (ptrTo (256*(c+1)+2))).bind fun t12 =>
 (Z1K [(.int .i64 0),(.int .i64 0)] [(0,1,t0),(1,1,t1)]).bind fun t15 =>
 (Z00 P .eql 106 t12 t15).bind fun t16 =>
 (gd t16 false h1 (c+1+1+1) (ldN h1 2 (ptrTo (256*(c+1)+2)))).bind fun r2 =>
 (gd t16 false r2.2.1 r2.2.2 (some t1)).bind fun r3 =>
 (gd t16 false r3.2.1 r3.2.2 (some t0)).bind fun r4 =>
 (gd t16 false r4.2.1 r4.2.2 (Z1K [(.int .i64 0),(.int .i64 0)] [(0,1,r3.1),(1,1,r4.1)])).bind fun r5 =>
 (gd t16 false r5.2.1 r5.2.2 (Z00 P .eql 106 r2.1 r5.1)).bind fun r6 =>
 (Z0C t16 (.bool true) r6.1).bind fun t23 =>
 Z09 t23
  (some ⟨.ret,[t0,t1,t8,t7,t8],r6.2.1,(r6.2.2+1),df⟩)
  ((Z00 P .add 3 t8 (.int .i64 1)).bind fun t25 =>
  some ⟨.normal,[t0,t1,t4,t7,t25],r6.2.1,(r6.2.2+1),df⟩))
 (some ⟨(.exit 0),[t0,t1,t4,t7,t8],h,(c+1),df⟩)
theorem Z5o (o:Orc H) (rd:Option Nat) (t0 t1 t4 t7 t8:Value) (h:H) (c:Nat) (df:List Nat):jx P o 26 rd Z3N (Z0h [0,1,4,7,8] [t0,t1,t4,t7,t8]) h c df (Klp [0,1,4,7,8])=Z4H o rd t0 t1 t4 t7 t8 h c df:=by kernel_rfl
noncomputable def ZjY (o:Orc H) (t0 t1:Value) (h:H) (c:Nat):Option (Rt H) :=
 (callF o 54 [] h (c+1+1)).bind fun r0 =>
 (o (Zc9 none) [t0,t1,(.int .i64 0),r0.1,(.int .i64 0)] r0.2.1 r0.2.2 []).bind fun r1 =>
 cond (Z0r r1.e (.exit 0))
 ((Z0a r1.h r1.df).bind fun h3 =>
 some ⟨.ret,[(.int .i64 (-1))],h3,(r1.c+1),[]⟩)
 (cond (Z0r r1.e .ret)
  ((Z0a r1.h r1.df).bind fun h2 =>
  some ⟨.ret,[r1.v 2],h2,r1.c,[]⟩)
  (none))
theorem ZgS (o:Orc H) (t0 t1:Value) (h:H) (c:Nat):jx P o 26 none f27_c (Z0h (List.range 2) [t0,t1]) h c [] (Kfn P Try.f27.results.toList)=ZjY o t0 t1 h c:=by kernel_rfl
theorem f27_go {t0 t1:Value} {h:FH} {c:Nat} {df:List Nat} {r:Rt FH} (e:ZjY G t0 t1 h c=some r):G (.fn 27) [t0,t1] h c df=some (gcR h c [] r):=Z0f (a:=ZeX) bk_27 rfl (fun args h c=>by cases args <;> rfl) rfl ((ZgS G t0 t1 h c).trans e)
noncomputable def ZjX (o:Orc H) (t0 t1:Value) (h:H) (c:Nat):Option (Rt H) :=
 (Z00 P .lss 3 t0 (.int .i64 0)).bind fun t6 =>
 (gd t6 false h (c+1+1) (some t1)).bind fun r0 =>
 (gd t6 false r0.2.1 r0.2.2 (Z00 P .lss 3 r0.1 (.int .i64 0))).bind fun r1 =>
 (Z0C t6 (.bool true) r1.1).bind fun t10 =>
 (gd t10 false r1.2.1 r1.2.2 (some t0)).bind fun r2 =>
 (gd t10 false r2.2.1 r2.2.2 (Z00 P .gtr 3 r2.1 (.int .i64 3))).bind fun r3 =>
 (Z0C t10 (.bool true) r3.1).bind fun t14 =>
 (gd t14 false r3.2.1 r3.2.2 (some t1)).bind fun r4 =>
 (gd t14 false r4.2.1 r4.2.2 (Z00 P .gtr 3 r4.1 (.int .i64 3))).bind fun r5 =>
 (Z0C t14 (.bool true) r5.1).bind fun t18 =>
 (gd t18 false r5.2.1 r5.2.2 (some t0)).bind fun r6 =>
 (gd t18 false r6.2.1 r6.2.2 (some t1)).bind fun r7 =>
 (gd t18 false r7.2.1 r7.2.2 (Z00 P .eql 3 r6.1 r7.1)).bind fun r8 =>
 (Z0C t18 (.bool true) r8.1).bind fun t23 =>
 Z09 t23
 (some ⟨.ret,[(.int .i64 (-1))],r8.2.1,(r8.2.2+1),[]⟩)
 ((Z00 P .gtr 3 t0 t1).bind fun t26 =>
 Z09 t26
  ((callF o 28 [t1,t0] r8.2.1 (r8.2.2+1+1)).bind fun r9 =>
  some ⟨.ret,[r9.1],r9.2.1,r9.2.2,[]⟩)
  ((Z00 P .eql 3 t0 (.int .i64 0)).bind fun t32 =>
  Z09 t32
   ((Z00 P .sub 3 t1 (.int .i64 1)).bind fun t34 =>
   some ⟨.ret,[t34],r8.2.1,(r8.2.2+1+1+1+1),[]⟩)
   ((Z00 P .eql 3 t0 (.int .i64 1)).bind fun t36 =>
   Z09 t36
    ((Z00 P .add 3 t1 (.int .i64 1)).bind fun t38 =>
    some ⟨.ret,[t38],r8.2.1,(r8.2.2+1+1+1+1+1),[]⟩)
    (some ⟨.ret,[(.int .i64 5)],r8.2.1,(r8.2.2+1+1+1+1+1),[]⟩))))
theorem Znv (o:Orc H) (t0 t1:Value) (h:H) (c:Nat):jx P o 39 none f28_c (Z0h (List.range 2) [t0,t1]) h c [] (Kfn P Try.f28.results.toList)=ZjX o t0 t1 h c:=by kernel_rfl
theorem ZjW {t0 t1:Value} {h:FH} {c:Nat} {df:List Nat} {r:Rt FH} (e:ZjX G t0 t1 h c=some r):G (.fn 28) [t0,t1] h c df=some (gcR h c [] r):=Z0f (a:=Znu) bk_28 rfl (fun args h c=>by cases args <;> rfl) rfl ((Znv G t0 t1 h c).trans e)
noncomputable def Zq6 (o:Orc H) (h:H) (c:Nat):Option (Rt H) :=
 (callF o 62 [(.string (ByteArray.mk #[49,32,48,32,49,48,50,51,32,48,32,49,48,50,51,32,48,32,48,49,51,50,32,48,32,48,49,51,50]))] (newB h (256*c+0) [(.slice none 0 0)]) (c+1+1)).bind fun r0 =>
 (Z19 r0.1 0).bind fun t5 =>
 (Z19 r0.1 1).bind fun t6 =>
 (stN (newB r0.2.1 (256*(c+1)+4) [(.slice none 0 0)]) 1 (ptrTo (256*(c+1)+4)) t5).bind fun h2 =>
 (ldN h2 1 (ptrTo (256*(c+1)+4))).bind fun t7 =>
 (stN h2 1 (ptrTo (256*c+0)) t7).bind fun h4 =>
 (ldN h4 1 (ptrTo (256*c+0))).bind fun v5 =>
 some ⟨.ret,[v5],h4,(r0.2.2+1),[]⟩
theorem Znt (o:Orc H) (h:H) (c:Nat):jx P o 8 none f37_c (Z0h (List.range 0) []) h c [] (Kfn P Try.f37.results.toList)=Zq6 o h c:=by kernel_rfl

variable {H:Type} [HeapC H]
noncomputable def Z3M (o:Orc H) (l:Nat) (t13 t14 t1 t2 t3:Value) (h:H) (c:Nat):Option (Rt H) :=
 (stN (newB h (256*c+0) [(.int .i64 0),(.int .i64 0)]) 2 (ptrTo (256*c+0)) t13).bind fun h1 =>
 (stN (newB h1 (256*(c+1)+0) [(.int .i64 0),(.int .i64 0),(.int .i64 0),(.int .i64 0),(.int .i64 0)]) 5 (ptrTo (256*(c+1)+0)) t14).bind fun h3 =>
 (Z4e h3 l).bind fun h4 =>
 ((ldN h4 5 (ptrTo (256*(c+1)+0))).bind fun t15 =>
 (ldN h4 5 t3).bind fun t16 =>
 (Z00 P .eql 44 t15 t16).bind fun t17 =>
 Z09 t17
  (some ⟨.normal,[],h4,(c+1+1+1),[]⟩)
  ((Z03 (ptrTo (256*(c+1)+0)) 0).bind fun t18 =>
  (ld1 h4 t18).bind fun t19 =>
  (Z00 P .lss 3 t19 (.int .i64 0)).bind fun t20 =>
  (gd t20 false h4 (c+1+1+1+1) (Z03 (ptrTo (256*(c+1)+0)) 0)).bind fun r5 =>
  (gd t20 false r5.2.1 r5.2.2 (ld1 r5.2.1 r5.1)).bind fun r6 =>
  (gd t20 false r6.2.1 r6.2.2 (Z03 t1 0)).bind fun r7 =>
  (gd t20 false r7.2.1 r7.2.2 (ld1 r7.2.1 r7.1)).bind fun r8 =>
  (gg t20 false r8.2.1 r8.2.2 (((Z1q r8.1).bind fun v=>some (v,r8.2.1)).bind fun r=>some (r.1,r.2,r8.2.2))).bind fun r9 =>
  (gd t20 false r9.2.1 r9.2.2 (Z00 P .geq 3 r6.1 r9.1)).bind fun r10 =>
  (Z0C t20 (.bool true) r10.1).bind fun t28 =>
  (gd t28 false r10.2.1 r10.2.2 (Z03 (ptrTo (256*(c+1)+0)) 1)).bind fun r11 =>
  (gd t28 false r11.2.1 r11.2.2 (ldN r11.2.1 4 r11.1)).bind fun r12 =>
  (gg t28 false r12.2.1 r12.2.2 (callF o 56 [r12.1] r12.2.1 r12.2.2)).bind fun r13 =>
  (gd t28 false r13.2.1 r13.2.2 (Z2g .not r13.1)).bind fun r14 =>
  (Z0C t28 (.bool true) r14.1).bind fun t34 =>
  (gd t34 false r14.2.1 r14.2.2 (Z03 (ptrTo (256*(c+1)+0)) 0)).bind fun r15 =>
  (gd t34 false r15.2.1 r15.2.2 (ld1 r15.2.1 r15.1)).bind fun r16 =>
  (gd t34 false r16.2.1 r16.2.2 (Z03 (ptrTo (256*c+0)) 0)).bind fun r17 =>
  (gd t34 false r17.2.1 r17.2.2 (ld1 r17.2.1 r17.1)).bind fun r18 =>
  (gd t34 false r18.2.1 r18.2.2 (Z00 P .eql 3 r16.1 r18.1)).bind fun r19 =>
  (gd t34 false r19.2.1 r19.2.2 (some r19.1)).bind fun r20 =>
  (gd r20.1 true r20.2.1 r20.2.2 (Z03 (ptrTo (256*c+0)) 1)).bind fun r21 =>
  (gd r20.1 true r21.2.1 r21.2.2 (ld1 r21.2.1 r21.1)).bind fun r22 =>
  (gd r20.1 true r22.2.1 r22.2.2 (Z03 (ptrTo (256*(c+1)+0)) 1)).bind fun r23 =>
  (gd r20.1 true r23.2.1 r23.2.2 (ixA 4 1 r23.1 r22.1)).bind fun r24 =>
  (gd r20.1 true r24.2.1 r24.2.2 (ld1 r24.2.1 r24.1)).bind fun r25 =>
  (gd r20.1 true r25.2.1 r25.2.2 (Z03 (ptrTo (256*c+0)) 1)).bind fun r26 =>
  (gd r20.1 true r26.2.1 r26.2.2 (ld1 r26.2.1 r26.1)).bind fun r27 =>
  (gd r20.1 true r27.2.1 r27.2.2 (Z00 P .eql 3 r25.1 r27.1)).bind fun r28 =>
  (gg t34 false r28.2.1 r28.2.2 (Zdz r28.2.1 r28.2.2 r20.1 r28.1 (.bool false))).bind fun r29 =>
  (Z0C t34 (.bool true) r29.1).bind fun t51 =>
  Z09 t51
   ((stN r29.2.1 1 t2 (.int .i64 7)).bind fun h31 =>
   some ⟨.ret,[],h31,(r29.2.2+1),[]⟩)
   ((Z03 t1 0).bind fun t52 =>
   (ld1 r29.2.1 t52).bind fun t53 =>
   (Z03 (ptrTo (256*(c+1)+0)) 0).bind fun t54 =>
   (ld1 r29.2.1 t54).bind fun t55 =>
   (Z03 (ptrTo (256*c+0)) 1).bind fun t56 =>
   (ld1 r29.2.1 t56).bind fun t57 =>
   (Z03 (ptrTo (256*(c+1)+0)) 1).bind fun t58 =>
   (ixA 4 1 t58 t57).bind fun t59 =>
   (ld1 r29.2.1 t59).bind fun t60 =>
   (ixS 20 t53 t55).bind fun t61 =>
   (ixA 4 5 t61 t60).bind fun t62 =>
   (ldN r29.2.1 5 t62).bind fun t63 =>
   (Z03 (ptrTo (256*c+0)) 0).bind fun t64 =>
   (ld1 r29.2.1 t64).bind fun t65 =>
   (Z03 (ptrTo (256*(c+1)+0)) 1).bind fun t66 =>
   (ldN r29.2.1 4 t66).bind fun t67 =>
   (callF o 64 [t67] r29.2.1 (r29.2.2+1)).bind fun r32 =>
   (Z1K [(.int .i64 0),(.int .i64 0),(.int .i64 0),(.int .i64 0),(.int .i64 0)] [(0,1,t65),(1,4,r32.1)]).bind fun t69 =>
   (Z00 P .neq 44 t63 t69).bind fun t70 =>
   (bif (Z1y (Z2O t52) r29.2.1 r32.2.1 && (Z1y (Z2O t54) r29.2.1 r32.2.1 && (Z1y (Z2O t56) r29.2.1 r32.2.1 && (Z1y (Z2O t59) r29.2.1 r32.2.1 && (Z1y (Z2O t62) r29.2.1 r32.2.1 && (Z1y (Z2O t64) r29.2.1 r32.2.1 && true)))))) then
   Z09 t70
    ((stN r32.2.1 1 t2 (.int .i64 7)).bind fun h34 =>
    some ⟨.ret,[],h34,(r32.2.2+1),[]⟩)
    (some ⟨.normal,[],r32.2.1,r32.2.2,[]⟩)
   else none))):Option (Rt H)).bind fun r35 =>
 cond (Z0r r35.e .normal)
 ((Z12 r35.h l .ready none).bind fun h37 =>
 cond (List.isEmpty (r35.df:List Nat)) (some ⟨.ret,[.bool true],h37,r35.c,[]⟩) none)
 (cond (Z0r r35.e .ret)
  ((Z12 r35.h l .done (some .ret)).bind fun h36 =>
  cond (List.isEmpty (r35.df:List Nat)) (some ⟨.ret,[.bool false],h36,r35.c,[]⟩) none)
  (none))
theorem Z7s (o:Orc H) (l:Nat) (t13 t14 t1 t2 t3:Value) (h:H) (c:Nat):jx P o 71 (some l) Z1C (Z0h ([13,14]++[1,2,3]) [t13,t14,t1,t2,t3]) h c [] (ZqB P o 71 l Z1B)=Z3M o l t13 t14 t1 t2 t3 h c:=by kernel_rfl
noncomputable def ZjV (o:Orc H) (t0:Value) (h:H) (c:Nat):Option (Rt H) :=
 (bif (t0:Value).cells.toList.all Z08 then
 (Z03 (ptrTo (256*c+0)) 0).bind fun t6 =>
 (ld1 (newB (newB h (256*c+0) (t0:Value).cells.toList) (256*c+1) [(.int .i64 0)]) t6).bind fun t7 =>
 (Z1q t7).bind fun t8 =>
 (Z00 P .gtr 3 t8 (.int .i64 1000)).bind fun t9 =>
 Z09 t9
 ((stN (newB (newB h (256*c+0) (t0:Value).cells.toList) (256*c+1) [(.int .i64 0)]) 1 (ptrTo (256*c+1)) (.int .i64 7)).bind fun h1 =>
 (ld1 h1 (ptrTo (256*c+1))).bind fun v2 =>
 some ⟨.ret,[v2],h1,(c+1+1+1),[]⟩)
 ((Z1K [(.int .i64 0),(.int .i64 0),(.int .i64 0),(.int .i64 0),(.int .i64 0)] [(0,1,(.int .i64 (-1)))]).bind fun t10 =>
 (stN (newB (newB (newB h (256*c+0) (t0:Value).cells.toList) (256*c+1) [(.int .i64 0)]) (256*(c+1+1)+1) [(.int .i64 0),(.int .i64 0),(.int .i64 0),(.int .i64 0),(.int .i64 0)]) 5 (ptrTo (256*(c+1+1)+1)) t10).bind fun h4 =>
 (ldN h4 1 (ptrTo (256*c+0))).bind fun t11 =>
 (callF o 63 [t11] h4 (c+1+1+1+1)).bind fun r5 =>
 (Z6L o 71 none [1,2,3] [] #[13,14] Z1C Z1B r5.1 [(ptrTo (256*c+0)),(ptrTo (256*c+1)),(ptrTo (256*(c+1+1)+1))] r5.2.1 r5.2.2 []).bind fun q6 =>
 cond (Z0r q6.1 .normal)
  ((stN q6.2.1 1 (ptrTo (256*c+1)) (.int .i64 0)).bind fun h10 =>
  (Z0a h10 q6.2.2.2).bind fun h11 =>
  (ld1 h11 (ptrTo (256*c+1))).bind fun v12 =>
  some ⟨.ret,[v12],h11,(q6.2.2.1+1),[]⟩)
  (cond (Z0r q6.1 .ret)
   ((Z0a q6.2.1 q6.2.2.2).bind fun h7 =>
   (ld1 h7 (ptrTo (256*c+1))).bind fun v8 =>
   some ⟨.ret,[v8],h7,q6.2.2.1,[]⟩)
   (none)))
 else none)
theorem ZgR (o:Orc H) (t0:Value) (h:H) (c:Nat):jx P o 71 none f38_c (Z0h (List.range 1) [t0]) h c [] (Kfn P Try.f38.results.toList)=ZjV o t0 h c:=by kernel_rfl
theorem f38_go {t0:Value} {h:FH} {c:Nat} {df:List Nat} {r:Rt FH} (e:ZjV G t0 h c=some r):G (.fn 38) [t0] h c df=some (gcR h c [] r):=Z0f (a:=ZeW) bk_38 rfl (fun args h c=>by cases args <;> rfl) rfl ((ZgR G t0 h c).trans e)
theorem Zi6 {t13 t14 t1 t2 t3:Value} {l:Nat} {h:FH} {c:Nat} {df:List Nat} {r:Rt FH} (e:Z3M G l t13 t14 t1 t2 t3 h c=some r):G (.rnd 71 [1,2,3] [] [13,14] l Z1C Z1B) [t13,t14,t1,t2,t3] h c df=some r:=ZkT ((Z7s G l t13 t14 t1 t2 t3 h c).trans e)
noncomputable def Z3L (o:Orc H) (rd:Option Nat) (t2 t3 t4 t5 t6 t8 t10 t12 t13 t59 t60 t105 t106:Value) (h:H) (c:Nat) (df:List Nat):Option (Rt H) :=
 (Z00 P .lss 3 t106 (.int .i64 6)).bind fun t107 =>
 Z09 t107
 ((ixV 6 true 2 t105 t106).bind fun t109 =>
 (stN (newB h (256*(c+1)+2) [(.int .i64 0),(.int .i64 0)]) 2 (ptrTo (256*(c+1)+2)) t109).bind fun h1 =>
 (Z00 P .mul 3 (.int .i64 6) t13).bind fun t112 =>
 (Z00 P .add 3 t112 t106).bind fun t114 =>
 (ixS 1 t8 t114).bind fun t115 =>
 (ld1 h1 t115).bind fun t116 =>
 (Z03 t12 3).bind fun t117 =>
 (ld1 h1 t117).bind fun t118 =>
 (ixS 1 t118 t116).bind fun t120 =>
 (ld1 h1 t120).bind fun t121 =>
 (Z00 P .add 3 t121 (.int .i64 1)).bind fun t122 =>
 (ixS 1 t118 t116).bind fun t123 =>
 (stN h1 1 t123 t122).bind fun h3 =>
 (Z00 P .mul 3 (.int .i64 16) t13).bind fun t126 =>
 (ixA 2 1 (ptrTo (256*(c+1)+2)) (.int .i64 0)).bind fun t127 =>
 (ld1 h3 t127).bind fun t128 =>
 (Z00 P .mul 3 (.int .i64 4) t128).bind fun t129 =>
 (Z00 P .add 3 t126 t129).bind fun t130 =>
 (ixA 2 1 (ptrTo (256*(c+1)+2)) (.int .i64 1)).bind fun t131 =>
 (ld1 h3 t131).bind fun t132 =>
 (Z00 P .add 3 t130 t132).bind fun t133 =>
 (ixS 1 t6 t133).bind fun t134 =>
 (ld1 h3 t134).bind fun t135 =>
 (Z00 P .mul 3 (.int .i64 16) t13).bind fun t138 =>
 (ixA 2 1 (ptrTo (256*(c+1)+2)) (.int .i64 1)).bind fun t139 =>
 (ld1 h3 t139).bind fun t140 =>
 (Z00 P .mul 3 (.int .i64 4) t140).bind fun t141 =>
 (Z00 P .add 3 t138 t141).bind fun t142 =>
 (ixA 2 1 (ptrTo (256*(c+1)+2)) (.int .i64 0)).bind fun t143 =>
 (ld1 h3 t143).bind fun t144 =>
 (Z00 P .add 3 t142 t144).bind fun t145 =>
 (ixS 1 t6 t145).bind fun t146 =>
 (ld1 h3 t146).bind fun t147 =>
 (Z00 P .eql 3 t135 t147).bind fun t148 =>
 (Z09 t148
  ((Z03 t12 4).bind fun t149 =>
  (ld1 h3 t149).bind fun t150 =>
  (ixS 1 t150 t116).bind fun t152 =>
  (stN h3 1 t152 (.bool true)).bind fun h5 =>
  some ⟨.normal,[t2,t3,t4,t5,t6,t8,t10,t12,t13,t59,t60,t105,t106],h5,(c+1+1+1+1+1+1),df⟩)
  (some ⟨.normal,[t2,t3,t4,t5,t6,t8,t10,t12,t13,t59,t60,t105,t106],h3,(c+1+1+1+1+1),df⟩):Option (Rt H)).bind fun r6 =>
 cond (Z0r r6.e .normal)
  ((Z00 P .add 3 (r6.v 12) (.int .i64 1)).bind fun t153 =>
  some ⟨.normal,[r6.v 0,r6.v 1,r6.v 2,r6.v 3,r6.v 4,r6.v 5,r6.v 6,r6.v 7,r6.v 8,r6.v 9,r6.v 10,r6.v 11,t153],r6.h,(r6.c+1),r6.df⟩)
  (none))
 (some ⟨(.exit 2),[t2,t3,t4,t5,t6,t8,t10,t12,t13,t59,t60,t105,t106],h,(c+1),df⟩)
theorem Z30 (o:Orc H) (rd:Option Nat) (t2 t3 t4 t5 t6 t8 t10 t12 t13 t59 t60 t105 t106:Value) (h:H) (c:Nat) (df:List Nat):jx P o 172 rd Z3J (Z0h [2,3,4,5,6,8,10,12,13,59,60,105,106] [t2,t3,t4,t5,t6,t8,t10,t12,t13,t59,t60,t105,t106]) h c df (Klp [2,3,4,5,6,8,10,12,13,59,60,105,106])=Z3L o rd t2 t3 t4 t5 t6 t8 t10 t12 t13 t59 t60 t105 t106 h c df:=by kernel_rfl
noncomputable def Z4G (o:Orc H) (rd:Option Nat) (t2 t3 t4 t5 t6 t8 t10 t12 t59 t60:Value) (h:H) (c:Nat) (df:List Nat):Option (Rt H) :=
 (Z00 P .lss 3 t60 t59).bind fun t61 =>
 Z09 t61
 ((Z03 t12 0).bind fun t63 =>
 (ld1 h t63).bind fun t64 =>
 (Z00 P .mul 3 (.int .i64 4) t60).bind fun t67 =>
 (Z00 P .mul 3 (.int .i64 4) t60).bind fun t69 =>
 (Z00 P .add 3 t69 (.int .i64 4)).bind fun t70 =>
 (slS h 1 t4 (some t67) (some t70) none).bind fun t71 =>
 (Z5x P 41 t71).bind fun t72 =>
 (ldN h 4 t72).bind fun t73 =>
 (Z9D [(.int .i64 0),(.int .i64 0),(.int .i64 0),(.int .i64 0)] [(0,4,t73)]).bind fun r0 =>
 (Z5D (newB h (256*(c+1+1)+11) r0) (256*(c+1+1)+12) 4 32 t64 (.slice (some ⟨(256*(c+1+1)+11),0,none⟩) 1 1)).bind fun r1 =>
 (Z03 t12 0).bind fun t76 =>
 (stN r1.2 1 t76 r1.1).bind fun h3 =>
 (Z03 t12 1).bind fun t77 =>
 (ld1 h3 t77).bind fun t78 =>
 (Z00 P .mul 3 (.int .i64 6) t60).bind fun t81 =>
 (Z00 P .mul 3 (.int .i64 6) t60).bind fun t83 =>
 (Z00 P .add 3 t83 (.int .i64 6)).bind fun t84 =>
 (slS h3 1 t8 (some t81) (some t84) none).bind fun t85 =>
 (Z5x P 64 t85).bind fun t86 =>
 (ldN h3 6 t86).bind fun t87 =>
 (Z9D [(.int .i64 0),(.int .i64 0),(.int .i64 0),(.int .i64 0),(.int .i64 0),(.int .i64 0)] [(0,6,t87)]).bind fun r4 =>
 (Z5D (newB h3 (256*(c+1+1+1)+11) r4) (256*(c+1+1+1)+12) 6 48 t78 (.slice (some ⟨(256*(c+1+1+1)+11),0,none⟩) 1 1)).bind fun r5 =>
 (Z03 t12 1).bind fun t90 =>
 (stN r5.2 1 t90 r5.1).bind fun h7 =>
 (Z03 t12 2).bind fun t91 =>
 (ld1 h7 t91).bind fun t92 =>
 (Z00 P .mul 3 (.int .i64 4) t60).bind fun t95 =>
 (Z00 P .mul 3 (.int .i64 4) t60).bind fun t97 =>
 (Z00 P .add 3 t97 (.int .i64 4)).bind fun t98 =>
 (slS h7 1 t10 (some t95) (some t98) none).bind fun t99 =>
 (Z5x P 41 t99).bind fun t100 =>
 (ldN h7 4 t100).bind fun t101 =>
 (Z9D [(.int .i64 0),(.int .i64 0),(.int .i64 0),(.int .i64 0)] [(0,4,t101)]).bind fun r8 =>
 (Z5D (newB h7 (256*(c+1+1+1+1)+11) r8) (256*(c+1+1+1+1)+12) 4 32 t92 (.slice (some ⟨(256*(c+1+1+1+1)+11),0,none⟩) 1 1)).bind fun r9 =>
 (Z03 t12 2).bind fun t104 =>
 (stN r9.2 1 t104 r9.1).bind fun h11 =>
 (callF o 54 [] h11 (c+1+1+1+1+1+1)).bind fun r12 =>
 (o (Zc7 rd) [t2,t3,t4,t5,t6,t8,t10,t12,t60,t59,t60,r12.1,(.int .i64 0)] r12.2.1 r12.2.2 df).bind fun r13 =>
 cond (Z0r r13.e (.exit 2))
  ((Z00 P .add 3 (r13.v 10) (.int .i64 1)).bind fun t154 =>
  some ⟨.normal,[r13.v 0,r13.v 1,r13.v 2,r13.v 3,r13.v 4,r13.v 5,r13.v 6,r13.v 7,r13.v 9,t154],r13.h,(r13.c+1),r13.df⟩)
  (none))
 (some ⟨(.exit 0),[t2,t3,t4,t5,t6,t8,t10,t12,t59,t60],h,(c+1),df⟩)
theorem Z5n (o:Orc H) (rd:Option Nat) (t2 t3 t4 t5 t6 t8 t10 t12 t59 t60:Value) (h:H) (c:Nat) (df:List Nat):jx P o 172 rd Z3K (Z0h [2,3,4,5,6,8,10,12,59,60] [t2,t3,t4,t5,t6,t8,t10,t12,t59,t60]) h c df (Klp [2,3,4,5,6,8,10,12,59,60])=Z4G o rd t2 t3 t4 t5 t6 t8 t10 t12 t59 t60 h c df:=by kernel_rfl
noncomputable def Z4F (o:Orc H) (rd:Option Nat) (t2 t3 t4 t6 t12 t155 t156:Value) (h:H) (c:Nat) (df:List Nat):Option (Rt H) :=
 (Z00 P .lss 3 t156 t155).bind fun t157 =>
 Z09 t157
 ((Z03 t12 5).bind fun t159 =>
 (ld1 h t159).bind fun t160 =>
 (callF o 60 [t3,t4,t156] h (c+1+1+1)).bind fun r0 =>
 (callF o 65 [r0.1,t6] r0.2.1 r0.2.2).bind fun r1 =>
 (Z9D [(.int .i64 0),(.int .i64 0),(.int .i64 0),(.int .i64 0),(.bool false),(.bool false)] [(0,6,r1.1)]).bind fun r2 =>
 (Z5D (newB r1.2.1 (256*(c+1+1)+8) r2) (256*(c+1+1)+9) 6 40 t160 (.slice (some ⟨(256*(c+1+1)+8),0,none⟩) 1 1)).bind fun r3 =>
 (Z03 t12 5).bind fun t169 =>
 (stN r3.2 1 t169 r3.1).bind fun h5 =>
 (bif (Z1y (Z2O t159) h r0.2.1 && (Z1y (Z2O t159) r0.2.1 r1.2.1 && true)) then
 (Z00 P .add 3 t156 (.int .i64 1)).bind fun t170 =>
 some ⟨.normal,[t2,t3,t4,t6,t12,t155,t170],h5,(r1.2.2+1),df⟩
 else none))
 (some ⟨(.exit 4),[t2,t3,t4,t6,t12,t155,t156],h,(c+1),df⟩)
theorem Z5m (o:Orc H) (rd:Option Nat) (t2 t3 t4 t6 t12 t155 t156:Value) (h:H) (c:Nat) (df:List Nat):jx P o 172 rd Z3I (Z0h [2,3,4,6,12,155,156] [t2,t3,t4,t6,t12,t155,t156]) h c df (Klp [2,3,4,6,12,155,156])=Z4F o rd t2 t3 t4 t6 t12 t155 t156 h c df:=by kernel_rfl
noncomputable def ZjU (o:Orc H) (t0:Value) (h:H) (c:Nat):Option (Rt H) :=
 (bif (t0:Value).cells.toList.all Z08 then
 (ldN (newB (newB h (256*c+0) (t0:Value).cells.toList) (256*c+1) [(.slice none 0 0),(.slice none 0 0),(.slice none 0 0),(.slice none 0 0),(.slice none 0 0),(.slice none 0 0)]) 1 (ptrTo (256*c+0))).bind fun t18 =>
 (callF o 40 [t18] (newB (newB h (256*c+0) (t0:Value).cells.toList) (256*c+1) [(.slice none 0 0),(.slice none 0 0),(.slice none 0 0),(.slice none 0 0),(.slice none 0 0),(.slice none 0 0)]) (c+1+1)).bind fun r0 =>
 (Z0e r0.1).bind fun t22 =>
 (Z03 t22 1).bind fun t23 =>
 (Z03 t23 0).bind fun t24 =>
 (callF o 41 [t24] r0.2.1 (r0.2.2+1)).bind fun r1 =>
 (Z19 r1.1 0).bind fun t26 =>
 (Z19 r1.1 1).bind fun t27 =>
 (Z0e r0.1).bind fun t30 =>
 (Z03 t30 2).bind fun t31 =>
 (Z03 t31 0).bind fun t32 =>
 (callF o 41 [t32] r1.2.1 (r1.2.2+1)).bind fun r2 =>
 (Z19 r2.1 0).bind fun t34 =>
 (Z19 r2.1 1).bind fun t35 =>
 (Z0e r0.1).bind fun t38 =>
 (Z03 t38 3).bind fun t39 =>
 (Z03 t39 0).bind fun t40 =>
 (callF o 41 [t40] r2.2.1 (r2.2.2+1)).bind fun r3 =>
 (Z19 r3.1 0).bind fun t42 =>
 (Z19 r3.1 1).bind fun t43 =>
 (Z0e r0.1).bind fun t46 =>
 (Z03 t46 4).bind fun t47 =>
 (Z03 t47 0).bind fun t48 =>
 (callF o 41 [t48] r3.2.1 (r3.2.2+1)).bind fun r4 =>
 (Z19 r4.1 0).bind fun t50 =>
 (Z19 r4.1 1).bind fun t51 =>
 (mkS 1 8 [(.int .i64 0)] t43 t43).bind fun r5 =>
 (mkS 1 1 [(.bool false)] t43 t43).bind fun r6 =>
 (Z1K [(.slice none 0 0),(.slice none 0 0),(.slice none 0 0),(.slice none 0 0),(.slice none 0 0),(.slice none 0 0)] [(3,1,(.slice (some ⟨(256*r4.2.2+1),0,none⟩) r5.2.1 r5.2.2)),(4,1,(.slice (some ⟨(256*r4.2.2+3),0,none⟩) r6.2.1 r6.2.2))]).bind fun t56 =>
 (stN (newB (newB (newB r4.2.1 (256*r4.2.2+1) r5.1) (256*r4.2.2+3) r6.1) (256*r4.2.2+5) [(.slice none 0 0),(.slice none 0 0),(.slice none 0 0),(.slice none 0 0),(.slice none 0 0),(.slice none 0 0)]) 6 (ptrTo (256*r4.2.2+5)) t56).bind fun h8 =>
 (Z03 (ptrTo (256*c+0)) 0).bind fun t57 =>
 (ld1 h8 t57).bind fun t58 =>
 (Z1q t58).bind fun t59 =>
 (o (Zc8 none) [(ptrTo (256*c+1)),r0.1,t26,t27,t34,t42,t50,(ptrTo (256*r4.2.2+5)),t59,(.int .i64 0)] h8 (r4.2.2+1+1) []).bind fun r9 =>
 cond (Z0r r9.e (.exit 0))
 ((o (Zc6 none) [r9.v 0,r9.v 1,r9.v 2,r9.v 4,r9.v 7,r9.v 3,(.int .i64 0)] r9.h (r9.c+1) r9.df).bind fun r10 =>
 cond (Z0r r10.e (.exit 4))
  ((ldN r10.h 6 (r10.v 4)).bind fun t171 =>
  (stN r10.h 6 (r10.v 0) t171).bind fun h12 =>
  (Z0a h12 r10.df).bind fun h13 =>
  (ldN h13 6 (r10.v 0)).bind fun v14 =>
  some ⟨.ret,[v14],h13,(r10.c+1),[]⟩)
  (none))
 (none)
 else none)
theorem ZgQ (o:Orc H) (t0:Value) (h:H) (c:Nat):jx P o 172 none f39_c (Z0h (List.range 1) [t0]) h c [] (Kfn P Try.f39.results.toList)=ZjU o t0 h c:=by kernel_rfl
theorem f39_go {t0:Value} {h:FH} {c:Nat} {df:List Nat} {r:Rt FH} (e:ZjU G t0 h c=some r):G (.fn 39) [t0] h c df=some r:=Z0f (a:=ZeV) bk_39 rfl (fun args h c=>by cases args <;> rfl) rfl ((ZgQ G t0 h c).trans e)
end Go.Proofs.Ytdodippbpdechaa
