/- Parts of a proof: S0 S1 S2. Conditions: none. -/
import Derived.Test.YtdodippbpdechaaM8
set_option linter.all false
set_option maxRecDepth 100000
namespace Go.Proofs.Ytdodippbpdechaa
open Go Go.Ab Go.Proofs
variable {H:Type} [HeapC H]
noncomputable def f9_S (o:Orc H) (t0 t1 t2 t3:Value) (h:H) (c:Nat):Option (Rt H) :=
 (bif (t0:Value).cells.toList.all Z06 then
 (bif (t2:Value).cells.toList.all Z06 then
 (Z03 (ptrTo (256*c+0)) 0).bind fun t10 =>
 (ld1 (newB (newB h (256*c+0) (t0:Value).cells.toList) (256*c+1) (t2:Value).cells.toList) t10).bind fun t11 =>
 (Z4c t11).bind fun t12 =>
 (Z00 P .gtr 3 t12 (.int .i64 60)).bind fun t13 =>
 Z0b t13
 ((callF o 10 [] (newB (newB h (256*c+0) (t0:Value).cells.toList) (256*c+1) (t2:Value).cells.toList) (c+1+1+1)).bind fun r0 =>
 some ⟨.ret,[r0.1],r0.2.1,r0.2.2,[]⟩)
 ((Z03 (ptrTo (256*(c+1+1)+0)) 0).bind fun t15 =>
 (ld1 (newB (newB (newB h (256*c+0) (t0:Value).cells.toList) (256*c+1) (t2:Value).cells.toList) (256*(c+1+1)+0) [(.slice none 0 0)]) t15).bind fun t16 =>
 (Z03 (ptrTo (256*c+0)) 0).bind fun t17 =>
 (ld1 (newB (newB (newB h (256*c+0) (t0:Value).cells.toList) (256*c+1) (t2:Value).cells.toList) (256*(c+1+1)+0) [(.slice none 0 0)]) t17).bind fun t18 =>
 (Z5l (newB (newB (newB h (256*c+0) (t0:Value).cells.toList) (256*c+1) (t2:Value).cells.toList) (256*(c+1+1)+0) [(.slice none 0 0)]) (256*(c+1+1+1)+4) 20 160 t16 t18).bind fun r1 =>
 (Z03 (ptrTo (256*(c+1+1)+0)) 0).bind fun t20 =>
 (stN r1.2 1 t20 r1.1).bind fun h3 =>
 (ldN h3 1 (ptrTo (256*c+0))).bind fun t21 =>
 (callF o 11 [t21] h3 (c+1+1+1+1+1)).bind fun r4 =>
 (ldN r4.2.1 1 (ptrTo (256*c+0))).bind fun t23 =>
 (callF o 13 [t23] r4.2.1 (r4.2.2+1)).bind fun r5 =>
 (ldN r5.2.1 1 (ptrTo (256*c+0))).bind fun t25 =>
 (callF o 12 [t25] r5.2.1 (r5.2.2+1)).bind fun r6 =>
 (ldN r6.2.1 1 (ptrTo (256*c+0))).bind fun t27 =>
 (ldN r6.2.1 4 (ptrTo (256*c+1))).bind fun t29 =>
 (callF o 29 [t27,t1,t29] r6.2.1 (r6.2.2+1)).bind fun r7 =>
 (ldN r7.2.1 1 (ptrTo (256*c+0))).bind fun t31 =>
 (callF o 35 [t31,t3] r7.2.1 (r7.2.2+1)).bind fun r8 =>
 (callF o 10 [] r8.2.1 (r8.2.2+1)).bind fun r9 =>
 (gd r9.1 true r9.2.1 r9.2.2 (ldN r9.2.1 1 (ptrTo (256*c+0)))).bind fun r10 =>
 (gd r9.1 true r10.2.1 r10.2.2 (ldN r10.2.1 1 (ptrTo (256*(c+1+1)+0)))).bind fun r11 =>
 (gg r9.1 true r11.2.1 r11.2.2 (callF o 36 [r10.1,r11.1] r11.2.1 r11.2.2)).bind fun r12 =>
 (Z10 r9.1 r12.1 (.bool false)).bind fun t39 =>
 some ⟨.ret,[t39],r12.2.1,r12.2.2,[]⟩)
 else none)
 else none)
theorem ZkD (o:Orc H) (t0 t1 t2 t3:Value) (h:H) (c:Nat):jx P o 40 none f9_c (Z0m (List.range 4) [t0,t1,t2,t3]) h c [] (Kfn P Try.f9.results.toList)=f9_S o t0 t1 t2 t3 h c:=by kernel_rfl
theorem f9_go {t0 t1 t2 t3:Value} {h:FH} {c:Nat} {df:List Nat} {r:Rt FH} (e:f9_S G t0 t1 t2 t3 h c=some r):G (.fn 9) [t0,t1,t2,t3] h c df=some (gcR h c [] r):=Z0n (a:=f9_f) bk_9 rfl (fun args h c=>by cases args <;> rfl) rfl ((ZkD G t0 t1 t2 t3 h c).trans e)
noncomputable def Zl4 (o:Orc H) (h:H) (c:Nat):Option (Rt H) :=
 (callF o 37 [] h (c+1+1)).bind fun r0 =>
 (callF o 13 [r0.1] r0.2.1 r0.2.2).bind fun r1 =>
 (Z4z r1.1 0).bind fun t8 =>
 (Z4z r1.1 1).bind fun t9 =>
 (callF o 37 [] r1.2.1 (r1.2.2+1)).bind fun r2 =>
 (callF o 11 [r2.1] r2.2.1 r2.2.2).bind fun r3 =>
 (Z4z r3.1 0).bind fun t13 =>
 (Z4z r3.1 1).bind fun t14 =>
 (stN (newB r3.2.1 (256*r1.2.2+5) [(.slice none 0 0),(.slice none 0 0),(.slice none 0 0),(.slice none 0 0),(.slice none 0 0),(.slice none 0 0)]) 6 (ptrTo (256*r1.2.2+5)) t13).bind fun h5 =>
 (Z00 P .eql 33 t9 (.int .i64 0)).bind fun t16 =>
 (gd t16 true h5 (r3.2.2+1) (some t8)).bind fun r6 =>
 (gd t16 true r6.2.1 r6.2.2 (Z00 P .eql 3 r6.1 (.int .i64 1))).bind fun r7 =>
 (Z10 t16 r7.1 (.bool false)).bind fun t20 =>
 (gd t20 true r7.2.1 r7.2.2 (some t14)).bind fun r8 =>
 (gd t20 true r8.2.1 r8.2.2 (Z00 P .eql 33 r8.1 (.int .i64 0))).bind fun r9 =>
 (Z10 t20 r9.1 (.bool false)).bind fun t24 =>
 (gd t24 true r9.2.1 r9.2.2 (Z03 (ptrTo (256*r1.2.2+5)) 3)).bind fun r10 =>
 (gd t24 true r10.2.1 r10.2.2 (ld1 r10.2.1 r10.1)).bind fun r11 =>
 (gg t24 true r11.2.1 r11.2.2 ((Z88 [(.int .i64 0),(.int .i64 0),(.int .i64 0)] [(0,1,(.int .i64 1)),(1,1,(.int .i64 4)),(2,1,(.int .i64 1))]).bind fun cs=>some (.slice (some ⟨(256*r3.2.2+13),0,none⟩) 3 3,newB r11.2.1 (256*r3.2.2+13) cs,r11.2.2))).bind fun r12 =>
 (gg t24 true r12.2.1 r12.2.2 (callF o 16 [r11.1,r12.1] r12.2.1 r12.2.2)).bind fun r13 =>
 (Z10 t24 r13.1 (.bool false)).bind fun t30 =>
 some ⟨.ret,[t30],r13.2.1,r13.2.2,[]⟩
theorem Zj4 (o:Orc H) (h:H) (c:Nat):jx P o 31 none f10_c (Z0m (List.range 0) []) h c [] (Kfn P Try.f10.results.toList)=Zl4 o h c:=by kernel_rfl
noncomputable def Zeo (o:Orc H) (t0:Value) (h:H) (c:Nat):Option (Rt H) :=
 (bif (t0:Value).cells.toList.all Z06 then
 (ldN (newB (newB h (256*c+0) (t0:Value).cells.toList) (256*c+1) [(.slice none 0 0),(.slice none 0 0),(.slice none 0 0),(.slice none 0 0),(.slice none 0 0),(.slice none 0 0)]) 1 (ptrTo (256*c+0))).bind fun t4 =>
 (callF o 38 [t4] (newB (newB h (256*c+0) (t0:Value).cells.toList) (256*c+1) [(.slice none 0 0),(.slice none 0 0),(.slice none 0 0),(.slice none 0 0),(.slice none 0 0),(.slice none 0 0)]) (c+1+1)).bind fun r0 =>
 (Z00 P .neq 33 r0.1 (.int .i64 0)).bind fun t6 =>
 Z0b t6
 ((Z1d [(.slice none 0 0),(.slice none 0 0),(.slice none 0 0),(.slice none 0 0),(.slice none 0 0),(.slice none 0 0)] []).bind fun t7 =>
 (stN r0.2.1 6 (ptrTo (256*c+1)) t7).bind fun h2 =>
 (ldN h2 6 (ptrTo (256*c+1))).bind fun v3 =>
 some ⟨.ret,[.tuple #[v3,(.int .i64 7)]],h2,(r0.2.2+1),[]⟩)
 ((ldN r0.2.1 1 (ptrTo (256*c+0))).bind fun t8 =>
 (callF o 39 [t8] r0.2.1 (r0.2.2+1)).bind fun r4 =>
 (stN r4.2.1 6 (ptrTo (256*c+1)) r4.1).bind fun h6 =>
 (ldN h6 6 (ptrTo (256*c+1))).bind fun v7 =>
 some ⟨.ret,[.tuple #[v7,(.int .i64 0)]],h6,r4.2.2,[]⟩)
 else none)
theorem Zdn (o:Orc H) (t0:Value) (h:H) (c:Nat):jx P o 10 none f11_c (Z0m (List.range 1) [t0]) h c [] (Kfn P Try.f11.results.toList)=Zeo o t0 h c:=by kernel_rfl
theorem ZjC {t0:Value} {h:FH} {c:Nat} {df:List Nat} {r:Rt FH} (e:Zeo G t0 h c=some r):G (.fn 11) [t0] h c df=some r:=Z0n (a:=ZbH) bk_11 rfl (fun args h c=>by cases args <;> rfl) rfl ((Zdn G t0 h c).trans e)
noncomputable def Zl3 (o:Orc H) (t0:Value) (h:H) (c:Nat):Option (Rt H) :=
 (bif (t0:Value).cells.toList.all Z06 then
 (ldN (newB h (256*c+0) (t0:Value).cells.toList) 1 (ptrTo (256*c+0))).bind fun t11 =>
 (callF o 38 [t11] (newB h (256*c+0) (t0:Value).cells.toList) (c+1+1)).bind fun r0 =>
 (Z00 P .neq 33 r0.1 (.int .i64 0)).bind fun t13 =>
 Z0b t13
 (some ⟨.ret,[.tuple #[(.int .i64 0),(.int .i64 7)]],r0.2.1,(r0.2.2+1),[]⟩)
 ((ldN r0.2.1 1 (ptrTo (256*c+0))).bind fun t14 =>
 (callF o 40 [t14] r0.2.1 (r0.2.2+1)).bind fun r1 =>
 (Z0a r1.1).bind fun t18 =>
 (Z03 t18 1).bind fun t19 =>
 (Z03 t19 0).bind fun t20 =>
 (callF o 41 [t20] r1.2.1 (r1.2.2+1)).bind fun r2 =>
 (Z4z r2.1 0).bind fun t22 =>
 (Z4z r2.1 1).bind fun t23 =>
 (Z0a r1.1).bind fun t26 =>
 (Z03 t26 3).bind fun t27 =>
 (Z03 t27 0).bind fun t28 =>
 (callF o 41 [t28] r2.2.1 (r2.2.2+1)).bind fun r3 =>
 (Z4z r3.1 0).bind fun t30 =>
 (Z4z r3.1 1).bind fun t31 =>
 (Z0a r1.1).bind fun t34 =>
 (Z03 t34 4).bind fun t35 =>
 (Z03 t35 0).bind fun t36 =>
 (callF o 41 [t36] r3.2.1 (r3.2.2+1)).bind fun r4 =>
 (Z4z r4.1 0).bind fun t38 =>
 (Z4z r4.1 1).bind fun t39 =>
 (Z00 P .sub 3 t23 t31).bind fun t42 =>
 (Z00 P .add 3 t42 t39).bind fun t44 =>
 (Z03 (ptrTo (256*c+0)) 0).bind fun t45 =>
 (ld1 r4.2.1 t45).bind fun t46 =>
 (Z4c t46).bind fun t47 =>
 (Z00 P .sub 3 t44 t47).bind fun t48 =>
 some ⟨.ret,[.tuple #[t48,(.int .i64 0)]],r4.2.1,(r4.2.2+1),[]⟩)
 else none)
theorem Zj3 (o:Orc H) (t0:Value) (h:H) (c:Nat):jx P o 49 none f12_c (Z0m (List.range 1) [t0]) h c [] (Kfn P Try.f12.results.toList)=Zl3 o t0 h c:=by kernel_rfl
theorem f12_go {t0:Value} {h:FH} {c:Nat} {df:List Nat} {r:Rt FH} (e:Zl3 G t0 h c=some r):G (.fn 12) [t0] h c df=some (gcR h c [] r):=Z0n (a:=Zj2) bk_12 rfl (fun args h c=>by cases args <;> rfl) rfl ((Zj3 G t0 h c).trans e)
noncomputable def Z40 (o:Orc H) (rd:Option Nat) (t2 t3 t4 t12 t13:Value) (h:H) (c:Nat) (df:List Nat):Option (Rt H) :=
 (Z00 P .lss 3 t13 (.int .i64 4)).bind fun t14 =>
 Z0b t14
 ((ixV 4 true 2 t12 t13).bind fun t15 =>
 (stN (newB h (256*(c+1)+1) [(.int .i64 0),.nilFunc]) 2 (ptrTo (256*(c+1)+1)) t15).bind fun h1 =>
 (Z03 (ptrTo (256*(c+1)+1)) 1).bind fun t16 =>
 (ld1 h1 t16).bind fun t17 =>
 (ldN h1 4 t4).bind fun t18 =>
 (Z2u o h1 (c+1+1+1) t17 [t18]).bind fun r2 =>
 Z0b r2.1
  ((Z03 (ptrTo (256*(c+1)+1)) 0).bind fun t20 =>
  (ld1 r2.2.1 t20).bind fun t21 =>
  some ⟨.ret,[t21,(.int .i64 0),t4,t12,t13],r2.2.1,(r2.2.2+1),df⟩)
  ((Z00 P .add 3 t13 (.int .i64 1)).bind fun t22 =>
  some ⟨.normal,[t2,t3,t4,t12,t22],r2.2.1,(r2.2.2+1),df⟩))
 (some ⟨(.exit 0),[t2,t3,t4,t12,t13],h,(c+1),df⟩)
theorem Z4y (o:Orc H) (rd:Option Nat) (t2 t3 t4 t12 t13:Value) (h:H) (c:Nat) (df:List Nat):jx P o 23 rd Z3i (Z0m [2,3,4,12,13] [t2,t3,t4,t12,t13]) h c df (Klp [2,3,4,12,13])=Z40 o rd t2 t3 t4 t12 t13 h c df:=by kernel_rfl
noncomputable def Zg4 (o:Orc H) (t0:Value) (h:H) (c:Nat):Option (Rt H) :=
 (bif (t0:Value).cells.toList.all Z06 then
 (ldN (newB h (256*c+0) (t0:Value).cells.toList) 1 (ptrTo (256*c+0))).bind fun t7 =>
 (callF o 38 [t7] (newB h (256*c+0) (t0:Value).cells.toList) (c+1+1)).bind fun r0 =>
 (Z00 P .neq 33 r0.1 (.int .i64 0)).bind fun t9 =>
 Z0b t9
 (some ⟨.ret,[.tuple #[(.int .i64 0),(.int .i64 7)]],r0.2.1,(r0.2.2+1),[]⟩)
 ((ldN r0.2.1 1 (ptrTo (256*c+0))).bind fun t10 =>
 (callF o 42 [t10] r0.2.1 (r0.2.2+1)).bind fun r1 =>
 (stN (newB r1.2.1 (256*r0.2.2+2) [(.bool false),(.bool false),(.bool false),(.bool false)]) 4 (ptrTo (256*r0.2.2+2)) r1.1).bind fun h3 =>
 (callF o 43 [] h3 (r1.2.2+1)).bind fun r4 =>
 (o (Z3Z none) [(.int .i64 0),(.int .i64 0),(ptrTo (256*r0.2.2+2)),r4.1,(.int .i64 0)] r4.2.1 r4.2.2 []).bind fun r5 =>
 cond (Z0w r5.e (.exit 0))
  ((Z09 r5.h r5.df).bind fun h7 =>
  some ⟨.ret,[.tuple #[(.int .i64 4),(.int .i64 0)]],h7,(r5.c+1),[]⟩)
  (cond (Z0w r5.e .ret)
   ((Z09 r5.h r5.df).bind fun h6 =>
   some ⟨.ret,[.tuple #[r5.v 0,r5.v 1]],h6,r5.c,[]⟩)
   (none)))
 else none)
theorem Zdm (o:Orc H) (t0:Value) (h:H) (c:Nat):jx P o 23 none f13_c (Z0m (List.range 1) [t0]) h c [] (Kfn P Try.f13.results.toList)=Zg4 o t0 h c:=by kernel_rfl
theorem f13_go {t0:Value} {h:FH} {c:Nat} {df:List Nat} {r:Rt FH} (e:Zg4 G t0 h c=some r):G (.fn 13) [t0] h c df=some (gcR h c [] r):=Z0n (a:=ZbG) bk_13 rfl (fun args h c=>by cases args <;> rfl) rfl ((Zdm G t0 h c).trans e)
noncomputable def Z6w (o:Orc H) (rd:Option Nat) (t1 t2 t3 t4 t5:Value) (h:H) (c:Nat) (df:List Nat):Option (Rt H) :=
 (Z00 P .lss 3 t5 (.int .i64 4)).bind fun t18 =>
 Z0b t18
 (((Z03 t1 0).bind fun t21 =>
  (ld1 h t21).bind fun t22 =>
  (ixS 20 t22 t4).bind fun t25 =>
  (ixA 4 5 t25 t5).bind fun t26 =>
  (ldN h 5 t26).bind fun t27 =>
  (stN (newB h (256*(c+1)+7) [(.int .i64 0),(.int .i64 0),(.int .i64 0),(.int .i64 0),(.int .i64 0)]) 5 (ptrTo (256*(c+1)+7)) t27).bind fun h1 =>
  (Z03 (ptrTo (256*(c+1)+7)) 0).bind fun t28 =>
  (ld1 h1 t28).bind fun t29 =>
  (Z00 P .eql 3 t29 (.int .i64 (-1))).bind fun t30 =>
  (gd t30 true h1 (c+1+1+1) (Z03 (ptrTo (256*(c+1)+7)) 1)).bind fun r2 =>
  (gd t30 true r2.2.1 r2.2.2 (ldN r2.2.1 4 r2.1)).bind fun r3 =>
  (gd t30 true r3.2.1 r3.2.2 (Z1d [(.int .i64 0),(.int .i64 0),(.int .i64 0),(.int .i64 0)] [])).bind fun r4 =>
  (gd t30 true r4.2.1 r4.2.2 (Z00 P .eql 42 r3.1 r4.1)).bind fun r5 =>
  (Z10 t30 r5.1 (.bool false)).bind fun t36 =>
  Z0b t36
   (some ⟨.normal,[t1,t2,t3,t4,t5],r5.2.1,r5.2.2,df⟩)
   ((Z03 (ptrTo (256*(c+1)+7)) 0).bind fun t37 =>
   (ld1 r5.2.1 t37).bind fun t38 =>
   (Z00 P .lss 3 t38 (.int .i64 0)).bind fun t39 =>
   (gd t39 false r5.2.1 (r5.2.2+1) (Z03 (ptrTo (256*(c+1)+7)) 0)).bind fun r6 =>
   (gd t39 false r6.2.1 r6.2.2 (ld1 r6.2.1 r6.1)).bind fun r7 =>
   (gd t39 false r7.2.1 r7.2.2 (some t3)).bind fun r8 =>
   (gd t39 false r8.2.1 r8.2.2 (Z00 P .geq 3 r7.1 r8.1)).bind fun r9 =>
   (Z10 t39 (.bool true) r9.1).bind fun t45 =>
   (gd t45 false r9.2.1 r9.2.2 (Z03 (ptrTo (256*(c+1)+7)) 1)).bind fun r10 =>
   (gd t45 false r10.2.1 r10.2.2 (ldN r10.2.1 4 r10.1)).bind fun r11 =>
   (gg t45 false r11.2.1 r11.2.2 (callF o 44 [r11.1] r11.2.1 r11.2.2)).bind fun r12 =>
   (gd t45 false r12.2.1 r12.2.2 (Z2w .not r12.1)).bind fun r13 =>
   (Z10 t45 (.bool true) r13.1).bind fun t51 =>
   (gd t51 false r13.2.1 r13.2.2 (Z03 (ptrTo (256*(c+1)+7)) 0)).bind fun r14 =>
   (gd t51 false r14.2.1 r14.2.2 (ld1 r14.2.1 r14.1)).bind fun r15 =>
   (gd t51 false r15.2.1 r15.2.2 (some t4)).bind fun r16 =>
   (gd t51 false r16.2.1 r16.2.2 (Z00 P .eql 3 r15.1 r16.1)).bind fun r17 =>
   (gd t51 false r17.2.1 r17.2.2 (some r17.1)).bind fun r18 =>
   (gd r18.1 true r18.2.1 r18.2.2 (some t5)).bind fun r19 =>
   (gd r18.1 true r19.2.1 r19.2.2 (Z03 (ptrTo (256*(c+1)+7)) 1)).bind fun r20 =>
   (gd r18.1 true r20.2.1 r20.2.2 (ixA 4 1 r20.1 r19.1)).bind fun r21 =>
   (gd r18.1 true r21.2.1 r21.2.2 (ld1 r21.2.1 r21.1)).bind fun r22 =>
   (gd r18.1 true r22.2.1 r22.2.2 (some t5)).bind fun r23 =>
   (gd r18.1 true r23.2.1 r23.2.2 (Z00 P .eql 3 r22.1 r23.1)).bind fun r24 =>
   (gg t51 false r24.2.1 r24.2.2 (ZdK r24.2.1 r24.2.2 r18.1 r24.1 (.bool false))).bind fun r25 =>
   (Z10 t51 (.bool true) r25.1).bind fun t65 =>
   Z0b t65
    (some ⟨.ret,[t1,(.int .i64 7),t3,t4,t5],r25.2.1,(r25.2.2+1),df⟩)
    ((Z03 t1 0).bind fun t66 =>
    (ld1 r25.2.1 t66).bind fun t67 =>
    (Z03 (ptrTo (256*(c+1)+7)) 0).bind fun t68 =>
    (ld1 r25.2.1 t68).bind fun t69 =>
    (Z03 (ptrTo (256*(c+1)+7)) 1).bind fun t71 =>
    (ixA 4 1 t71 t5).bind fun t72 =>
    (ld1 r25.2.1 t72).bind fun t73 =>
    (ixS 20 t67 t69).bind fun t74 =>
    (ixA 4 5 t74 t73).bind fun t75 =>
    (ldN r25.2.1 5 t75).bind fun t76 =>
    (Z03 (ptrTo (256*(c+1)+7)) 1).bind fun t78 =>
    (ldN r25.2.1 4 t78).bind fun t79 =>
    (callF o 45 [t79] r25.2.1 (r25.2.2+1)).bind fun r27 =>
    (Z1d [(.int .i64 0),(.int .i64 0),(.int .i64 0),(.int .i64 0),(.int .i64 0)] [(0,1,t4),(1,4,r27.1)]).bind fun t81 =>
    (Z00 P .neq 44 t76 t81).bind fun t82 =>
    (bif (Z1a (Z28 t66) r25.2.1 r27.2.1 && (Z1a (Z28 t68) r25.2.1 r27.2.1 && (Z1a (Z28 t72) r25.2.1 r27.2.1 && (Z1a (Z28 t75) r25.2.1 r27.2.1 && true)))) then
    Z0b t82
     (some ⟨.ret,[t1,(.int .i64 7),t3,t4,t5],r27.2.1,(r27.2.2+1),df⟩)
     (some ⟨.normal,[t1,t2,t3,t4,t5],r27.2.1,r27.2.2,df⟩)
    else none))):Option (Rt H)).bind fun r29 =>
 cond (Z0w r29.e .normal)
  ((Z00 P .add 3 (r29.v 4) (.int .i64 1)).bind fun t20 =>
  some ⟨.normal,[r29.v 0,r29.v 1,r29.v 2,r29.v 3,t20],r29.h,(r29.c+1),r29.df⟩)
  (cond (Z0w r29.e .ret)
   (some ⟨.ret,[r29.v 0,r29.v 1,r29.v 2,r29.v 3,r29.v 4],r29.h,r29.c,r29.df⟩)
   (none)))
 (some ⟨(.exit 2),[t1,t2,t3,t4,t5],h,(c+1),df⟩)
theorem Z9T (o:Orc H) (rd:Option Nat) (t1 t2 t3 t4 t5:Value) (h:H) (c:Nat) (df:List Nat):jx P o 83 rd Z3g (Z0m [1,2,3,4,5] [t1,t2,t3,t4,t5]) h c df (Klp [1,2,3,4,5])=Z6w o rd t1 t2 t3 t4 t5 h c df:=by kernel_rfl
noncomputable def Z6x (o:Orc H) (rd:Option Nat) (t1 t2 t3 t4:Value) (h:H) (c:Nat) (df:List Nat):Option (Rt H) :=
 (Z00 P .lss 3 t4 t3).bind fun t14 =>
 Z0b t14
 ((o (Zel rd) [t1,t2,t3,t4,(.int .i64 0)] h (c+1+1) df).bind fun r0 =>
 cond (Z0w r0.e (.exit 2))
  ((Z00 P .add 3 (r0.v 3) (.int .i64 1)).bind fun t16 =>
  some ⟨.normal,[r0.v 0,r0.v 1,r0.v 2,t16],r0.h,(r0.c+1),r0.df⟩)
  (cond (Z0w r0.e .ret)
   (some ⟨.ret,[r0.v 0,r0.v 1,r0.v 2,r0.v 3],r0.h,r0.c,r0.df⟩)
   (none)))
 (some ⟨(.exit 0),[t1,t2,t3,t4],h,(c+1),df⟩)
theorem Z9U (o:Orc H) (rd:Option Nat) (t1 t2 t3 t4:Value) (h:H) (c:Nat) (df:List Nat):jx P o 83 rd Z3h (Z0m [1,2,3,4] [t1,t2,t3,t4]) h c df (Klp [1,2,3,4])=Z6x o rd t1 t2 t3 t4 h c df:=by kernel_rfl
noncomputable def Zl2 (o:Orc H) (t0:Value) (h:H) (c:Nat):Option (Rt H) :=
 (bif (t0:Value).cells.toList.all Z06 then
 (Z03 (ptrTo (256*c+0)) 0).bind fun t7 =>
 (ld1 (newB h (256*c+0) (t0:Value).cells.toList) t7).bind fun t8 =>
 (Z4c t8).bind fun t9 =>
 (Z00 P .gtr 3 t9 (.int .i64 1000)).bind fun t11 =>
 Z0b t11
 (some ⟨.ret,[(.int .i64 7)],(newB h (256*c+0) (t0:Value).cells.toList),(c+1+1+1+1),[]⟩)
 ((o (Zem none) [(ptrTo (256*c+0)),(.int .i64 0),t9,(.int .i64 0)] (newB h (256*c+0) (t0:Value).cells.toList) (c+1+1+1+1) []).bind fun r0 =>
 cond (Z0w r0.e (.exit 0))
  ((Z09 r0.h r0.df).bind fun h2 =>
  some ⟨.ret,[(.int .i64 0)],h2,(r0.c+1),[]⟩)
  (cond (Z0w r0.e .ret)
   ((Z09 r0.h r0.df).bind fun h1 =>
   some ⟨.ret,[r0.v 1],h1,r0.c,[]⟩)
   (none)))
 else none)
theorem Zj1 (o:Orc H) (t0:Value) (h:H) (c:Nat):jx P o 83 none f14_c (Z0m (List.range 1) [t0]) h c [] (Kfn P Try.f14.results.toList)=Zl2 o t0 h c:=by kernel_rfl
noncomputable def Z6v (o:Orc H) (rd:Option Nat) (t0 t1 t4 t5:Value) (h:H) (c:Nat) (df:List Nat):Option (Rt H) :=
 (Z4c t0).bind fun t13 =>
 (Z00 P .lss 3 t5 t13).bind fun t14 =>
 Z0b t14
 ((ixS 1 t0 t5).bind fun t19 =>
 (ld1 h t19).bind fun t20 =>
 (ixS 1 t1 t5).bind fun t23 =>
 (ld1 h t23).bind fun t24 =>
 (Z00 P .neq 3 t20 t24).bind fun t25 =>
 Z0b t25
  (some ⟨.ret,[t0,t1,(.bool false),t5],h,(c+1+1+1),df⟩)
  ((Z00 P .add 3 t5 (.int .i64 1)).bind fun t16 =>
  some ⟨.normal,[t0,t1,t4,t16],h,(c+1+1+1),df⟩))
 (some ⟨(.exit 0),[t0,t1,t4,t5],h,(c+1),df⟩)
theorem Z9S (o:Orc H) (rd:Option Nat) (t0 t1 t4 t5:Value) (h:H) (c:Nat) (df:List Nat):jx P o 26 rd Z3f (Z0m [0,1,4,5] [t0,t1,t4,t5]) h c df (Klp [0,1,4,5])=Z6v o rd t0 t1 t4 t5 h c df:=by kernel_rfl
noncomputable def Zl1 (o:Orc H) (t0 t1:Value) (h:H) (c:Nat):Option (Rt H) :=
 (Z4c t0).bind fun t7 =>
 (Z4c t1).bind fun t9 =>
 (Z00 P .neq 3 t7 t9).bind fun t10 =>
 Z0b t10
 (some ⟨.ret,[(.bool false)],h,(c+1+1+1),[]⟩)
 ((o (Zej none) [t0,t1,(.bool false),(.int .i64 0)] h (c+1+1+1) []).bind fun r0 =>
 cond (Z0w r0.e (.exit 0))
  ((Z09 r0.h r0.df).bind fun h2 =>
  some ⟨.ret,[(.bool true)],h2,(r0.c+1),[]⟩)
  (cond (Z0w r0.e .ret)
   ((Z09 r0.h r0.df).bind fun h1 =>
   some ⟨.ret,[r0.v 2],h1,r0.c,[]⟩)
   (none)))
theorem Zj0 (o:Orc H) (t0 t1:Value) (h:H) (c:Nat):jx P o 26 none f16_c (Z0m (List.range 2) [t0,t1]) h c [] (Kfn P Try.f16.results.toList)=Zl1 o t0 t1 h c:=by kernel_rfl
noncomputable def Z3Y (o:Orc H) (rd:Option Nat) (t0 t1 t4 t7 t8:Value) (h:H) (c:Nat) (df:List Nat):Option (Rt H) :=
 (Z00 P .lss 3 t8 (.int .i64 6)).bind fun t9 =>
 Z0b t9
 ((ixV 6 true 2 t7 t8).bind fun t11 =>
 (stN (newB h (256*(c+1)+2) [(.int .i64 0),(.int .i64 0)]) 2 (ptrTo (256*(c+1)+2)) t11).bind fun h1 =>
 (ldN h1 2 (ptrTo (256*(c+1)+2))).bind fun t12 =>
 (Z1d [(.int .i64 0),(.int .i64 0)] [(0,1,t0),(1,1,t1)]).bind fun t15 =>
 (Z00 P .eql 106 t12 t15).bind fun t16 =>
 (gd t16 false h1 (c+1+1+1) (ldN h1 2 (ptrTo (256*(c+1)+2)))).bind fun r2 =>
 (gd t16 false r2.2.1 r2.2.2 (some t1)).bind fun r3 =>
 (gd t16 false r3.2.1 r3.2.2 (some t0)).bind fun r4 =>
 (gd t16 false r4.2.1 r4.2.2 (Z1d [(.int .i64 0),(.int .i64 0)] [(0,1,r3.1),(1,1,r4.1)])).bind fun r5 =>
 (gd t16 false r5.2.1 r5.2.2 (Z00 P .eql 106 r2.1 r5.1)).bind fun r6 =>
 (Z10 t16 (.bool true) r6.1).bind fun t23 =>
 Z0b t23
  (some ⟨.ret,[t0,t1,t8,t7,t8],r6.2.1,(r6.2.2+1),df⟩)
  ((Z00 P .add 3 t8 (.int .i64 1)).bind fun t25 =>
  some ⟨.normal,[t0,t1,t4,t7,t25],r6.2.1,(r6.2.2+1),df⟩))
 (some ⟨(.exit 0),[t0,t1,t4,t7,t8],h,(c+1),df⟩)
theorem Z4x (o:Orc H) (rd:Option Nat) (t0 t1 t4 t7 t8:Value) (h:H) (c:Nat) (df:List Nat):jx P o 26 rd Z3e (Z0m [0,1,4,7,8] [t0,t1,t4,t7,t8]) h c df (Klp [0,1,4,7,8])=Z3Y o rd t0 t1 t4 t7 t8 h c df:=by kernel_rfl
noncomputable def Zg3 (o:Orc H) (t0 t1:Value) (h:H) (c:Nat):Option (Rt H) :=
 (callF o 54 [] h (c+1+1)).bind fun r0 =>
 (o (Z97 none) [t0,t1,(.int .i64 0),r0.1,(.int .i64 0)] r0.2.1 r0.2.2 []).bind fun r1 =>
 cond (Z0w r1.e (.exit 0))
 ((Z09 r1.h r1.df).bind fun h3 =>
 some ⟨.ret,[(.int .i64 (-1))],h3,(r1.c+1),[]⟩)
 (cond (Z0w r1.e .ret)
  ((Z09 r1.h r1.df).bind fun h2 =>
  some ⟨.ret,[r1.v 2],h2,r1.c,[]⟩)
  (none))
theorem Zdl (o:Orc H) (t0 t1:Value) (h:H) (c:Nat):jx P o 26 none f27_c (Z0m (List.range 2) [t0,t1]) h c [] (Kfn P Try.f27.results.toList)=Zg3 o t0 t1 h c:=by kernel_rfl
theorem f27_go {t0 t1:Value} {h:FH} {c:Nat} {df:List Nat} {r:Rt FH} (e:Zg3 G t0 t1 h c=some r):G (.fn 27) [t0,t1] h c df=some (gcR h c [] r):=Z0n (a:=ZbF) bk_27 rfl (fun args h c=>by cases args <;> rfl) rfl ((Zdl G t0 t1 h c).trans e)

variable {H:Type} [HeapC H]
noncomputable def Z52 (o:Orc H) (l:Nat) (t37 t6 t7 t8 t9:Value) (h:H) (c:Nat):Option (Rt H) :=
 (stN (newB h (256*c+0) [(.int .i64 0),(.int .i64 0),(.int .i64 0),(.int .i64 0),(.int .i64 0)]) 5 (ptrTo (256*c+0)) t37).bind fun h1 =>
 (Z1L h1 l).bind fun h2 =>
 (ld1 h2 t6).bind fun t38 =>
 (Z4c t38).bind fun t39 =>
 (Z00 P .gtr 3 t39 (.int .i64 0)).bind fun t40 =>
 (gd t40 true h2 (c+1+1) (ldN h2 5 (ptrTo (256*c+0)))).bind fun r3 =>
 (gd t40 true r3.2.1 r3.2.2 (ldN r3.2.1 5 t9)).bind fun r4 =>
 (gd t40 true r4.2.1 r4.2.2 (Z00 P .eql 67 r3.1 r4.1)).bind fun r5 =>
 (Z10 t40 r5.1 (.bool false)).bind fun t45 =>
 Z0b t45
 ((ld1 r5.2.1 t6).bind fun t46 =>
 (stN r5.2.1 1 t6 t46).bind fun h7 =>
 (stN h7 1 t7 (.bool true)).bind fun h9 =>
 (stN h9 1 t8 (.int .i64 0)).bind fun h11 =>
 (Z0p h11 l .done (some .ret)).bind fun h12 =>
 cond (List.isEmpty ([]:List Nat)) (some ⟨.ret,[.bool false],h12,(r5.2.2+1),[]⟩) none)
 ((ld1 r5.2.1 t6).bind fun t47 =>
 (ldN r5.2.1 5 (ptrTo (256*c+0))).bind fun t48 =>
 (Z88 [(.int .i64 0),(.int .i64 0),(.int .i64 0),(.int .i64 0),(.int .i64 0)] [(0,5,t48)]).bind fun r13 =>
 (Z5l (newB r5.2.1 (256*r5.2.2+2) r13) (256*r5.2.2+3) 5 40 t47 (.slice (some ⟨(256*r5.2.2+2),0,none⟩) 1 1)).bind fun r14 =>
 (stN r14.2 1 t6 r14.1).bind fun h16 =>
 (Z0p h16 l .ready none).bind fun h17 =>
 cond (List.isEmpty ([]:List Nat)) (some ⟨.ret,[.bool true],h17,(r5.2.2+1),[]⟩) none)
theorem Z9Q (o:Orc H) (l:Nat) (t37 t6 t7 t8 t9:Value) (h:H) (c:Nat):jx P o 66 (some l) Z21 (Z0m ([37]++[6,7,8,9]) [t37,t6,t7,t8,t9]) h c [] (ZgP P o 66 l Z1Y)=Z52 o l t37 t6 t7 t8 t9 h c:=by kernel_rfl
noncomputable def Z51 (o:Orc H) (l:Nat) (t55 t11:Value) (h:H) (c:Nat):Option (Rt H) :=
 (stN (newB h (256*c+0) [(.int .i64 0),(.int .i64 0),(.int .i64 0),(.int .i64 0),(.int .i64 0)]) 5 (ptrTo (256*c+0)) t55).bind fun h1 =>
 (Z1L h1 l).bind fun h2 =>
 (ldN h2 5 (ptrTo (256*c+0))).bind fun t56 =>
 (stN h2 5 t11 t56).bind fun h4 =>
 (Z0p h4 l .ready none).bind fun h5 =>
 cond (List.isEmpty ([]:List Nat)) (some ⟨.ret,[.bool true],h5,(c+1+1),[]⟩) none
theorem Z9P (o:Orc H) (l:Nat) (t55 t11:Value) (h:H) (c:Nat):jx P o 66 (some l) Z20 (Z0m ([55]++[11]) [t55,t11]) h c [] (ZgP P o 66 l Z1X)=Z51 o l t55 t11 h c:=by kernel_rfl
noncomputable def Z50 (o:Orc H) (l:Nat) (t60 t6:Value) (h:H) (c:Nat):Option (Rt H) :=
 (stN (newB h (256*c+0) [(.int .i64 0),(.int .i64 0),(.int .i64 0),(.int .i64 0),(.int .i64 0)]) 5 (ptrTo (256*c+0)) t60).bind fun h1 =>
 (Z1L h1 l).bind fun h2 =>
 (ld1 h2 t6).bind fun t61 =>
 (ldN h2 5 (ptrTo (256*c+0))).bind fun t62 =>
 (Z88 [(.int .i64 0),(.int .i64 0),(.int .i64 0),(.int .i64 0),(.int .i64 0)] [(0,5,t62)]).bind fun r3 =>
 (Z5l (newB h2 (256*(c+1)+2) r3) (256*(c+1)+3) 5 40 t61 (.slice (some ⟨(256*(c+1)+2),0,none⟩) 1 1)).bind fun r4 =>
 (stN r4.2 1 t6 r4.1).bind fun h6 =>
 (Z0p h6 l .ready none).bind fun h7 =>
 cond (List.isEmpty ([]:List Nat)) (some ⟨.ret,[.bool true],h7,(c+1+1),[]⟩) none
theorem Z9O (o:Orc H) (l:Nat) (t60 t6:Value) (h:H) (c:Nat):jx P o 66 (some l) Z1Z (Z0m ([60]++[6]) [t60,t6]) h c [] (ZgP P o 66 l Z1W)=Z50 o l t60 t6 h c:=by kernel_rfl
noncomputable def Zl0 (o:Orc H) (t0 t1 t2:Value) (h:H) (c:Nat):Option (Rt H) :=
 (bif (t0:Value).cells.toList.all Z06 then
 (bif (t2:Value).cells.toList.all Z06 then
 (ldN (newB (newB (newB (newB (newB h (256*c+0) (t0:Value).cells.toList) (256*c+1) (t2:Value).cells.toList) (256*c+2) [(.slice none 0 0)]) (256*c+3) [(.bool false)]) (256*c+4) [(.int .i64 0)]) 1 (ptrTo (256*c+0))).bind fun t14 =>
 (callF o 38 [t14] (newB (newB (newB (newB (newB h (256*c+0) (t0:Value).cells.toList) (256*c+1) (t2:Value).cells.toList) (256*c+2) [(.slice none 0 0)]) (256*c+3) [(.bool false)]) (256*c+4) [(.int .i64 0)]) (c+1+1)).bind fun r0 =>
 (Z00 P .neq 33 r0.1 (.int .i64 0)).bind fun t16 =>
 Z0b t16
 ((stN r0.2.1 1 (ptrTo (256*c+2)) (.slice none 0 0)).bind fun h2 =>
 (stN h2 1 (ptrTo (256*c+3)) (.bool false)).bind fun h4 =>
 (stN h4 1 (ptrTo (256*c+4)) (.int .i64 7)).bind fun h6 =>
 (ld1 h6 (ptrTo (256*c+2))).bind fun v7 =>
 (ld1 h6 (ptrTo (256*c+3))).bind fun v8 =>
 (ld1 h6 (ptrTo (256*c+4))).bind fun v9 =>
 some ⟨.ret,[.tuple #[v7,v8,v9]],h6,(r0.2.2+1),[]⟩)
 ((Z00 P .lss 3 t1 (.int .i64 0)).bind fun t18 =>
 (gd t18 false r0.2.1 (r0.2.2+1) (some t1)).bind fun r10 =>
 (gd t18 false r10.2.1 r10.2.2 (Z03 (ptrTo (256*c+0)) 0)).bind fun r11 =>
 (gd t18 false r11.2.1 r11.2.2 (ld1 r11.2.1 r11.1)).bind fun r12 =>
 (gg t18 false r12.2.1 r12.2.2 (((Z4c r12.1).bind fun v=>some (v,r12.2.1)).bind fun r=>some (r.1,r.2,r12.2.2))).bind fun r13 =>
 (gd t18 false r13.2.1 r13.2.2 (Z00 P .geq 3 r10.1 r13.1)).bind fun r14 =>
 (Z10 t18 (.bool true) r14.1).bind fun t25 =>
 (gd t25 false r14.2.1 r14.2.2 (ldN r14.2.1 4 (ptrTo (256*c+1)))).bind fun r15 =>
 (gg t25 false r15.2.1 r15.2.2 (callF o 56 [r15.1] r15.2.1 r15.2.2)).bind fun r16 =>
 (gd t25 false r16.2.1 r16.2.2 (Z2w .not r16.1)).bind fun r17 =>
 (Z10 t25 (.bool true) r17.1).bind fun t30 =>
 Z0b t30
  ((stN r17.2.1 1 (ptrTo (256*c+2)) (.slice none 0 0)).bind fun h19 =>
  (stN h19 1 (ptrTo (256*c+3)) (.bool false)).bind fun h21 =>
  (stN h21 1 (ptrTo (256*c+4)) (.int .i64 1)).bind fun h23 =>
  (ld1 h23 (ptrTo (256*c+2))).bind fun v24 =>
  (ld1 h23 (ptrTo (256*c+3))).bind fun v25 =>
  (ld1 h23 (ptrTo (256*c+4))).bind fun v26 =>
  some ⟨.ret,[.tuple #[v24,v25,v26]],h23,(r17.2.2+1),[]⟩)
  ((ldN r17.2.1 4 (ptrTo (256*c+1))).bind fun t32 =>
  (Z1d [(.int .i64 0),(.int .i64 0),(.int .i64 0),(.int .i64 0),(.int .i64 0)] [(0,1,t1),(1,4,t32)]).bind fun t33 =>
  (stN (newB r17.2.1 (256*r17.2.2+3) [(.int .i64 0),(.int .i64 0),(.int .i64 0),(.int .i64 0),(.int .i64 0)]) 5 (ptrTo (256*r17.2.2+3)) t33).bind fun h28 =>
  (ldN h28 1 (ptrTo (256*c+0))).bind fun t34 =>
  (ldN h28 5 (ptrTo (256*r17.2.2+3))).bind fun t35 =>
  (callF o 57 [t34,t35,(.int .i64 2)] h28 (r17.2.2+1+1)).bind fun r29 =>
  (Z3o o 66 none [6,7,8,9] [] #[37] Z21 Z1Y r29.1 [(ptrTo (256*c+2)),(ptrTo (256*c+3)),(ptrTo (256*c+4)),(ptrTo (256*r17.2.2+3))] r29.2.1 r29.2.2 []).bind fun q30 =>
  cond (Z0w q30.1 .normal)
   ((ldN q30.2.1 5 (ptrTo (256*r17.2.2+3))).bind fun t51 =>
   (stN (newB q30.2.1 (256*q30.2.2.1+1) [(.int .i64 0),(.int .i64 0),(.int .i64 0),(.int .i64 0),(.int .i64 0)]) 5 (ptrTo (256*q30.2.2.1+1)) t51).bind fun h36 =>
   (ldN h36 1 (ptrTo (256*c+0))).bind fun t52 =>
   (ldN h36 5 (ptrTo (256*r17.2.2+3))).bind fun t53 =>
   (callF o 57 [t52,t53,(.int .i64 3)] h36 (q30.2.2.1+1+1)).bind fun r37 =>
   (Z3o o 66 none [11] [] #[55] Z20 Z1X r37.1 [(ptrTo (256*q30.2.2.1+1))] r37.2.1 r37.2.2 q30.2.2.2).bind fun q38 =>
   cond (Z0w q38.1 .normal)
    ((stN q38.2.1 1 (ptrTo (256*c+2)) (.slice none 0 0)).bind fun h40 =>
    (ldN h40 1 (ptrTo (256*c+0))).bind fun t57 =>
    (ldN h40 5 (ptrTo (256*q30.2.2.1+1))).bind fun t58 =>
    (callF o 57 [t57,t58,(.int .i64 2)] h40 (q38.2.2.1+1+1)).bind fun r41 =>
    (Z3o o 66 none [6] [] #[60] Z1Z Z1W r41.1 [(ptrTo (256*c+2))] r41.2.1 r41.2.2 q38.2.2.2).bind fun q42 =>
    cond (Z0w q42.1 .normal)
     ((ld1 q42.2.1 (ptrTo (256*c+2))).bind fun t65 =>
     (stN q42.2.1 1 (ptrTo (256*c+2)) t65).bind fun h44 =>
     (stN h44 1 (ptrTo (256*c+3)) (.bool false)).bind fun h46 =>
     (stN h46 1 (ptrTo (256*c+4)) (.int .i64 0)).bind fun h48 =>
     (Z09 h48 q42.2.2.2).bind fun h49 =>
     (ld1 h49 (ptrTo (256*c+2))).bind fun v50 =>
     (ld1 h49 (ptrTo (256*c+3))).bind fun v51 =>
     (ld1 h49 (ptrTo (256*c+4))).bind fun v52 =>
     some ⟨.ret,[.tuple #[v50,v51,v52]],h49,(q42.2.2.1+1),[]⟩)
     (none))
    (none))
   (cond (Z0w q30.1 .ret)
    ((Z09 q30.2.1 q30.2.2.2).bind fun h31 =>
    (ld1 h31 (ptrTo (256*c+2))).bind fun v32 =>
    (ld1 h31 (ptrTo (256*c+3))).bind fun v33 =>
    (ld1 h31 (ptrTo (256*c+4))).bind fun v34 =>
    some ⟨.ret,[.tuple #[v32,v33,v34]],h31,q30.2.2.1,[]⟩)
    (none))))
 else none)
 else none)
theorem ZiZ (o:Orc H) (t0 t1 t2:Value) (h:H) (c:Nat):jx P o 66 none f29_c (Z0m (List.range 3) [t0,t1,t2]) h c [] (Kfn P Try.f29.results.toList)=Zl0 o t0 t1 t2 h c:=by kernel_rfl
theorem f29_go {t0 t1 t2:Value} {h:FH} {c:Nat} {df:List Nat} {r:Rt FH} (e:Zl0 G t0 t1 t2 h c=some r):G (.fn 29) [t0,t1,t2] h c df=some r:=Z0n (a:=ZiY) bk_29 rfl (fun args h c=>by cases args <;> rfl) rfl ((ZiZ G t0 t1 t2 h c).trans e)
theorem Zei {t37 t6 t7 t8 t9:Value} {l:Nat} {h:FH} {c:Nat} {df:List Nat} {r:Rt FH} (e:Z52 G l t37 t6 t7 t8 t9 h c=some r):G (.rnd 66 [6,7,8,9] [] [37] l Z21 Z1Y) [t37,t6,t7,t8,t9] h c df=some r:=Z75 ((Z9Q G l t37 t6 t7 t8 t9 h c).trans e)
theorem Zeh {t55 t11:Value} {l:Nat} {h:FH} {c:Nat} {df:List Nat} {r:Rt FH} (e:Z51 G l t55 t11 h c=some r):G (.rnd 66 [11] [] [55] l Z20 Z1X) [t55,t11] h c df=some r:=Z75 ((Z9P G l t55 t11 h c).trans e)
theorem Zeg {t60 t6:Value} {l:Nat} {h:FH} {c:Nat} {df:List Nat} {r:Rt FH} (e:Z50 G l t60 t6 h c=some r):G (.rnd 66 [6] [] [60] l Z1Z Z1W) [t60,t6] h c df=some r:=Z75 ((Z9O G l t60 t6 h c).trans e)
noncomputable def Z6u (o:Orc H) (rd:Option Nat) (t9 t10 t40 t41 t42:Value) (h:H) (c:Nat) (df:List Nat):Option (Rt H) :=
 (Z00 P .lss 3 t42 t41).bind fun t43 =>
 Z0b t43
 ((ixS 2 t40 t42).bind fun t44 =>
 (ldN h 2 t44).bind fun t45 =>
 (stN (newB h (256*(c+1)+2) [(.int .i64 0),(.int .i64 0)]) 2 (ptrTo (256*(c+1)+2)) t45).bind fun h1 =>
 (ixA 2 1 (ptrTo (256*(c+1)+2)) (.int .i64 0)).bind fun t47 =>
 (ld1 h1 t47).bind fun t48 =>
 (ixA 2 1 (ptrTo (256*(c+1)+2)) (.int .i64 1)).bind fun t49 =>
 (ld1 h1 t49).bind fun t50 =>
 (ldN h1 2 (ptrTo (256*(c+1)+2))).bind fun t52 =>
 (callF o 61 [t9,t52] h1 (c+1+1+1)).bind fun r2 =>
 (Z1d [(.int .i64 0),(.int .i64 0),(.int .i64 0),(.int .i64 0),(.int .i64 0),(.int .i64 0)] [(0,1,t48),(1,1,t50),(2,4,r2.1)]).bind fun t54 =>
 (Z88 [(.int .i64 0),(.int .i64 0),(.int .i64 0),(.int .i64 0),(.int .i64 0),(.int .i64 0)] [(0,6,t54)]).bind fun r3 =>
 (Z5l (newB r2.2.1 (256*(c+1+1)+9) r3) (256*(c+1+1)+10) 6 48 t10 (.slice (some ⟨(256*(c+1+1)+9),0,none⟩) 1 1)).bind fun r4 =>
 (bif (Z1a (Z28 t47) h1 r2.2.1 && (Z1a (Z28 t49) h1 r2.2.1 && true)) then
 (Z00 P .add 3 t42 (.int .i64 1)).bind fun t57 =>
 some ⟨.normal,[t9,r4.1,t40,t41,t57],r4.2,(r2.2.2+1),df⟩
 else none))
 (some ⟨(.exit 0),[t9,t10,t40,t41,t42],h,(c+1),df⟩)
theorem Z5U (o:Orc H) (rd:Option Nat) (t9 t10 t40 t41 t42:Value) (h:H) (c:Nat) (df:List Nat):jx P o 59 rd Z6t (Z0m [9,10,40,41,42] [t9,t10,t40,t41,t42]) h c df (Klp [9,10,40,41,42])=Z6u o rd t9 t10 t40 t41 t42 h c df:=by kernel_rfl
noncomputable def ZkZ (o:Orc H) (t0 t1:Value) (h:H) (c:Nat):Option (Rt H) :=
 (bif (t0:Value).cells.toList.all Z06 then
 (ldN (newB h (256*c+0) (t0:Value).cells.toList) 1 (ptrTo (256*c+0))).bind fun t13 =>
 (callF o 38 [t13] (newB h (256*c+0) (t0:Value).cells.toList) (c+1+1)).bind fun r0 =>
 (Z00 P .neq 33 r0.1 (.int .i64 0)).bind fun t15 =>
 Z0b t15
 (some ⟨.ret,[.tuple #[(.slice none 0 0),(.int .i64 7)]],r0.2.1,(r0.2.2+1),[]⟩)
 ((ldN r0.2.1 1 (ptrTo (256*c+0))).bind fun t16 =>
 (callF o 40 [t16] r0.2.1 (r0.2.2+1)).bind fun r1 =>
 (Z0a r1.1).bind fun t20 =>
 (Z03 t20 1).bind fun t21 =>
 (Z03 t21 0).bind fun t22 =>
 (callF o 41 [t22] r1.2.1 (r1.2.2+1)).bind fun r2 =>
 (Z4z r2.1 0).bind fun t24 =>
 (Z4z r2.1 1).bind fun t25 =>
 (Z00 P .lss 3 t1 (.int .i64 0)).bind fun t27 =>
 (gd t27 false r2.2.1 (r2.2.2+1) (some t1)).bind fun r3 =>
 (gd t27 false r3.2.1 r3.2.2 (some t25)).bind fun r4 =>
 (gd t27 false r4.2.1 r4.2.2 (Z00 P .geq 3 r3.1 r4.1)).bind fun r5 =>
 (Z10 t27 (.bool true) r5.1).bind fun t32 =>
 Z0b t32
  (some ⟨.ret,[.tuple #[(.slice none 0 0),(.int .i64 3)]],r5.2.1,(r5.2.2+1),[]⟩)
  ((callF o 60 [r1.1,t24,t1] r5.2.1 (r5.2.2+1)).bind fun r6 =>
  (Z0a r6.1).bind fun t38 =>
  (Z03 t38 1).bind fun t39 =>
  (ld1 r6.2.1 t39).bind fun t40 =>
  (Z4c t40).bind fun t41 =>
  (o (Z96 none) [r6.1,(.slice none 0 0),t40,t41,(.int .i64 0)] r6.2.1 (r6.2.2+1+1) []).bind fun r7 =>
  cond (Z0w r7.e (.exit 0))
   ((Z09 r7.h r7.df).bind fun h8 =>
   some ⟨.ret,[.tuple #[r7.v 1,(.int .i64 0)]],h8,(r7.c+1),[]⟩)
   (none)))
 else none)
theorem ZiX (o:Orc H) (t0 t1:Value) (h:H) (c:Nat):jx P o 59 none f35_c (Z0m (List.range 2) [t0,t1]) h c [] (Kfn P Try.f35.results.toList)=ZkZ o t0 t1 h c:=by kernel_rfl
theorem f35_go {t0 t1:Value} {h:FH} {c:Nat} {df:List Nat} {r:Rt FH} (e:ZkZ G t0 t1 h c=some r):G (.fn 35) [t0,t1] h c df=some r:=Z0n (a:=ZiW) bk_35 rfl (fun args h c=>by cases args <;> rfl) rfl ((ZiX G t0 t1 h c).trans e)
noncomputable def Z6s (o:Orc H) (rd:Option Nat) (t2 t3 t4 t5:Value) (h:H) (c:Nat) (df:List Nat):Option (Rt H) :=
 (Z03 t2 0).bind fun t14 =>
 (ld1 h t14).bind fun t15 =>
 (Z4c t15).bind fun t16 =>
 (Z00 P .lss 3 t5 t16).bind fun t17 =>
 Z0b t17
 ((Z03 t2 0).bind fun t20 =>
 (ld1 h t20).bind fun t21 =>
 (ixS 20 t21 t5).bind fun t23 =>
 (ldN h 20 t23).bind fun t24 =>
 (Z03 t3 0).bind fun t25 =>
 (ld1 h t25).bind fun t26 =>
 (ixS 20 t26 t5).bind fun t28 =>
 (ldN h 20 t28).bind fun t29 =>
 (Z00 P .neq 45 t24 t29).bind fun t30 =>
 Z0b t30
  (some ⟨.ret,[t2,t3,(.bool false),t5],h,(c+1+1+1),df⟩)
  ((Z00 P .add 3 t5 (.int .i64 1)).bind fun t19 =>
  some ⟨.normal,[t2,t3,t4,t19],h,(c+1+1+1),df⟩))
 (some ⟨(.exit 0),[t2,t3,t4,t5],h,(c+1),df⟩)
theorem Z5T (o:Orc H) (rd:Option Nat) (t2 t3 t4 t5:Value) (h:H) (c:Nat) (df:List Nat):jx P o 31 rd Z6r (Z0m [2,3,4,5] [t2,t3,t4,t5]) h c df (Klp [2,3,4,5])=Z6s o rd t2 t3 t4 t5 h c df:=by kernel_rfl
noncomputable def ZkY (o:Orc H) (t0 t1:Value) (h:H) (c:Nat):Option (Rt H) :=
 (bif (t0:Value).cells.toList.all Z06 then
 (bif (t1:Value).cells.toList.all Z06 then
 (Z03 (ptrTo (256*c+0)) 0).bind fun t6 =>
 (ld1 (newB (newB h (256*c+0) (t0:Value).cells.toList) (256*c+1) (t1:Value).cells.toList) t6).bind fun t7 =>
 (Z4c t7).bind fun t8 =>
 (Z03 (ptrTo (256*c+1)) 0).bind fun t9 =>
 (ld1 (newB (newB h (256*c+0) (t0:Value).cells.toList) (256*c+1) (t1:Value).cells.toList) t9).bind fun t10 =>
 (Z4c t10).bind fun t11 =>
 (Z00 P .neq 3 t8 t11).bind fun t12 =>
 Z0b t12
 (some ⟨.ret,[(.bool false)],(newB (newB h (256*c+0) (t0:Value).cells.toList) (256*c+1) (t1:Value).cells.toList),(c+1+1+1),[]⟩)
 ((o (Z95 none) [(ptrTo (256*c+0)),(ptrTo (256*c+1)),(.bool false),(.int .i64 0)] (newB (newB h (256*c+0) (t0:Value).cells.toList) (256*c+1) (t1:Value).cells.toList) (c+1+1+1) []).bind fun r0 =>
 cond (Z0w r0.e (.exit 0))
  ((Z09 r0.h r0.df).bind fun h2 =>
  some ⟨.ret,[(.bool true)],h2,(r0.c+1),[]⟩)
  (cond (Z0w r0.e .ret)
   ((Z09 r0.h r0.df).bind fun h1 =>
   some ⟨.ret,[r0.v 2],h1,r0.c,[]⟩)
   (none)))
 else none)
 else none)
theorem ZiV (o:Orc H) (t0 t1:Value) (h:H) (c:Nat):jx P o 31 none f36_c (Z0m (List.range 2) [t0,t1]) h c [] (Kfn P Try.f36.results.toList)=ZkY o t0 t1 h c:=by kernel_rfl
theorem f36_go {t0 t1:Value} {h:FH} {c:Nat} {df:List Nat} {r:Rt FH} (e:ZkY G t0 t1 h c=some r):G (.fn 36) [t0,t1] h c df=some (gcR h c [] r):=Z0n (a:=ZiU) bk_36 rfl (fun args h c=>by cases args <;> rfl) rfl ((ZiV G t0 t1 h c).trans e)
noncomputable def ZkX (o:Orc H) (h:H) (c:Nat):Option (Rt H) :=
 (callF o 62 [(.string (ByteArray.mk #[49,32,48,32,49,48,50,51,32,48,32,49,48,50,51,32,48,32,48,49,51,50,32,48,32,48,49,51,50]))] (newB h (256*c+0) [(.slice none 0 0)]) (c+1+1)).bind fun r0 =>
 (Z4z r0.1 0).bind fun t5 =>
 (Z4z r0.1 1).bind fun t6 =>
 (stN (newB r0.2.1 (256*(c+1)+4) [(.slice none 0 0)]) 1 (ptrTo (256*(c+1)+4)) t5).bind fun h2 =>
 (ldN h2 1 (ptrTo (256*(c+1)+4))).bind fun t7 =>
 (stN h2 1 (ptrTo (256*c+0)) t7).bind fun h4 =>
 (ldN h4 1 (ptrTo (256*c+0))).bind fun v5 =>
 some ⟨.ret,[v5],h4,(r0.2.2+1),[]⟩
theorem ZiT (o:Orc H) (h:H) (c:Nat):jx P o 8 none f37_c (Z0m (List.range 0) []) h c [] (Kfn P Try.f37.results.toList)=ZkX o h c:=by kernel_rfl
noncomputable def Z3d (o:Orc H) (l:Nat) (t13 t14 t1 t2 t3:Value) (h:H) (c:Nat):Option (Rt H) :=
 (stN (newB h (256*c+0) [(.int .i64 0),(.int .i64 0)]) 2 (ptrTo (256*c+0)) t13).bind fun h1 =>
 (stN (newB h1 (256*(c+1)+0) [(.int .i64 0),(.int .i64 0),(.int .i64 0),(.int .i64 0),(.int .i64 0)]) 5 (ptrTo (256*(c+1)+0)) t14).bind fun h3 =>
 (Z1L h3 l).bind fun h4 =>
 ((ldN h4 5 (ptrTo (256*(c+1)+0))).bind fun t15 =>
 (ldN h4 5 t3).bind fun t16 =>
 (Z00 P .eql 44 t15 t16).bind fun t17 =>
 Z0b t17
  (some ⟨.normal,[],h4,(c+1+1+1),[]⟩)
  ((Z03 (ptrTo (256*(c+1)+0)) 0).bind fun t18 =>
  (ld1 h4 t18).bind fun t19 =>
  (Z00 P .lss 3 t19 (.int .i64 0)).bind fun t20 =>
  (gd t20 false h4 (c+1+1+1+1) (Z03 (ptrTo (256*(c+1)+0)) 0)).bind fun r5 =>
  (gd t20 false r5.2.1 r5.2.2 (ld1 r5.2.1 r5.1)).bind fun r6 =>
  (gd t20 false r6.2.1 r6.2.2 (Z03 t1 0)).bind fun r7 =>
  (gd t20 false r7.2.1 r7.2.2 (ld1 r7.2.1 r7.1)).bind fun r8 =>
  (gg t20 false r8.2.1 r8.2.2 (((Z4c r8.1).bind fun v=>some (v,r8.2.1)).bind fun r=>some (r.1,r.2,r8.2.2))).bind fun r9 =>
  (gd t20 false r9.2.1 r9.2.2 (Z00 P .geq 3 r6.1 r9.1)).bind fun r10 =>
  (Z10 t20 (.bool true) r10.1).bind fun t28 =>
  (gd t28 false r10.2.1 r10.2.2 (Z03 (ptrTo (256*(c+1)+0)) 1)).bind fun r11 =>
  (gd t28 false r11.2.1 r11.2.2 (ldN r11.2.1 4 r11.1)).bind fun r12 =>
  (gg t28 false r12.2.1 r12.2.2 (callF o 56 [r12.1] r12.2.1 r12.2.2)).bind fun r13 =>
  (gd t28 false r13.2.1 r13.2.2 (Z2w .not r13.1)).bind fun r14 =>
  (Z10 t28 (.bool true) r14.1).bind fun t34 =>
  (gd t34 false r14.2.1 r14.2.2 (Z03 (ptrTo (256*(c+1)+0)) 0)).bind fun r15 =>
  (gd t34 false r15.2.1 r15.2.2 (ld1 r15.2.1 r15.1)).bind fun r16 =>
  (gd t34 false r16.2.1 r16.2.2 (Z03 (ptrTo (256*c+0)) 0)).bind fun r17 =>
  (gd t34 false r17.2.1 r17.2.2 (ld1 r17.2.1 r17.1)).bind fun r18 =>
  (gd t34 false r18.2.1 r18.2.2 (Z00 P .eql 3 r16.1 r18.1)).bind fun r19 =>
  (gd t34 false r19.2.1 r19.2.2 (some r19.1)).bind fun r20 =>
  (gd r20.1 true r20.2.1 r20.2.2 (Z03 (ptrTo (256*c+0)) 1)).bind fun r21 =>
  (gd r20.1 true r21.2.1 r21.2.2 (ld1 r21.2.1 r21.1)).bind fun r22 =>
  (gd r20.1 true r22.2.1 r22.2.2 (Z03 (ptrTo (256*(c+1)+0)) 1)).bind fun r23 =>
  (gd r20.1 true r23.2.1 r23.2.2 (ixA 4 1 r23.1 r22.1)).bind fun r24 =>
  (gd r20.1 true r24.2.1 r24.2.2 (ld1 r24.2.1 r24.1)).bind fun r25 =>
  (gd r20.1 true r25.2.1 r25.2.2 (Z03 (ptrTo (256*c+0)) 1)).bind fun r26 =>
  (gd r20.1 true r26.2.1 r26.2.2 (ld1 r26.2.1 r26.1)).bind fun r27 =>
  (gd r20.1 true r27.2.1 r27.2.2 (Z00 P .eql 3 r25.1 r27.1)).bind fun r28 =>
  (gg t34 false r28.2.1 r28.2.2 (ZdK r28.2.1 r28.2.2 r20.1 r28.1 (.bool false))).bind fun r29 =>
  (Z10 t34 (.bool true) r29.1).bind fun t51 =>
  Z0b t51
   ((stN r29.2.1 1 t2 (.int .i64 7)).bind fun h31 =>
   some ⟨.ret,[],h31,(r29.2.2+1),[]⟩)
   ((Z03 t1 0).bind fun t52 =>
   (ld1 r29.2.1 t52).bind fun t53 =>
   (Z03 (ptrTo (256*(c+1)+0)) 0).bind fun t54 =>
   (ld1 r29.2.1 t54).bind fun t55 =>
   (Z03 (ptrTo (256*c+0)) 1).bind fun t56 =>
   (ld1 r29.2.1 t56).bind fun t57 =>
   (Z03 (ptrTo (256*(c+1)+0)) 1).bind fun t58 =>
   (ixA 4 1 t58 t57).bind fun t59 =>
   (ld1 r29.2.1 t59).bind fun t60 =>
   (ixS 20 t53 t55).bind fun t61 =>
   (ixA 4 5 t61 t60).bind fun t62 =>
   (ldN r29.2.1 5 t62).bind fun t63 =>
   (Z03 (ptrTo (256*c+0)) 0).bind fun t64 =>
   (ld1 r29.2.1 t64).bind fun t65 =>
   (Z03 (ptrTo (256*(c+1)+0)) 1).bind fun t66 =>
   (ldN r29.2.1 4 t66).bind fun t67 =>
   (callF o 64 [t67] r29.2.1 (r29.2.2+1)).bind fun r32 =>
   (Z1d [(.int .i64 0),(.int .i64 0),(.int .i64 0),(.int .i64 0),(.int .i64 0)] [(0,1,t65),(1,4,r32.1)]).bind fun t69 =>
   (Z00 P .neq 44 t63 t69).bind fun t70 =>
   (bif (Z1a (Z28 t52) r29.2.1 r32.2.1 && (Z1a (Z28 t54) r29.2.1 r32.2.1 && (Z1a (Z28 t56) r29.2.1 r32.2.1 && (Z1a (Z28 t59) r29.2.1 r32.2.1 && (Z1a (Z28 t62) r29.2.1 r32.2.1 && (Z1a (Z28 t64) r29.2.1 r32.2.1 && true)))))) then
   Z0b t70
    ((stN r32.2.1 1 t2 (.int .i64 7)).bind fun h34 =>
    some ⟨.ret,[],h34,(r32.2.2+1),[]⟩)
    (some ⟨.normal,[],r32.2.1,r32.2.2,[]⟩)
   else none))):Option (Rt H)).bind fun r35 =>
 cond (Z0w r35.e .normal)
 ((Z0p r35.h l .ready none).bind fun h37 =>
 cond (List.isEmpty (r35.df:List Nat)) (some ⟨.ret,[.bool true],h37,r35.c,[]⟩) none)
 (cond (Z0w r35.e .ret)
  ((Z0p r35.h l .done (some .ret)).bind fun h36 =>
  cond (List.isEmpty (r35.df:List Nat)) (some ⟨.ret,[.bool false],h36,r35.c,[]⟩) none)
  (none))
theorem Z5S (o:Orc H) (l:Nat) (t13 t14 t1 t2 t3:Value) (h:H) (c:Nat):jx P o 71 (some l) Z1g (Z0m ([13,14]++[1,2,3]) [t13,t14,t1,t2,t3]) h c [] (ZgP P o 71 l Z1f)=Z3d o l t13 t14 t1 t2 t3 h c:=by kernel_rfl
noncomputable def Zg2 (o:Orc H) (t0:Value) (h:H) (c:Nat):Option (Rt H) :=
 (bif (t0:Value).cells.toList.all Z06 then
 (Z03 (ptrTo (256*c+0)) 0).bind fun t6 =>
 (ld1 (newB (newB h (256*c+0) (t0:Value).cells.toList) (256*c+1) [(.int .i64 0)]) t6).bind fun t7 =>
 (Z4c t7).bind fun t8 =>
 (Z00 P .gtr 3 t8 (.int .i64 1000)).bind fun t9 =>
 Z0b t9
 ((stN (newB (newB h (256*c+0) (t0:Value).cells.toList) (256*c+1) [(.int .i64 0)]) 1 (ptrTo (256*c+1)) (.int .i64 7)).bind fun h1 =>
 (ld1 h1 (ptrTo (256*c+1))).bind fun v2 =>
 some ⟨.ret,[v2],h1,(c+1+1+1),[]⟩)
 ((Z1d [(.int .i64 0),(.int .i64 0),(.int .i64 0),(.int .i64 0),(.int .i64 0)] [(0,1,(.int .i64 (-1)))]).bind fun t10 =>
 (stN (newB (newB (newB h (256*c+0) (t0:Value).cells.toList) (256*c+1) [(.int .i64 0)]) (256*(c+1+1)+1) [(.int .i64 0),(.int .i64 0),(.int .i64 0),(.int .i64 0),(.int .i64 0)]) 5 (ptrTo (256*(c+1+1)+1)) t10).bind fun h4 =>
 (ldN h4 1 (ptrTo (256*c+0))).bind fun t11 =>
 (callF o 63 [t11] h4 (c+1+1+1+1)).bind fun r5 =>
 (Z3o o 71 none [1,2,3] [] #[13,14] Z1g Z1f r5.1 [(ptrTo (256*c+0)),(ptrTo (256*c+1)),(ptrTo (256*(c+1+1)+1))] r5.2.1 r5.2.2 []).bind fun q6 =>
 cond (Z0w q6.1 .normal)
  ((stN q6.2.1 1 (ptrTo (256*c+1)) (.int .i64 0)).bind fun h10 =>
  (Z09 h10 q6.2.2.2).bind fun h11 =>
  (ld1 h11 (ptrTo (256*c+1))).bind fun v12 =>
  some ⟨.ret,[v12],h11,(q6.2.2.1+1),[]⟩)
  (cond (Z0w q6.1 .ret)
   ((Z09 q6.2.1 q6.2.2.2).bind fun h7 =>
   (ld1 h7 (ptrTo (256*c+1))).bind fun v8 =>
   some ⟨.ret,[v8],h7,q6.2.2.1,[]⟩)
   (none)))
 else none)
theorem Zdk (o:Orc H) (t0:Value) (h:H) (c:Nat):jx P o 71 none f38_c (Z0m (List.range 1) [t0]) h c [] (Kfn P Try.f38.results.toList)=Zg2 o t0 h c:=by kernel_rfl
theorem f38_go {t0:Value} {h:FH} {c:Nat} {df:List Nat} {r:Rt FH} (e:Zg2 G t0 h c=some r):G (.fn 38) [t0] h c df=some (gcR h c [] r):=Z0n (a:=ZbE) bk_38 rfl (fun args h c=>by cases args <;> rfl) rfl ((Zdk G t0 h c).trans e)
theorem Zee {t13 t14 t1 t2 t3:Value} {l:Nat} {h:FH} {c:Nat} {df:List Nat} {r:Rt FH} (e:Z3d G l t13 t14 t1 t2 t3 h c=some r):G (.rnd 71 [1,2,3] [] [13,14] l Z1g Z1f) [t13,t14,t1,t2,t3] h c df=some r:=Z75 ((Z5S G l t13 t14 t1 t2 t3 h c).trans e)

variable {H:Type} [HeapC H]
noncomputable def Z3c (o:Orc H) (rd:Option Nat) (t2 t3 t4 t5 t6 t8 t10 t12 t13 t59 t60 t105 t106:Value) (h:H) (c:Nat) (df:List Nat):Option (Rt H) :=
 (Z00 P .lss 3 t106 (.int .i64 6)).bind fun t107 =>
 Z0b t107
 ((ixV 6 true 2 t105 t106).bind fun t109 =>
 (stN (newB h (256*(c+1)+2) [(.int .i64 0),(.int .i64 0)]) 2 (ptrTo (256*(c+1)+2)) t109).bind fun h1 =>
 (Z00 P .mul 3 (.int .i64 6) t13).bind fun t112 =>
 (Z00 P .add 3 t112 t106).bind fun t114 =>
 (ixS 1 t8 t114).bind fun t115 =>
 (ld1 h1 t115).bind fun t116 =>
 (Z03 t12 3).bind fun t117 =>
 (ld1 h1 t117).bind fun t118 =>
 (ixS 1 t118 t116).bind fun t120 =>
 (ld1 h1 t120).bind fun t121 =>
 (Z00 P .add 3 t121 (.int .i64 1)).bind fun t122 =>
 (ixS 1 t118 t116).bind fun t123 =>
 (stN h1 1 t123 t122).bind fun h3 =>
 (Z00 P .mul 3 (.int .i64 16) t13).bind fun t126 =>
 (ixA 2 1 (ptrTo (256*(c+1)+2)) (.int .i64 0)).bind fun t127 =>
 (ld1 h3 t127).bind fun t128 =>
 (Z00 P .mul 3 (.int .i64 4) t128).bind fun t129 =>
 (Z00 P .add 3 t126 t129).bind fun t130 =>
 (ixA 2 1 (ptrTo (256*(c+1)+2)) (.int .i64 1)).bind fun t131 =>
 (ld1 h3 t131).bind fun t132 =>
 (Z00 P .add 3 t130 t132).bind fun t133 =>
 (ixS 1 t6 t133).bind fun t134 =>
 (ld1 h3 t134).bind fun t135 =>
 (Z00 P .mul 3 (.int .i64 16) t13).bind fun t138 =>
 (ixA 2 1 (ptrTo (256*(c+1)+2)) (.int .i64 1)).bind fun t139 =>
 (ld1 h3 t139).bind fun t140 =>
 (Z00 P .mul 3 (.int .i64 4) t140).bind fun t141 =>
 (Z00 P .add 3 t138 t141).bind fun t142 =>
 (ixA 2 1 (ptrTo (256*(c+1)+2)) (.int .i64 0)).bind fun t143 =>
 (ld1 h3 t143).bind fun t144 =>
 (Z00 P .add 3 t142 t144).bind fun t145 =>
 (ixS 1 t6 t145).bind fun t146 =>
 (ld1 h3 t146).bind fun t147 =>
 (Z00 P .eql 3 t135 t147).bind fun t148 =>
 (Z0b t148
  ((Z03 t12 4).bind fun t149 =>
  (ld1 h3 t149).bind fun t150 =>
  (ixS 1 t150 t116).bind fun t152 =>
  (stN h3 1 t152 (.bool true)).bind fun h5 =>
  some ⟨.normal,[t2,t3,t4,t5,t6,t8,t10,t12,t13,t59,t60,t105,t106],h5,(c+1+1+1+1+1+1),df⟩)
  (some ⟨.normal,[t2,t3,t4,t5,t6,t8,t10,t12,t13,t59,t60,t105,t106],h3,(c+1+1+1+1+1),df⟩):Option (Rt H)).bind fun r6 =>
 cond (Z0w r6.e .normal)
  ((Z00 P .add 3 (r6.v 12) (.int .i64 1)).bind fun t153 =>
  some ⟨.normal,[r6.v 0,r6.v 1,r6.v 2,r6.v 3,r6.v 4,r6.v 5,r6.v 6,r6.v 7,r6.v 8,r6.v 9,r6.v 10,r6.v 11,t153],r6.h,(r6.c+1),r6.df⟩)
  (none))
 (some ⟨(.exit 2),[t2,t3,t4,t5,t6,t8,t10,t12,t13,t59,t60,t105,t106],h,(c+1),df⟩)
theorem Z2s (o:Orc H) (rd:Option Nat) (t2 t3 t4 t5 t6 t8 t10 t12 t13 t59 t60 t105 t106:Value) (h:H) (c:Nat) (df:List Nat):jx P o 172 rd Z3a (Z0m [2,3,4,5,6,8,10,12,13,59,60,105,106] [t2,t3,t4,t5,t6,t8,t10,t12,t13,t59,t60,t105,t106]) h c df (Klp [2,3,4,5,6,8,10,12,13,59,60,105,106])=Z3c o rd t2 t3 t4 t5 t6 t8 t10 t12 t13 t59 t60 t105 t106 h c df:=by kernel_rfl
noncomputable def Z3X (o:Orc H) (rd:Option Nat) (t2 t3 t4 t5 t6 t8 t10 t12 t59 t60:Value) (h:H) (c:Nat) (df:List Nat):Option (Rt H) :=
 (Z00 P .lss 3 t60 t59).bind fun t61 =>
 Z0b t61
 ((Z03 t12 0).bind fun t63 =>
 (ld1 h t63).bind fun t64 =>
 (Z00 P .mul 3 (.int .i64 4) t60).bind fun t67 =>
 (Z00 P .mul 3 (.int .i64 4) t60).bind fun t69 =>
 (Z00 P .add 3 t69 (.int .i64 4)).bind fun t70 =>
 (slS h 1 t4 (some t67) (some t70) none).bind fun t71 =>
 (Z4D P 41 t71).bind fun t72 =>
 (ldN h 4 t72).bind fun t73 =>
 (Z88 [(.int .i64 0),(.int .i64 0),(.int .i64 0),(.int .i64 0)] [(0,4,t73)]).bind fun r0 =>
 (Z5l (newB h (256*(c+1+1)+11) r0) (256*(c+1+1)+12) 4 32 t64 (.slice (some ⟨(256*(c+1+1)+11),0,none⟩) 1 1)).bind fun r1 =>
 (Z03 t12 0).bind fun t76 =>
 (stN r1.2 1 t76 r1.1).bind fun h3 =>
 (Z03 t12 1).bind fun t77 =>
 (ld1 h3 t77).bind fun t78 =>
 (Z00 P .mul 3 (.int .i64 6) t60).bind fun t81 =>
 (Z00 P .mul 3 (.int .i64 6) t60).bind fun t83 =>
 (Z00 P .add 3 t83 (.int .i64 6)).bind fun t84 =>
 (slS h3 1 t8 (some t81) (some t84) none).bind fun t85 =>
 (Z4D P 64 t85).bind fun t86 =>
 (ldN h3 6 t86).bind fun t87 =>
 (Z88 [(.int .i64 0),(.int .i64 0),(.int .i64 0),(.int .i64 0),(.int .i64 0),(.int .i64 0)] [(0,6,t87)]).bind fun r4 =>
 (Z5l (newB h3 (256*(c+1+1+1)+11) r4) (256*(c+1+1+1)+12) 6 48 t78 (.slice (some ⟨(256*(c+1+1+1)+11),0,none⟩) 1 1)).bind fun r5 =>
 (Z03 t12 1).bind fun t90 =>
 (stN r5.2 1 t90 r5.1).bind fun h7 =>
 (Z03 t12 2).bind fun t91 =>
 (ld1 h7 t91).bind fun t92 =>
 (Z00 P .mul 3 (.int .i64 4) t60).bind fun t95 =>
 (Z00 P .mul 3 (.int .i64 4) t60).bind fun t97 =>
 (Z00 P .add 3 t97 (.int .i64 4)).bind fun t98 =>
 (slS h7 1 t10 (some t95) (some t98) none).bind fun t99 =>
 (Z4D P 41 t99).bind fun t100 =>
 (ldN h7 4 t100).bind fun t101 =>
 (Z88 [(.int .i64 0),(.int .i64 0),(.int .i64 0),(.int .i64 0)] [(0,4,t101)]).bind fun r8 =>
 (Z5l (newB h7 (256*(c+1+1+1+1)+11) r8) (256*(c+1+1+1+1)+12) 4 32 t92 (.slice (some ⟨(256*(c+1+1+1+1)+11),0,none⟩) 1 1)).bind fun r9 =>
 (Z03 t12 2).bind fun t104 =>
 (stN r9.2 1 t104 r9.1).bind fun h11 =>
 (callF o 54 [] h11 (c+1+1+1+1+1+1)).bind fun r12 =>
 (o (Z93 rd) [t2,t3,t4,t5,t6,t8,t10,t12,t60,t59,t60,r12.1,(.int .i64 0)] r12.2.1 r12.2.2 df).bind fun r13 =>
 cond (Z0w r13.e (.exit 2))
  ((Z00 P .add 3 (r13.v 10) (.int .i64 1)).bind fun t154 =>
  some ⟨.normal,[r13.v 0,r13.v 1,r13.v 2,r13.v 3,r13.v 4,r13.v 5,r13.v 6,r13.v 7,r13.v 9,t154],r13.h,(r13.c+1),r13.df⟩)
  (none))
 (some ⟨(.exit 0),[t2,t3,t4,t5,t6,t8,t10,t12,t59,t60],h,(c+1),df⟩)
theorem Z4w (o:Orc H) (rd:Option Nat) (t2 t3 t4 t5 t6 t8 t10 t12 t59 t60:Value) (h:H) (c:Nat) (df:List Nat):jx P o 172 rd Z3b (Z0m [2,3,4,5,6,8,10,12,59,60] [t2,t3,t4,t5,t6,t8,t10,t12,t59,t60]) h c df (Klp [2,3,4,5,6,8,10,12,59,60])=Z3X o rd t2 t3 t4 t5 t6 t8 t10 t12 t59 t60 h c df:=by kernel_rfl
noncomputable def Z3W (o:Orc H) (rd:Option Nat) (t2 t3 t4 t6 t12 t155 t156:Value) (h:H) (c:Nat) (df:List Nat):Option (Rt H) :=
 (Z00 P .lss 3 t156 t155).bind fun t157 =>
 Z0b t157
 ((Z03 t12 5).bind fun t159 =>
 (ld1 h t159).bind fun t160 =>
 (callF o 60 [t3,t4,t156] h (c+1+1+1)).bind fun r0 =>
 (callF o 65 [r0.1,t6] r0.2.1 r0.2.2).bind fun r1 =>
 (Z88 [(.int .i64 0),(.int .i64 0),(.int .i64 0),(.int .i64 0),(.bool false),(.bool false)] [(0,6,r1.1)]).bind fun r2 =>
 (Z5l (newB r1.2.1 (256*(c+1+1)+8) r2) (256*(c+1+1)+9) 6 40 t160 (.slice (some ⟨(256*(c+1+1)+8),0,none⟩) 1 1)).bind fun r3 =>
 (Z03 t12 5).bind fun t169 =>
 (stN r3.2 1 t169 r3.1).bind fun h5 =>
 (bif (Z1a (Z28 t159) h r0.2.1 && (Z1a (Z28 t159) r0.2.1 r1.2.1 && true)) then
 (Z00 P .add 3 t156 (.int .i64 1)).bind fun t170 =>
 some ⟨.normal,[t2,t3,t4,t6,t12,t155,t170],h5,(r1.2.2+1),df⟩
 else none))
 (some ⟨(.exit 4),[t2,t3,t4,t6,t12,t155,t156],h,(c+1),df⟩)
theorem Z4v (o:Orc H) (rd:Option Nat) (t2 t3 t4 t6 t12 t155 t156:Value) (h:H) (c:Nat) (df:List Nat):jx P o 172 rd Z39 (Z0m [2,3,4,6,12,155,156] [t2,t3,t4,t6,t12,t155,t156]) h c df (Klp [2,3,4,6,12,155,156])=Z3W o rd t2 t3 t4 t6 t12 t155 t156 h c df:=by kernel_rfl
noncomputable def Zg1 (o:Orc H) (t0:Value) (h:H) (c:Nat):Option (Rt H) :=
 (bif (t0:Value).cells.toList.all Z06 then
 (ldN (newB (newB h (256*c+0) (t0:Value).cells.toList) (256*c+1) [(.slice none 0 0),(.slice none 0 0),(.slice none 0 0),(.slice none 0 0),(.slice none 0 0),(.slice none 0 0)]) 1 (ptrTo (256*c+0))).bind fun t18 =>
 (callF o 40 [t18] (newB (newB h (256*c+0) (t0:Value).cells.toList) (256*c+1) [(.slice none 0 0),(.slice none 0 0),(.slice none 0 0),(.slice none 0 0),(.slice none 0 0),(.slice none 0 0)]) (c+1+1)).bind fun r0 =>
 (Z0a r0.1).bind fun t22 =>
 (Z03 t22 1).bind fun t23 =>
 (Z03 t23 0).bind fun t24 =>
 (callF o 41 [t24] r0.2.1 (r0.2.2+1)).bind fun r1 =>
 (Z4z r1.1 0).bind fun t26 =>
 (Z4z r1.1 1).bind fun t27 =>
 (Z0a r0.1).bind fun t30 =>
 (Z03 t30 2).bind fun t31 =>
 (Z03 t31 0).bind fun t32 =>
 (callF o 41 [t32] r1.2.1 (r1.2.2+1)).bind fun r2 =>
 (Z4z r2.1 0).bind fun t34 =>
 (Z4z r2.1 1).bind fun t35 =>
 (Z0a r0.1).bind fun t38 =>
 (Z03 t38 3).bind fun t39 =>
 (Z03 t39 0).bind fun t40 =>
 (callF o 41 [t40] r2.2.1 (r2.2.2+1)).bind fun r3 =>
 (Z4z r3.1 0).bind fun t42 =>
 (Z4z r3.1 1).bind fun t43 =>
 (Z0a r0.1).bind fun t46 =>
 (Z03 t46 4).bind fun t47 =>
 (Z03 t47 0).bind fun t48 =>
 (callF o 41 [t48] r3.2.1 (r3.2.2+1)).bind fun r4 =>
 (Z4z r4.1 0).bind fun t50 =>
 (Z4z r4.1 1).bind fun t51 =>
 (mkS 1 8 [(.int .i64 0)] t43 t43).bind fun r5 =>
 (mkS 1 1 [(.bool false)] t43 t43).bind fun r6 =>
 (Z1d [(.slice none 0 0),(.slice none 0 0),(.slice none 0 0),(.slice none 0 0),(.slice none 0 0),(.slice none 0 0)] [(3,1,(.slice (some ⟨(256*r4.2.2+1),0,none⟩) r5.2.1 r5.2.2)),(4,1,(.slice (some ⟨(256*r4.2.2+3),0,none⟩) r6.2.1 r6.2.2))]).bind fun t56 =>
 (stN (newB (newB (newB r4.2.1 (256*r4.2.2+1) r5.1) (256*r4.2.2+3) r6.1) (256*r4.2.2+5) [(.slice none 0 0),(.slice none 0 0),(.slice none 0 0),(.slice none 0 0),(.slice none 0 0),(.slice none 0 0)]) 6 (ptrTo (256*r4.2.2+5)) t56).bind fun h8 =>
 (Z03 (ptrTo (256*c+0)) 0).bind fun t57 =>
 (ld1 h8 t57).bind fun t58 =>
 (Z4c t58).bind fun t59 =>
 (o (Z94 none) [(ptrTo (256*c+1)),r0.1,t26,t27,t34,t42,t50,(ptrTo (256*r4.2.2+5)),t59,(.int .i64 0)] h8 (r4.2.2+1+1) []).bind fun r9 =>
 cond (Z0w r9.e (.exit 0))
 ((o (Z92 none) [r9.v 0,r9.v 1,r9.v 2,r9.v 4,r9.v 7,r9.v 3,(.int .i64 0)] r9.h (r9.c+1) r9.df).bind fun r10 =>
 cond (Z0w r10.e (.exit 4))
  ((ldN r10.h 6 (r10.v 4)).bind fun t171 =>
  (stN r10.h 6 (r10.v 0) t171).bind fun h12 =>
  (Z09 h12 r10.df).bind fun h13 =>
  (ldN h13 6 (r10.v 0)).bind fun v14 =>
  some ⟨.ret,[v14],h13,(r10.c+1),[]⟩)
  (none))
 (none)
 else none)
theorem Zdj (o:Orc H) (t0:Value) (h:H) (c:Nat):jx P o 172 none f39_c (Z0m (List.range 1) [t0]) h c [] (Kfn P Try.f39.results.toList)=Zg1 o t0 h c:=by kernel_rfl
theorem f39_go {t0:Value} {h:FH} {c:Nat} {df:List Nat} {r:Rt FH} (e:Zg1 G t0 h c=some r):G (.fn 39) [t0] h c df=some r:=Z0n (a:=ZbD) bk_39 rfl (fun args h c=>by cases args <;> rfl) rfl ((Zdj G t0 h c).trans e)
noncomputable def Z36 (o:Orc H) (rd:Option Nat) (t4 t5 t7 t8 t9 t10 t35 t36 t37 t42 t43 t68 t90:Value) (h:H) (c:Nat) (df:List Nat):Option (Rt H) :=
 (Z00 P .lss 3 t90 (.int .i64 4)).bind fun t91 =>
 Z0b t91
 ((Z00 P .neq 3 t90 t7).bind fun t95 =>
 (gd t95 true h (c+1+1+1) (some t90)).bind fun r0 =>
 (gd t95 true r0.2.1 r0.2.2 (some t10)).bind fun r1 =>
 (gd t95 true r1.2.1 r1.2.2 (Z00 P .neq 3 r0.1 r1.1)).bind fun r2 =>
 (Z10 t95 r2.1 (.bool false)).bind fun t100 =>
 (Z0b t100
  ((Z0a t4).bind fun t102 =>
  (Z03 t102 2).bind fun t103 =>
  (Z03 t103 0).bind fun t104 =>
  (Z00 P .mul 3 (.int .i64 16) t5).bind fun t106 =>
  (Z00 P .mul 3 (.int .i64 4) t10).bind fun t108 =>
  (Z00 P .add 3 t106 t108).bind fun t109 =>
  (Z00 P .add 3 t109 t90).bind fun t111 =>
  (Z03 t8 0).bind fun t112 =>
  (ld1 r2.2.1 t112).bind fun t113 =>
  (Z00 P .mul 3 (.int .i64 16) t113).bind fun t114 =>
  (ixA 4 1 t9 t10).bind fun t116 =>
  (ld1 r2.2.1 t116).bind fun t117 =>
  (Z00 P .mul 3 (.int .i64 4) t117).bind fun t118 =>
  (Z00 P .add 3 t114 t118).bind fun t119 =>
  (ixA 4 1 t9 t90).bind fun t121 =>
  (ld1 r2.2.1 t121).bind fun t122 =>
  (Z00 P .add 3 t119 t122).bind fun t123 =>
  (callF o 67 [t104,t111,t123] r2.2.1 (r2.2.2+1)).bind fun r3 =>
  (Z0a t4).bind fun t126 =>
  (Z03 t126 3).bind fun t127 =>
  (Z03 t127 0).bind fun t128 =>
  (Z00 P .mul 3 (.int .i64 6) t5).bind fun t130 =>
  (callF o 27 [t10,t90] r3.2.1 (r3.2.2+1)).bind fun r4 =>
  (Z00 P .add 3 t130 r4.1).bind fun t134 =>
  (Z03 t8 0).bind fun t135 =>
  (ld1 r4.2.1 t135).bind fun t136 =>
  (Z00 P .mul 3 (.int .i64 6) t136).bind fun t137 =>
  (ixA 4 1 t9 t10).bind fun t139 =>
  (ld1 r4.2.1 t139).bind fun t140 =>
  (ixA 4 1 t9 t90).bind fun t142 =>
  (ld1 r4.2.1 t142).bind fun t143 =>
  (callF o 27 [t140,t143] r4.2.1 r4.2.2).bind fun r5 =>
  (Z00 P .add 3 t137 r5.1).bind fun t145 =>
  (callF o 67 [t128,t134,t145] r5.2.1 r5.2.2).bind fun r6 =>
  (bif (Z1a (Z28 t135) r3.2.1 r4.2.1 && (Z1a (Z28 t135) r4.2.1 r5.2.1 && (Z1a (Z28 t139) r3.2.1 r4.2.1 && (Z1a (Z28 t142) r3.2.1 r4.2.1 && true)))) then
  some ⟨.normal,[t4,t5,t7,t8,t9,t10,t35,t36,t37,t42,t43,t68,t90],r6.2.1,r6.2.2,df⟩
  else none))
  (some ⟨.normal,[t4,t5,t7,t8,t9,t10,t35,t36,t37,t42,t43,t68,t90],r2.2.1,r2.2.2,df⟩):Option (Rt H)).bind fun r7 =>
 cond (Z0w r7.e .normal)
  ((Z00 P .add 3 (r7.v 12) (.int .i64 1)).bind fun t147 =>
  some ⟨.normal,[r7.v 0,r7.v 1,r7.v 2,r7.v 3,r7.v 4,r7.v 5,r7.v 6,r7.v 7,r7.v 8,r7.v 9,r7.v 10,r7.v 11,t147],r7.h,(r7.c+1),r7.df⟩)
  (none))
 (some ⟨(.exit 6),[t4,t5,t7,t8,t9,t10,t35,t36,t37,t42,t43,t68,t90],h,(c+1),df⟩)
theorem Z2p (o:Orc H) (rd:Option Nat) (t4 t5 t7 t8 t9 t10 t35 t36 t37 t42 t43 t68 t90:Value) (h:H) (c:Nat) (df:List Nat):jx P o 152 rd Z32 (Z0m [4,5,7,8,9,10,35,36,37,42,43,68,90] [t4,t5,t7,t8,t9,t10,t35,t36,t37,t42,t43,t68,t90]) h c df (Klp [4,5,7,8,9,10,35,36,37,42,43,68,90])=Z36 o rd t4 t5 t7 t8 t9 t10 t35 t36 t37 t42 t43 t68 t90 h c df:=by kernel_rfl
noncomputable def Z37 (o:Orc H) (rd:Option Nat) (t4 t5 t7 t8 t9 t35 t36 t37 t42 t43 t68:Value) (h:H) (c:Nat) (df:List Nat):Option (Rt H) :=
 (Z00 P .lss 3 t68 (.int .i64 4)).bind fun t69 =>
 Z0b t69
 (((Z00 P .eql 3 t68 t7).bind fun t73 =>
  Z0b t73
   (some ⟨.normal,[t4,t5,t7,t8,t9,t35,t36,t37,t42,t43,t68],h,(c+1+1+1),df⟩)
   ((Z0a t4).bind fun t75 =>
   (Z03 t75 1).bind fun t76 =>
   (Z03 t76 0).bind fun t77 =>
   (Z00 P .mul 3 (.int .i64 4) t5).bind fun t79 =>
   (Z00 P .add 3 t79 t68).bind fun t81 =>
   (Z03 t8 0).bind fun t82 =>
   (ld1 h t82).bind fun t83 =>
   (Z00 P .mul 3 (.int .i64 4) t83).bind fun t84 =>
   (ixA 4 1 t9 t68).bind fun t86 =>
   (ld1 h t86).bind fun t87 =>
   (Z00 P .add 3 t84 t87).bind fun t88 =>
   (callF o 67 [t77,t81,t88] h (c+1+1+1+1)).bind fun r0 =>
   (o (Z8Y rd) [t4,t5,t7,t8,t9,t68,t35,t36,t37,t42,t43,t68,(.int .i64 0)] r0.2.1 (r0.2.2+1) df).bind fun r1 =>
   cond (Z0w r1.e (.exit 6))
    (some ⟨.normal,[r1.v 0,r1.v 1,r1.v 2,r1.v 3,r1.v 4,r1.v 6,r1.v 7,r1.v 8,r1.v 9,r1.v 10,r1.v 11],r1.h,r1.c,r1.df⟩)
    (none)):Option (Rt H)).bind fun r2 =>
 cond (Z0w r2.e .normal)
  ((Z00 P .add 3 (r2.v 10) (.int .i64 1)).bind fun t148 =>
  some ⟨.normal,[r2.v 0,r2.v 1,r2.v 2,r2.v 3,r2.v 4,r2.v 5,r2.v 6,r2.v 7,r2.v 8,r2.v 9,t148],r2.h,(r2.c+1),r2.df⟩)
  (none))
 (some ⟨(.exit 4),[t4,t5,t7,t8,t9,t35,t36,t37,t42,t43,t68],h,(c+1),df⟩)
theorem Z2q (o:Orc H) (rd:Option Nat) (t4 t5 t7 t8 t9 t35 t36 t37 t42 t43 t68:Value) (h:H) (c:Nat) (df:List Nat):jx P o 152 rd Z33 (Z0m [4,5,7,8,9,35,36,37,42,43,68] [t4,t5,t7,t8,t9,t35,t36,t37,t42,t43,t68]) h c df (Klp [4,5,7,8,9,35,36,37,42,43,68])=Z37 o rd t4 t5 t7 t8 t9 t35 t36 t37 t42 t43 t68 h c df:=by kernel_rfl
noncomputable def Z38 (o:Orc H) (rd:Option Nat) (t4 t5 t35 t36 t37 t42 t43:Value) (h:H) (c:Nat) (df:List Nat):Option (Rt H) :=
 (Z00 P .lss 3 t43 (.int .i64 4)).bind fun t44 =>
 Z0b t44
 (((ixV 4 true 5 t42 t43).bind fun t46 =>
  (stN (newB h (256*(c+1)+2) [(.int .i64 0),(.int .i64 0),(.int .i64 0),(.int .i64 0),(.int .i64 0)]) 5 (ptrTo (256*(c+1)+2)) t46).bind fun h1 =>
  (Z03 (ptrTo (256*(c+1)+2)) 0).bind fun t47 =>
  (ld1 h1 t47).bind fun t48 =>
  (Z00 P .lss 3 t48 (.int .i64 0)).bind fun t49 =>
  Z0b t49
   (some ⟨.normal,[t4,t5,t35,t36,t37,t42,t43],h1,(c+1+1+1),df⟩)
   ((Z03 (ptrTo (256*(c+1)+2)) 1).bind fun t50 =>
   (ldN h1 4 t50).bind fun t51 =>
   (stN (newB h1 (256*(c+1+1+1)+2) [(.int .i64 0),(.int .i64 0),(.int .i64 0),(.int .i64 0)]) 4 (ptrTo (256*(c+1+1+1)+2)) t51).bind fun h3 =>
   (Z0a t4).bind fun t53 =>
   (Z03 t53 4).bind fun t54 =>
   (Z03 t54 0).bind fun t55 =>
   (Z00 P .mul 3 (.int .i64 4) t5).bind fun t57 =>
   (Z00 P .add 3 t57 t43).bind fun t59 =>
   (Z03 (ptrTo (256*(c+1)+2)) 0).bind fun t60 =>
   (ld1 h3 t60).bind fun t61 =>
   (Z00 P .mul 3 (.int .i64 4) t61).bind fun t62 =>
   (ixA 4 1 (ptrTo (256*(c+1+1+1)+2)) t43).bind fun t64 =>
   (ld1 h3 t64).bind fun t65 =>
   (Z00 P .add 3 t62 t65).bind fun t66 =>
   (callF o 67 [t55,t59,t66] h3 (c+1+1+1+1+1)).bind fun r4 =>
   (o (Z8Z rd) [t4,t5,t43,(ptrTo (256*(c+1)+2)),(ptrTo (256*(c+1+1+1)+2)),t35,t36,t37,t42,t43,(.int .i64 0)] r4.2.1 (r4.2.2+1) df).bind fun r5 =>
   cond (Z0w r5.e (.exit 4))
    (some ⟨.normal,[r5.v 0,r5.v 1,r5.v 5,r5.v 6,r5.v 7,r5.v 8,r5.v 9],r5.h,r5.c,r5.df⟩)
    (none)):Option (Rt H)).bind fun r6 =>
 cond (Z0w r6.e .normal)
  ((Z00 P .add 3 (r6.v 6) (.int .i64 1)).bind fun t149 =>
  some ⟨.normal,[r6.v 0,r6.v 1,r6.v 2,r6.v 3,r6.v 4,r6.v 5,t149],r6.h,(r6.c+1),r6.df⟩)
  (none))
 (some ⟨(.exit 2),[t4,t5,t35,t36,t37,t42,t43],h,(c+1),df⟩)
theorem Z2r (o:Orc H) (rd:Option Nat) (t4 t5 t35 t36 t37 t42 t43:Value) (h:H) (c:Nat) (df:List Nat):jx P o 152 rd Z34 (Z0m [4,5,35,36,37,42,43] [t4,t5,t35,t36,t37,t42,t43]) h c df (Klp [4,5,35,36,37,42,43])=Z38 o rd t4 t5 t35 t36 t37 t42 t43 h c df:=by kernel_rfl
noncomputable def Z3V (o:Orc H) (rd:Option Nat) (t4 t35 t36 t37:Value) (h:H) (c:Nat) (df:List Nat):Option (Rt H) :=
 (Z00 P .lss 3 t37 t36).bind fun t38 =>
 Z0b t38
 ((ixS 20 t35 t37).bind fun t40 =>
 (ldN h 20 t40).bind fun t41 =>
 (stN (newB h (256*(c+1)+3) [(.int .i64 0),(.int .i64 0),(.int .i64 0),(.int .i64 0),(.int .i64 0),(.int .i64 0),(.int .i64 0),(.int .i64 0),(.int .i64 0),(.int .i64 0),(.int .i64 0),(.int .i64 0),(.int .i64 0),(.int .i64 0),(.int .i64 0),(.int .i64 0),(.int .i64 0),(.int .i64 0),(.int .i64 0),(.int .i64 0)]) 20 (ptrTo (256*(c+1)+3)) t41).bind fun h1 =>
 (ldN h1 20 (ptrTo (256*(c+1)+3))).bind fun t42 =>
 (o (Z90 rd) [t4,t37,t35,t36,t37,t42,(.int .i64 0)] h1 (c+1+1+1) df).bind fun r2 =>
 cond (Z0w r2.e (.exit 2))
  ((Z00 P .add 3 (r2.v 4) (.int .i64 1)).bind fun t150 =>
  some ⟨.normal,[r2.v 0,r2.v 2,r2.v 3,t150],r2.h,(r2.c+1),r2.df⟩)
  (none))
 (some ⟨(.exit 0),[t4,t35,t36,t37],h,(c+1),df⟩)
theorem Z4u (o:Orc H) (rd:Option Nat) (t4 t35 t36 t37:Value) (h:H) (c:Nat) (df:List Nat):jx P o 152 rd Z35 (Z0m [4,35,36,37] [t4,t35,t36,t37]) h c df (Klp [4,35,36,37])=Z3V o rd t4 t35 t36 t37 h c df:=by kernel_rfl
noncomputable def Zg0 (o:Orc H) (t0:Value) (h:H) (c:Nat):Option (Rt H) :=
 (bif (t0:Value).cells.toList.all Z06 then
 (Z03 (ptrTo (256*c+0)) 0).bind fun t12 =>
 (ld1 (newB h (256*c+0) (t0:Value).cells.toList) t12).bind fun t13 =>
 (Z4c t13).bind fun t14 =>
 (ldN (newB h (256*c+0) (t0:Value).cells.toList) 1 (ptrTo (256*c+0))).bind fun t15 =>
 (Z00 P .mul 3 (.int .i64 4) t14).bind fun t17 =>
 (callF o 66 [t17] (newB h (256*c+0) (t0:Value).cells.toList) (c+1+1+1)).bind fun r0 =>
 (Z1d [(.slice none 0 0)] [(0,1,r0.1)]).bind fun t19 =>
 (Z00 P .mul 3 (.int .i64 16) t14).bind fun t21 =>
 (callF o 66 [t21] r0.2.1 r0.2.2).bind fun r1 =>
 (Z1d [(.slice none 0 0)] [(0,1,r1.1)]).bind fun t23 =>
 (Z00 P .mul 3 (.int .i64 6) t14).bind fun t25 =>
 (callF o 66 [t25] r1.2.1 r1.2.2).bind fun r2 =>
 (Z1d [(.slice none 0 0)] [(0,1,r2.1)]).bind fun t27 =>
 (Z00 P .mul 3 (.int .i64 4) t14).bind fun t29 =>
 (callF o 66 [t29] r2.2.1 r2.2.2).bind fun r3 =>
 (Z1d [(.slice none 0 0)] [(0,1,r3.1)]).bind fun t31 =>
 (Z1d [(.slice none 0 0),(.slice none 0 0),(.slice none 0 0),(.slice none 0 0),(.slice none 0 0)] [(0,1,t15),(1,1,t19),(2,1,t23),(3,1,t27),(4,1,t31)]).bind fun t32 =>
 (bif (t32:Value).cells.toList.all Z06 then
 (bif (Z1a (Z28 (ptrTo (256*c+0))) (newB h (256*c+0) (t0:Value).cells.toList) r0.2.1 && (Z1a (Z28 (ptrTo (256*c+0))) r0.2.1 r1.2.1 && (Z1a (Z28 (ptrTo (256*c+0))) r1.2.1 r2.2.1 && (Z1a (Z28 (ptrTo (256*c+0))) r2.2.1 r3.2.1 && true)))) then
 (Z03 (ptrTo (256*c+0)) 0).bind fun t34 =>
 (ld1 (newB r3.2.1 (256*(c+1+1)+18) (t32:Value).cells.toList) t34).bind fun t35 =>
 (Z4c t35).bind fun t36 =>
 (o (Z91 none) [(ptrTo (256*(c+1+1)+18)),t35,t36,(.int .i64 0)] (newB r3.2.1 (256*(c+1+1)+18) (t32:Value).cells.toList) (r3.2.2+1) []).bind fun r4 =>
 cond (Z0w r4.e (.exit 0))
 ((Z09 r4.h r4.df).bind fun h5 =>
 some ⟨.ret,[r4.v 0],h5,(r4.c+1),[]⟩)
 (none)
 else none)
 else none)
 else none)
theorem Zdi (o:Orc H) (t0:Value) (h:H) (c:Nat):jx P o 152 none f40_c (Z0m (List.range 1) [t0]) h c [] (Kfn P Try.f40.results.toList)=Zg0 o t0 h c:=by kernel_rfl
theorem f40_go {t0:Value} {h:FH} {c:Nat} {df:List Nat} {r:Rt FH} (e:Zg0 G t0 h c=some r):G (.fn 40) [t0] h c df=some r:=Z0n (a:=ZbC) bk_40 rfl (fun args h c=>by cases args <;> rfl) rfl ((Zdi G t0 h c).trans e)
noncomputable def Z3U (o:Orc H) (rd:Option Nat) (t0 t4 t5 t15 t16:Value) (h:H) (c:Nat) (df:List Nat):Option (Rt H) :=
 (Z00 P .lss 3 t16 t15).bind fun t17 =>
 Z0b t17
 ((callF o 68 [t0,t16] h (c+1+1+1)).bind fun r0 =>
 (Z00 P .eql 3 r0.1 t16).bind fun t24 =>
 (Z0b t24
  ((ixS 1 t4 t16).bind fun t28 =>
  (stN r0.2.1 1 t28 t5).bind fun h2 =>
  (Z00 P .add 3 t5 (.int .i64 1)).bind fun t30 =>
  some ⟨.normal,[t0,t4,t30,t15,t16],h2,(r0.2.2+1+1+1),df⟩)
  ((ixS 1 t4 r0.1).bind fun t35 =>
  (ld1 r0.2.1 t35).bind fun t36 =>
  (ixS 1 t4 t16).bind fun t37 =>
  (stN r0.2.1 1 t37 t36).bind fun h5 =>
  some ⟨.normal,[t0,t4,t5,t15,t16],h5,(r0.2.2+1+1),df⟩):Option (Rt H)).bind fun r6 =>
 cond (Z0w r6.e .normal)
  ((Z00 P .add 3 (r6.v 4) (.int .i64 1)).bind fun t38 =>
  some ⟨.normal,[r6.v 0,r6.v 1,r6.v 2,r6.v 3,t38],r6.h,(r6.c+1),r6.df⟩)
  (none))
 (some ⟨(.exit 0),[t0,t4,t5,t15,t16],h,(c+1),df⟩)
theorem Z4t (o:Orc H) (rd:Option Nat) (t0 t4 t5 t15 t16:Value) (h:H) (c:Nat) (df:List Nat):jx P o 41 rd Z31 (Z0m [0,4,5,15,16] [t0,t4,t5,t15,t16]) h c df (Klp [0,4,5,15,16])=Z3U o rd t0 t4 t5 t15 t16 h c df:=by kernel_rfl
noncomputable def ZfZ (o:Orc H) (t0:Value) (h:H) (c:Nat):Option (Rt H) :=
 (Z0a t0).bind fun t9 =>
 (Z03 t9 0).bind fun t10 =>
 (ld1 h t10).bind fun t11 =>
 (Z4c t11).bind fun t12 =>
 (mkS 1 8 [(.int .i64 0)] t12 t12).bind fun r0 =>
 (Z4c (.slice (some ⟨(256*(c+1)+5),0,none⟩) r0.2.1 r0.2.2)).bind fun t15 =>
 (o (Z8X none) [t0,(.slice (some ⟨(256*(c+1)+5),0,none⟩) r0.2.1 r0.2.2),(.int .i64 0),t15,(.int .i64 0)] (newB h (256*(c+1)+5) r0.1) (c+1+1+1+1) []).bind fun r1 =>
 cond (Z0w r1.e (.exit 0))
 ((Z09 r1.h r1.df).bind fun h2 =>
 some ⟨.ret,[.tuple #[r1.v 1,r1.v 2]],h2,(r1.c+1),[]⟩)
 (none)
theorem Zdh (o:Orc H) (t0:Value) (h:H) (c:Nat):jx P o 41 none f41_c (Z0m (List.range 1) [t0]) h c [] (Kfn P Try.f41.results.toList)=ZfZ o t0 h c:=by kernel_rfl
theorem f41_go {t0:Value} {h:FH} {c:Nat} {df:List Nat} {r:Rt FH} (e:ZfZ G t0 h c=some r):G (.fn 41) [t0] h c df=some r:=Z0n (a:=ZbB) bk_41 rfl (fun args h c=>by cases args <;> rfl) rfl ((Zdh G t0 h c).trans e)
end Go.Proofs.Ytdodippbpdechaa
