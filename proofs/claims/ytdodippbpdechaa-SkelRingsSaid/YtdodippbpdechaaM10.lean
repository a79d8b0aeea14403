/- Parts of a proof: S0 S1 S2. Conditions: none. -/
import Derived.Test.YtdodippbpdechaaM9
set_option linter.all false
set_option maxRecDepth 100000
namespace Go.Proofs.Ytdodippbpdechaa
open Go Go.Ab Go.Proofs
variable {H:Type} [HeapC H]
noncomputable def ZaE (o:Orc H) (rd:Option Nat) (t8 t12 t17 t80 t81:Value) (h:H) (c:Nat) (df:List Nat):Option (Rt H) :=
 (Z00 P .lss 3 t81 t80).bind fun t82 =>
 Z08 t82
 ((ixS 6 t17 t81).bind fun t86 =>
 (ldN h 6 t86).bind fun t87 =>
 (ixS 6 t12 t81).bind fun t90 =>
 (ldN h 6 t90).bind fun t91 =>
 (Z00 P .neq 74 t87 t91).bind fun t92 =>
 Z08 t92
  (some ⟨.ret,[(.bool false),t12,t17,t80,t81],h,(c+1+1+1+1),df⟩)
  ((Z00 P .add 3 t81 (.int .i64 1)).bind fun t93 =>
  some ⟨.normal,[t8,t12,t17,t80,t93],h,(c+1+1+1+1),df⟩))
 (some ⟨(.exit 0),[t8,t12,t17,t80,t81],h,(c+1),df⟩)
theorem Z8B (o:Orc H) (rd:Option Nat) (t8 t12 t17 t80 t81:Value) (h:H) (c:Nat) (df:List Nat):jx P o 95 rd ZaD (Z0i [8,12,17,80,81] [t8,t12,t17,t80,t81]) h c df (Klp [8,12,17,80,81])=ZaE o rd t8 t12 t17 t80 t81 h c df:=by kernel_rfl
noncomputable def f8_S (o:Orc H) (t0 t1 t2 t3:Value) (h:H) (c:Nat):Option (Rt H) :=
 (bif (t0:Value).cells.toList.all Z06 then
 (bif (t2:Value).cells.toList.all Z06 then
 (Z02 (ptrTo (256*c+0)) 0).bind fun t20 =>
 (ld1 (newB (newB h (256*c+0) (t0:Value).cells.toList) (256*c+1) (t2:Value).cells.toList) t20).bind fun t21 =>
 (Z2m t21).bind fun t22 =>
 (Z00 P .gtr 3 t22 (.int .i64 30)).bind fun t23 =>
 Z08 t23
 ((callF o 10 [] (newB (newB h (256*c+0) (t0:Value).cells.toList) (256*c+1) (t2:Value).cells.toList) (c+1+1+1)).bind fun r0 =>
 some ⟨.ret,[r0.1],r0.2.1,r0.2.2,[]⟩)
 ((ldN (newB (newB h (256*c+0) (t0:Value).cells.toList) (256*c+1) (t2:Value).cells.toList) 1 (ptrTo (256*c+0))).bind fun t26 =>
 (ldN (newB (newB h (256*c+0) (t0:Value).cells.toList) (256*c+1) (t2:Value).cells.toList) 4 (ptrTo (256*c+1))).bind fun t28 =>
 (callF o 33 [t26,t1,t28] (newB (newB h (256*c+0) (t0:Value).cells.toList) (256*c+1) (t2:Value).cells.toList) (c+1+1+1)).bind fun r1 =>
 (Z1m r1.1 0).bind fun t30 =>
 (Z1m r1.1 1).bind fun t31 =>
 (Z1m r1.1 2).bind fun t32 =>
 (ldN r1.2.1 1 (ptrTo (256*c+0))).bind fun t34 =>
 (callF o 34 [t34,t3] r1.2.1 (r1.2.2+1)).bind fun r2 =>
 (Z1m r2.1 0).bind fun t37 =>
 (Z1m r2.1 1).bind fun t38 =>
 (ldN r2.2.1 1 (ptrTo (256*c+0))).bind fun t40 =>
 (ldN r2.2.1 4 (ptrTo (256*c+1))).bind fun t42 =>
 (callF o 29 [t40,t1,t42] r2.2.1 (r2.2.2+1)).bind fun r3 =>
 (Z1m r3.1 0).bind fun t44 =>
 (Z1m r3.1 1).bind fun t45 =>
 (Z1m r3.1 2).bind fun t46 =>
 (ldN r3.2.1 1 (ptrTo (256*c+0))).bind fun t48 =>
 (callF o 35 [t48,t3] r3.2.1 (r3.2.2+1)).bind fun r4 =>
 (Z1m r4.1 0).bind fun t51 =>
 (Z1m r4.1 1).bind fun t52 =>
 (Z00 P .neq 33 t46 t32).bind fun t55 =>
 (gd t55 false r4.2.1 (r4.2.2+1) (some t45)).bind fun r5 =>
 (gd t55 false r5.2.1 r5.2.2 (some t31)).bind fun r6 =>
 (gd t55 false r6.2.1 r6.2.2 (Z00 P .neq 4 r5.1 r6.1)).bind fun r7 =>
 (Z0H t55 (.bool true) r7.1).bind fun t60 =>
 (gd t60 false r7.2.1 r7.2.2 (some t44)).bind fun r8 =>
 (gd t60 false r8.2.1 r8.2.2 (some t30)).bind fun r9 =>
 (gg t60 false r9.2.1 r9.2.2 (callF o 32 [r8.1,r9.1] r9.2.1 r9.2.2)).bind fun r10 =>
 (gd t60 false r10.2.1 r10.2.2 (Z1V .not r10.1)).bind fun r11 =>
 (Z0H t60 (.bool true) r11.1).bind fun t66 =>
 (gd t66 false r11.2.1 r11.2.2 (some t52)).bind fun r12 =>
 (gd t66 false r12.2.1 r12.2.2 (some t38)).bind fun r13 =>
 (gd t66 false r13.2.1 r13.2.2 (Z00 P .neq 33 r12.1 r13.1)).bind fun r14 =>
 (Z0H t66 (.bool true) r14.1).bind fun t71 =>
 (gd t71 false r14.2.1 r14.2.2 (some t51)).bind fun r15 =>
 (gg t71 false r15.2.1 r15.2.2 (((Z2m r15.1).bind fun v=>some (v,r15.2.1)).bind fun r=>some (r.1,r.2,r15.2.2))).bind fun r16 =>
 (gd t71 false r16.2.1 r16.2.2 (some t37)).bind fun r17 =>
 (gg t71 false r17.2.1 r17.2.2 (((Z2m r17.1).bind fun v=>some (v,r17.2.1)).bind fun r=>some (r.1,r.2,r17.2.2))).bind fun r18 =>
 (gd t71 false r18.2.1 r18.2.2 (Z00 P .neq 3 r16.1 r18.1)).bind fun r19 =>
 (Z0H t71 (.bool true) r19.1).bind fun t78 =>
 Z08 t78
  (some ⟨.ret,[(.bool false)],r19.2.1,(r19.2.2+1),[]⟩)
  ((Z2m t51).bind fun t80 =>
  (o (Ze7 none) [(.bool false),t37,t51,t80,(.int .i64 0)] r19.2.1 (r19.2.2+1) []).bind fun r20 =>
  cond (Z0u r20.e (.exit 0))
   ((callF o 10 [] r20.h (r20.c+1)).bind fun r22 =>
   (Z07 r22.2.1 r20.df).bind fun h23 =>
   some ⟨.ret,[r22.1],h23,r22.2.2,[]⟩)
   (cond (Z0u r20.e .ret)
    ((Z07 r20.h r20.df).bind fun h21 =>
    some ⟨.ret,[r20.v 0],h21,r20.c,[]⟩)
    (none))))
 else none)
 else none)
theorem Zmk (o:Orc H) (t0 t1 t2 t3:Value) (h:H) (c:Nat):jx P o 95 none f8_c (Z0i (List.range 4) [t0,t1,t2,t3]) h c [] (Kfn P Try.f8.results.toList)=f8_S o t0 t1 t2 t3 h c:=by kernel_rfl
theorem f8_go {t0 t1 t2 t3:Value} {h:FH} {c:Nat} {df:List Nat} {r:Rt FH} (e:f8_S G t0 t1 t2 t3 h c=some r):G (.fn 8) [t0,t1,t2,t3] h c df=some (gcR h c [] r):=Z0r (a:=f8_f) bk_8 rfl (fun args h c=>by cases args <;> rfl) rfl ((Zmk G t0 t1 t2 t3 h c).trans e)
noncomputable def ZmY (o:Orc H) (h:H) (c:Nat):Option (Rt H) :=
 (callF o 37 [] h (c+1+1)).bind fun r0 =>
 (callF o 13 [r0.1] r0.2.1 r0.2.2).bind fun r1 =>
 (Z1m r1.1 0).bind fun t8 =>
 (Z1m r1.1 1).bind fun t9 =>
 (callF o 37 [] r1.2.1 (r1.2.2+1)).bind fun r2 =>
 (callF o 11 [r2.1] r2.2.1 r2.2.2).bind fun r3 =>
 (Z1m r3.1 0).bind fun t13 =>
 (Z1m r3.1 1).bind fun t14 =>
 (stN (newB r3.2.1 (256*r1.2.2+5) [(.slice none 0 0),(.slice none 0 0),(.slice none 0 0),(.slice none 0 0),(.slice none 0 0),(.slice none 0 0)]) 6 (ptrTo (256*r1.2.2+5)) t13).bind fun h5 =>
 (Z00 P .eql 33 t9 (.int .i64 0)).bind fun t16 =>
 (gd t16 true h5 (r3.2.2+1) (some t8)).bind fun r6 =>
 (gd t16 true r6.2.1 r6.2.2 (Z00 P .eql 3 r6.1 (.int .i64 1))).bind fun r7 =>
 (Z0H t16 r7.1 (.bool false)).bind fun t20 =>
 (gd t20 true r7.2.1 r7.2.2 (some t14)).bind fun r8 =>
 (gd t20 true r8.2.1 r8.2.2 (Z00 P .eql 33 r8.1 (.int .i64 0))).bind fun r9 =>
 (Z0H t20 r9.1 (.bool false)).bind fun t24 =>
 (gd t24 true r9.2.1 r9.2.2 (Z02 (ptrTo (256*r1.2.2+5)) 3)).bind fun r10 =>
 (gd t24 true r10.2.1 r10.2.2 (ld1 r10.2.1 r10.1)).bind fun r11 =>
 (gg t24 true r11.2.1 r11.2.2 ((Z8N [(.int .i64 0),(.int .i64 0),(.int .i64 0)] [(0,1,(.int .i64 1)),(1,1,(.int .i64 4)),(2,1,(.int .i64 1))]).bind fun cs=>some (.slice (some ⟨(256*r3.2.2+13),0,none⟩) 3 3,newB r11.2.1 (256*r3.2.2+13) cs,r11.2.2))).bind fun r12 =>
 (gg t24 true r12.2.1 r12.2.2 (callF o 16 [r11.1,r12.1] r12.2.1 r12.2.2)).bind fun r13 =>
 (Z0H t24 r13.1 (.bool false)).bind fun t30 =>
 some ⟨.ret,[t30],r13.2.1,r13.2.2,[]⟩
theorem ZkF (o:Orc H) (h:H) (c:Nat):jx P o 31 none f10_c (Z0i (List.range 0) []) h c [] (Kfn P Try.f10.results.toList)=ZmY o h c:=by kernel_rfl
noncomputable def ZmX (o:Orc H) (t0:Value) (h:H) (c:Nat):Option (Rt H) :=
 (bif (t0:Value).cells.toList.all Z06 then
 (ldN (newB (newB h (256*c+0) (t0:Value).cells.toList) (256*c+1) [(.slice none 0 0),(.slice none 0 0),(.slice none 0 0),(.slice none 0 0),(.slice none 0 0),(.slice none 0 0)]) 1 (ptrTo (256*c+0))).bind fun t4 =>
 (callF o 38 [t4] (newB (newB h (256*c+0) (t0:Value).cells.toList) (256*c+1) [(.slice none 0 0),(.slice none 0 0),(.slice none 0 0),(.slice none 0 0),(.slice none 0 0),(.slice none 0 0)]) (c+1+1)).bind fun r0 =>
 (Z00 P .neq 33 r0.1 (.int .i64 0)).bind fun t6 =>
 Z08 t6
 ((Z1d [(.slice none 0 0),(.slice none 0 0),(.slice none 0 0),(.slice none 0 0),(.slice none 0 0),(.slice none 0 0)] []).bind fun t7 =>
 (stN r0.2.1 6 (ptrTo (256*c+1)) t7).bind fun h2 =>
 (ldN h2 6 (ptrTo (256*c+1))).bind fun v3 =>
 some ⟨.ret,[.tuple #[v3,(.int .i64 7)]],h2,(r0.2.2+1),[]⟩)
 ((ldN r0.2.1 1 (ptrTo (256*c+0))).bind fun t8 =>
 (callF o 39 [t8] r0.2.1 (r0.2.2+1)).bind fun r4 =>
 (stN r4.2.1 6 (ptrTo (256*c+1)) r4.1).bind fun h6 =>
 (ldN h6 6 (ptrTo (256*c+1))).bind fun v7 =>
 some ⟨.ret,[.tuple #[v7,(.int .i64 0)]],h6,r4.2.2,[]⟩)
 else none)
theorem ZkE (o:Orc H) (t0:Value) (h:H) (c:Nat):jx P o 10 none f11_c (Z0i (List.range 1) [t0]) h c [] (Kfn P Try.f11.results.toList)=ZmX o t0 h c:=by kernel_rfl
noncomputable def Z7o (o:Orc H) (rd:Option Nat) (t2 t3 t4 t12 t13:Value) (h:H) (c:Nat) (df:List Nat):Option (Rt H) :=
 (Z00 P .lss 3 t13 (.int .i64 4)).bind fun t14 =>
 Z08 t14
 ((ixV 4 true 2 t12 t13).bind fun t15 =>
 (stN (newB h (256*(c+1)+1) [(.int .i64 0),.nilFunc]) 2 (ptrTo (256*(c+1)+1)) t15).bind fun h1 =>
 (Z02 (ptrTo (256*(c+1)+1)) 1).bind fun t16 =>
 (ld1 h1 t16).bind fun t17 =>
 (ldN h1 4 t4).bind fun t18 =>
 (Z3A o h1 (c+1+1+1) t17 [t18]).bind fun r2 =>
 Z08 r2.1
  ((Z02 (ptrTo (256*(c+1)+1)) 0).bind fun t20 =>
  (ld1 r2.2.1 t20).bind fun t21 =>
  some ⟨.ret,[t21,(.int .i64 0),t4,t12,t13],r2.2.1,(r2.2.2+1),df⟩)
  ((Z00 P .add 3 t13 (.int .i64 1)).bind fun t22 =>
  some ⟨.normal,[t2,t3,t4,t12,t22],r2.2.1,(r2.2.2+1),df⟩))
 (some ⟨(.exit 0),[t2,t3,t4,t12,t13],h,(c+1),df⟩)
theorem Zb5 (o:Orc H) (rd:Option Nat) (t2 t3 t4 t12 t13:Value) (h:H) (c:Nat) (df:List Nat):jx P o 23 rd Z3m (Z0i [2,3,4,12,13] [t2,t3,t4,t12,t13]) h c df (Klp [2,3,4,12,13])=Z7o o rd t2 t3 t4 t12 t13 h c df:=by kernel_rfl
noncomputable def ZmW (o:Orc H) (t0:Value) (h:H) (c:Nat):Option (Rt H) :=
 (bif (t0:Value).cells.toList.all Z06 then
 (ldN (newB h (256*c+0) (t0:Value).cells.toList) 1 (ptrTo (256*c+0))).bind fun t7 =>
 (callF o 38 [t7] (newB h (256*c+0) (t0:Value).cells.toList) (c+1+1)).bind fun r0 =>
 (Z00 P .neq 33 r0.1 (.int .i64 0)).bind fun t9 =>
 Z08 t9
 (some ⟨.ret,[.tuple #[(.int .i64 0),(.int .i64 7)]],r0.2.1,(r0.2.2+1),[]⟩)
 ((ldN r0.2.1 1 (ptrTo (256*c+0))).bind fun t10 =>
 (callF o 42 [t10] r0.2.1 (r0.2.2+1)).bind fun r1 =>
 (stN (newB r1.2.1 (256*r0.2.2+2) [(.bool false),(.bool false),(.bool false),(.bool false)]) 4 (ptrTo (256*r0.2.2+2)) r1.1).bind fun h3 =>
 (callF o 43 [] h3 (r1.2.2+1)).bind fun r4 =>
 (o (ZfV none) [(.int .i64 0),(.int .i64 0),(ptrTo (256*r0.2.2+2)),r4.1,(.int .i64 0)] r4.2.1 r4.2.2 []).bind fun r5 =>
 cond (Z0u r5.e (.exit 0))
  ((Z07 r5.h r5.df).bind fun h7 =>
  some ⟨.ret,[.tuple #[(.int .i64 4),(.int .i64 0)]],h7,(r5.c+1),[]⟩)
  (cond (Z0u r5.e .ret)
   ((Z07 r5.h r5.df).bind fun h6 =>
   some ⟨.ret,[.tuple #[r5.v 0,r5.v 1]],h6,r5.c,[]⟩)
   (none)))
 else none)
theorem ZkD (o:Orc H) (t0:Value) (h:H) (c:Nat):jx P o 23 none f13_c (Z0i (List.range 1) [t0]) h c [] (Kfn P Try.f13.results.toList)=ZmW o t0 h c:=by kernel_rfl
noncomputable def Z1K (o:Orc H) (rd:Option Nat) (t1 t2 t3 t4 t5:Value) (h:H) (c:Nat) (df:List Nat):Option (Rt H) :=
 (Z00 P .lss 3 t5 (.int .i64 4)).bind fun t18 =>
 Z08 t18
 (((Z02 t1 0).bind fun t21 =>
  (ld1 h t21).bind fun t22 =>
  (ixS 20 t22 t4).bind fun t25 =>
  (ixA 4 5 t25 t5).bind fun t26 =>
  (ldN h 5 t26).bind fun t27 =>
  (stN (newB h (256*(c+1)+7) [(.int .i64 0),(.int .i64 0),(.int .i64 0),(.int .i64 0),(.int .i64 0)]) 5 (ptrTo (256*(c+1)+7)) t27).bind fun h1 =>
  (Z02 (ptrTo (256*(c+1)+7)) 0).bind fun t28 =>
  (ld1 h1 t28).bind fun t29 =>
  (Z00 P .eql 3 t29 (.int .i64 (-1))).bind fun t30 =>
  (gd t30 true h1 (c+1+1+1) (Z02 (ptrTo (256*(c+1)+7)) 1)).bind fun r2 =>
  (gd t30 true r2.2.1 r2.2.2 (ldN r2.2.1 4 r2.1)).bind fun r3 =>
  (gd t30 true r3.2.1 r3.2.2 (Z1d [(.int .i64 0),(.int .i64 0),(.int .i64 0),(.int .i64 0)] [])).bind fun r4 =>
  (gd t30 true r4.2.1 r4.2.2 (Z00 P .eql 42 r3.1 r4.1)).bind fun r5 =>
  (Z0H t30 r5.1 (.bool false)).bind fun t36 =>
  Z08 t36
   (some ⟨.normal,[t1,t2,t3,t4,t5],r5.2.1,r5.2.2,df⟩)
   ((Z02 (ptrTo (256*(c+1)+7)) 0).bind fun t37 =>
   (ld1 r5.2.1 t37).bind fun t38 =>
   (Z00 P .lss 3 t38 (.int .i64 0)).bind fun t39 =>
   (gd t39 false r5.2.1 (r5.2.2+1) (Z02 (ptrTo (256*(c+1)+7)) 0)).bind fun r6 =>
   (gd t39 false r6.2.1 r6.2.2 (ld1 r6.2.1 r6.1)).bind fun r7 =>
   (gd t39 false r7.2.1 r7.2.2 (some t3)).bind fun r8 =>
   (gd t39 false r8.2.1 r8.2.2 (Z00 P .geq 3 r7.1 r8.1)).bind fun r9 =>
   (Z0H t39 (.bool true) r9.1).bind fun t45 =>
   (gd t45 false r9.2.1 r9.2.2 (Z02 (ptrTo (256*(c+1)+7)) 1)).bind fun r10 =>
   (gd t45 false r10.2.1 r10.2.2 (ldN r10.2.1 4 r10.1)).bind fun r11 =>
   (gg t45 false r11.2.1 r11.2.2 (callF o 44 [r11.1] r11.2.1 r11.2.2)).bind fun r12 =>
   (gd t45 false r12.2.1 r12.2.2 (Z1V .not r12.1)).bind fun r13 =>
   (Z0H t45 (.bool true) r13.1).bind fun t51 =>
   (gd t51 false r13.2.1 r13.2.2 (Z02 (ptrTo (256*(c+1)+7)) 0)).bind fun r14 =>
   (gd t51 false r14.2.1 r14.2.2 (ld1 r14.2.1 r14.1)).bind fun r15 =>
   (gd t51 false r15.2.1 r15.2.2 (some t4)).bind fun r16 =>
   (gd t51 false r16.2.1 r16.2.2 (Z00 P .eql 3 r15.1 r16.1)).bind fun r17 =>
   (gd t51 false r17.2.1 r17.2.2 (some r17.1)).bind fun r18 =>
   (gd r18.1 true r18.2.1 r18.2.2 (some t5)).bind fun r19 =>
   (gd r18.1 true r19.2.1 r19.2.2 (Z02 (ptrTo (256*(c+1)+7)) 1)).bind fun r20 =>
   (gd r18.1 true r20.2.1 r20.2.2 (ixA 4 1 r20.1 r19.1)).bind fun r21 =>
   (gd r18.1 true r21.2.1 r21.2.2 (ld1 r21.2.1 r21.1)).bind fun r22 =>
   (gd r18.1 true r22.2.1 r22.2.2 (some t5)).bind fun r23 =>
   (gd r18.1 true r23.2.1 r23.2.2 (Z00 P .eql 3 r22.1 r23.1)).bind fun r24 =>
   (gg t51 false r24.2.1 r24.2.2 (ZeQ r24.2.1 r24.2.2 r18.1 r24.1 (.bool false))).bind fun r25 =>
   (Z0H t51 (.bool true) r25.1).bind fun t65 =>
   Z08 t65
    (some ⟨.ret,[t1,(.int .i64 7),t3,t4,t5],r25.2.1,(r25.2.2+1),df⟩)
    ((Z02 t1 0).bind fun t66 =>
    (ld1 r25.2.1 t66).bind fun t67 =>
    (Z02 (ptrTo (256*(c+1)+7)) 0).bind fun t68 =>
    (ld1 r25.2.1 t68).bind fun t69 =>
    (Z02 (ptrTo (256*(c+1)+7)) 1).bind fun t71 =>
    (ixA 4 1 t71 t5).bind fun t72 =>
    (ld1 r25.2.1 t72).bind fun t73 =>
    (ixS 20 t67 t69).bind fun t74 =>
    (ixA 4 5 t74 t73).bind fun t75 =>
    (ldN r25.2.1 5 t75).bind fun t76 =>
    (Z02 (ptrTo (256*(c+1)+7)) 1).bind fun t78 =>
    (ldN r25.2.1 4 t78).bind fun t79 =>
    (callF o 45 [t79] r25.2.1 (r25.2.2+1)).bind fun r27 =>
    (Z1d [(.int .i64 0),(.int .i64 0),(.int .i64 0),(.int .i64 0),(.int .i64 0)] [(0,1,t4),(1,4,r27.1)]).bind fun t81 =>
    (Z00 P .neq 44 t76 t81).bind fun t82 =>
    (bif (Z19 (Z2g t66) r25.2.1 r27.2.1 && (Z19 (Z2g t68) r25.2.1 r27.2.1 && (Z19 (Z2g t72) r25.2.1 r27.2.1 && (Z19 (Z2g t75) r25.2.1 r27.2.1 && true)))) then
    Z08 t82
     (some ⟨.ret,[t1,(.int .i64 7),t3,t4,t5],r27.2.1,(r27.2.2+1),df⟩)
     (some ⟨.normal,[t1,t2,t3,t4,t5],r27.2.1,r27.2.2,df⟩)
    else none))):Option (Rt H)).bind fun r29 =>
 cond (Z0u r29.e .normal)
  ((Z00 P .add 3 (r29.v 4) (.int .i64 1)).bind fun t20 =>
  some ⟨.normal,[r29.v 0,r29.v 1,r29.v 2,r29.v 3,t20],r29.h,(r29.c+1),r29.df⟩)
  (cond (Z0u r29.e .ret)
   (some ⟨.ret,[r29.v 0,r29.v 1,r29.v 2,r29.v 3,r29.v 4],r29.h,r29.c,r29.df⟩)
   (none)))
 (some ⟨(.exit 2),[t1,t2,t3,t4,t5],h,(c+1),df⟩)
theorem Z4E (o:Orc H) (rd:Option Nat) (t1 t2 t3 t4 t5:Value) (h:H) (c:Nat) (df:List Nat):jx P o 83 rd Z3k (Z0i [1,2,3,4,5] [t1,t2,t3,t4,t5]) h c df (Klp [1,2,3,4,5])=Z1K o rd t1 t2 t3 t4 t5 h c df:=by kernel_rfl
noncomputable def Z1c (o:Orc H) (rd:Option Nat) (t1 t2 t3 t4:Value) (h:H) (c:Nat) (df:List Nat):Option (Rt H) :=
 (Z00 P .lss 3 t4 t3).bind fun t14 =>
 Z08 t14
 ((o (Z3i rd) [t1,t2,t3,t4,(.int .i64 0)] h (c+1+1) df).bind fun r0 =>
 cond (Z0u r0.e (.exit 2))
  ((Z00 P .add 3 (r0.v 3) (.int .i64 1)).bind fun t16 =>
  some ⟨.normal,[r0.v 0,r0.v 1,r0.v 2,t16],r0.h,(r0.c+1),r0.df⟩)
  (cond (Z0u r0.e .ret)
   (some ⟨.ret,[r0.v 0,r0.v 1,r0.v 2,r0.v 3],r0.h,r0.c,r0.df⟩)
   (none)))
 (some ⟨(.exit 0),[t1,t2,t3,t4],h,(c+1),df⟩)
theorem Z4F (o:Orc H) (rd:Option Nat) (t1 t2 t3 t4:Value) (h:H) (c:Nat) (df:List Nat):jx P o 83 rd Z3l (Z0i [1,2,3,4] [t1,t2,t3,t4]) h c df (Klp [1,2,3,4])=Z1c o rd t1 t2 t3 t4 h c df:=by kernel_rfl
noncomputable def Zhq (o:Orc H) (t0:Value) (h:H) (c:Nat):Option (Rt H) :=
 (bif (t0:Value).cells.toList.all Z06 then
 (Z02 (ptrTo (256*c+0)) 0).bind fun t7 =>
 (ld1 (newB h (256*c+0) (t0:Value).cells.toList) t7).bind fun t8 =>
 (Z2m t8).bind fun t9 =>
 (Z00 P .gtr 3 t9 (.int .i64 1000)).bind fun t11 =>
 Z08 t11
 (some ⟨.ret,[(.int .i64 7)],(newB h (256*c+0) (t0:Value).cells.toList),(c+1+1+1+1),[]⟩)
 ((o (Z3j none) [(ptrTo (256*c+0)),(.int .i64 0),t9,(.int .i64 0)] (newB h (256*c+0) (t0:Value).cells.toList) (c+1+1+1+1) []).bind fun r0 =>
 cond (Z0u r0.e (.exit 0))
  ((Z07 r0.h r0.df).bind fun h2 =>
  some ⟨.ret,[(.int .i64 0)],h2,(r0.c+1),[]⟩)
  (cond (Z0u r0.e .ret)
   ((Z07 r0.h r0.df).bind fun h1 =>
   some ⟨.ret,[r0.v 1],h1,r0.c,[]⟩)
   (none)))
 else none)
theorem Zeo (o:Orc H) (t0:Value) (h:H) (c:Nat):jx P o 83 none f14_c (Z0i (List.range 1) [t0]) h c [] (Kfn P Try.f14.results.toList)=Zhq o t0 h c:=by kernel_rfl
theorem f14_go {t0:Value} {h:FH} {c:Nat} {df:List Nat} {r:Rt FH} (e:Zhq G t0 h c=some r):G (.fn 14) [t0] h c df=some (gcR h c [] r):=Z0r (a:=ZcM) bk_14 rfl (fun args h c=>by cases args <;> rfl) rfl ((Zeo G t0 h c).trans e)
theorem Z9W {rd:Option Nat} {t1 t2 t3 t4 t5:Value} {h:FH} {c:Nat} {df:List Nat} {q r:Rt FH} (e:Z1K G rd t1 t2 t3 t4 t5 h c df=some q) (hq:q.e = .normal) (k:G (Z3i rd) q.vs (gcR h c df q).h (gcR h c df q).c q.df=some r):G (Z3i rd) [t1,t2,t3,t4,t5] h c df=some r:=Z0D ((Z4E G rd t1 t2 t3 t4 t5 h c df).trans e) hq k
theorem Z9U {rd:Option Nat} {t1 t2 t3 t4 t5:Value} {h:FH} {c:Nat} {df:List Nat} {q:Rt FH} (e:Z1K G rd t1 t2 t3 t4 t5 h c df=some q) (hq:q.e ≠ .normal):G (Z3i rd) [t1,t2,t3,t4,t5] h c df=some (gcR h c df q):=Z0E ((Z4E G rd t1 t2 t3 t4 t5 h c df).trans e) hq
theorem Z9X {rd:Option Nat} {t1 t2 t3 t4:Value} {h:FH} {c:Nat} {df:List Nat} {q r:Rt FH} (e:Z1c G rd t1 t2 t3 t4 h c df=some q) (hq:q.e = .normal) (k:G (Z3j rd) q.vs (gcR h c df q).h (gcR h c df q).c q.df=some r):G (Z3j rd) [t1,t2,t3,t4] h c df=some r:=Z0D ((Z4F G rd t1 t2 t3 t4 h c df).trans e) hq k
theorem Z9V {rd:Option Nat} {t1 t2 t3 t4:Value} {h:FH} {c:Nat} {df:List Nat} {q:Rt FH} (e:Z1c G rd t1 t2 t3 t4 h c df=some q) (hq:q.e ≠ .normal):G (Z3j rd) [t1,t2,t3,t4] h c df=some (gcR h c df q):=Z0E ((Z4F G rd t1 t2 t3 t4 h c df).trans e) hq
noncomputable def Z7n (o:Orc H) (rd:Option Nat) (t0 t1 t4 t5:Value) (h:H) (c:Nat) (df:List Nat):Option (Rt H) :=
 (Z2m t0).bind fun t13 =>
 (Z00 P .lss 3 t5 t13).bind fun t14 =>
 Z08 t14
 ((ixS 1 t0 t5).bind fun t19 =>
 (ld1 h t19).bind fun t20 =>
 (ixS 1 t1 t5).bind fun t23 =>
 (ld1 h t23).bind fun t24 =>
 (Z00 P .neq 3 t20 t24).bind fun t25 =>
 Z08 t25
  (some ⟨.ret,[t0,t1,(.bool false),t5],h,(c+1+1+1),df⟩)
  ((Z00 P .add 3 t5 (.int .i64 1)).bind fun t16 =>
  some ⟨.normal,[t0,t1,t4,t16],h,(c+1+1+1),df⟩))
 (some ⟨(.exit 0),[t0,t1,t4,t5],h,(c+1),df⟩)
theorem Zb4 (o:Orc H) (rd:Option Nat) (t0 t1 t4 t5:Value) (h:H) (c:Nat) (df:List Nat):jx P o 26 rd Z3h (Z0i [0,1,4,5] [t0,t1,t4,t5]) h c df (Klp [0,1,4,5])=Z7n o rd t0 t1 t4 t5 h c df:=by kernel_rfl
noncomputable def ZmV (o:Orc H) (t0 t1:Value) (h:H) (c:Nat):Option (Rt H) :=
 (Z2m t0).bind fun t7 =>
 (Z2m t1).bind fun t9 =>
 (Z00 P .neq 3 t7 t9).bind fun t10 =>
 Z08 t10
 (some ⟨.ret,[(.bool false)],h,(c+1+1+1),[]⟩)
 ((o (ZfT none) [t0,t1,(.bool false),(.int .i64 0)] h (c+1+1+1) []).bind fun r0 =>
 cond (Z0u r0.e (.exit 0))
  ((Z07 r0.h r0.df).bind fun h2 =>
  some ⟨.ret,[(.bool true)],h2,(r0.c+1),[]⟩)
  (cond (Z0u r0.e .ret)
   ((Z07 r0.h r0.df).bind fun h1 =>
   some ⟨.ret,[r0.v 2],h1,r0.c,[]⟩)
   (none)))
theorem ZkC (o:Orc H) (t0 t1:Value) (h:H) (c:Nat):jx P o 26 none f16_c (Z0i (List.range 2) [t0,t1]) h c [] (Kfn P Try.f16.results.toList)=ZmV o t0 t1 h c:=by kernel_rfl
noncomputable def Z48 (o:Orc H) (rd:Option Nat) (t0 t1 t4 t7 t8:Value) (h:H) (c:Nat) (df:List Nat):Option (Rt H) :=
 (Z00 P .lss 3 t8 (.int .i64 6)).bind fun t9 =>
 Z08 t9
 ((ixV 6 true 2 t7 t8).bind fun t11 =>
 (stN (newB h (256*(c+1)+2) [(.int .i64 0),(.int .i64 0)]) 2 (ptrTo (256*(c+1)+2)) t11).bind fun h1 =>
 (ldN h1 2 (ptrTo (256*(c+1)+2))).bind fun t12 =>
 (Z1d [(.int .i64 0),(.int .i64 0)] [(0,1,t0),(1,1,t1)]).bind fun t15 =>
 (Z00 P .eql 106 t12 t15).bind fun t16 =>
 (gd t16 false h1 (c+1+1+1) (ldN h1 2 (ptrTo (256*(c+1)+2)))).bind fun r2 =>
 (gd t16 false r2.2.1 r2.2.2 (some t1)).bind fun r3 =>
 (gd t16 false r3.2.1 r3.2.2 (some t0)).bind fun r4 =>
 (gd t16 false r4.2.1 r4.2.2 (Z1d [(.int .i64 0),(.int .i64 0)] [(0,1,r3.1),(1,1,r4.1)])).bind fun r5 =>
 (gd t16 false r5.2.1 r5.2.2 (Z00 P .eql 106 r2.1 r5.1)).bind fun r6 =>
 (Z0H t16 (.bool true) r6.1).bind fun t23 =>
 Z08 t23
  (some ⟨.ret,[t0,t1,t8,t7,t8],r6.2.1,(r6.2.2+1),df⟩)
  ((Z00 P .add 3 t8 (.int .i64 1)).bind fun t25 =>
  some ⟨.normal,[t0,t1,t4,t7,t25],r6.2.1,(r6.2.2+1),df⟩))
 (some ⟨(.exit 0),[t0,t1,t4,t7,t8],h,(c+1),df⟩)
theorem Z4D (o:Orc H) (rd:Option Nat) (t0 t1 t4 t7 t8:Value) (h:H) (c:Nat) (df:List Nat):jx P o 26 rd Z3g (Z0i [0,1,4,7,8] [t0,t1,t4,t7,t8]) h c df (Klp [0,1,4,7,8])=Z48 o rd t0 t1 t4 t7 t8 h c df:=by kernel_rfl
noncomputable def Zhp (o:Orc H) (t0 t1:Value) (h:H) (c:Nat):Option (Rt H) :=
 (callF o 54 [] h (c+1+1)).bind fun r0 =>
 (o (Z9T none) [t0,t1,(.int .i64 0),r0.1,(.int .i64 0)] r0.2.1 r0.2.2 []).bind fun r1 =>
 cond (Z0u r1.e (.exit 0))
 ((Z07 r1.h r1.df).bind fun h3 =>
 some ⟨.ret,[(.int .i64 (-1))],h3,(r1.c+1),[]⟩)
 (cond (Z0u r1.e .ret)
  ((Z07 r1.h r1.df).bind fun h2 =>
  some ⟨.ret,[r1.v 2],h2,r1.c,[]⟩)
  (none))
theorem Zen (o:Orc H) (t0 t1:Value) (h:H) (c:Nat):jx P o 26 none f27_c (Z0i (List.range 2) [t0,t1]) h c [] (Kfn P Try.f27.results.toList)=Zhp o t0 t1 h c:=by kernel_rfl
theorem f27_go {t0 t1:Value} {h:FH} {c:Nat} {df:List Nat} {r:Rt FH} (e:Zhp G t0 t1 h c=some r):G (.fn 27) [t0,t1] h c df=some (gcR h c [] r):=Z0r (a:=ZcL) bk_27 rfl (fun args h c=>by cases args <;> rfl) rfl ((Zen G t0 t1 h c).trans e)

variable {H:Type} [HeapC H]
noncomputable def Z5k (o:Orc H) (l:Nat) (t37 t6 t7 t8 t9:Value) (h:H) (c:Nat):Option (Rt H) :=
 (stN (newB h (256*c+0) [(.int .i64 0),(.int .i64 0),(.int .i64 0),(.int .i64 0),(.int .i64 0)]) 5 (ptrTo (256*c+0)) t37).bind fun h1 =>
 (Z1U h1 l).bind fun h2 =>
 (ld1 h2 t6).bind fun t38 =>
 (Z2m t38).bind fun t39 =>
 (Z00 P .gtr 3 t39 (.int .i64 0)).bind fun t40 =>
 (gd t40 true h2 (c+1+1) (ldN h2 5 (ptrTo (256*c+0)))).bind fun r3 =>
 (gd t40 true r3.2.1 r3.2.2 (ldN r3.2.1 5 t9)).bind fun r4 =>
 (gd t40 true r4.2.1 r4.2.2 (Z00 P .eql 67 r3.1 r4.1)).bind fun r5 =>
 (Z0H t40 r5.1 (.bool false)).bind fun t45 =>
 Z08 t45
 ((ld1 r5.2.1 t6).bind fun t46 =>
 (stN r5.2.1 1 t6 t46).bind fun h7 =>
 (stN h7 1 t7 (.bool true)).bind fun h9 =>
 (stN h9 1 t8 (.int .i64 0)).bind fun h11 =>
 (Z0t h11 l .done (some .ret)).bind fun h12 =>
 cond (List.isEmpty ([]:List Nat)) (some ⟨.ret,[.bool false],h12,(r5.2.2+1),[]⟩) none)
 ((ld1 r5.2.1 t6).bind fun t47 =>
 (ldN r5.2.1 5 (ptrTo (256*c+0))).bind fun t48 =>
 (Z8N [(.int .i64 0),(.int .i64 0),(.int .i64 0),(.int .i64 0),(.int .i64 0)] [(0,5,t48)]).bind fun r13 =>
 (Z5o (newB r5.2.1 (256*r5.2.2+2) r13) (256*r5.2.2+3) 5 40 t47 (.slice (some ⟨(256*r5.2.2+2),0,none⟩) 1 1)).bind fun r14 =>
 (stN r14.2 1 t6 r14.1).bind fun h16 =>
 (Z0t h16 l .ready none).bind fun h17 =>
 cond (List.isEmpty ([]:List Nat)) (some ⟨.ret,[.bool true],h17,(r5.2.2+1),[]⟩) none)
theorem Zb2 (o:Orc H) (l:Nat) (t37 t6 t7 t8 t9:Value) (h:H) (c:Nat):jx P o 66 (some l) Z28 (Z0i ([37]++[6,7,8,9]) [t37,t6,t7,t8,t9]) h c [] (Zi3 P o 66 l Z25)=Z5k o l t37 t6 t7 t8 t9 h c:=by kernel_rfl
noncomputable def Z5j (o:Orc H) (l:Nat) (t55 t11:Value) (h:H) (c:Nat):Option (Rt H) :=
 (stN (newB h (256*c+0) [(.int .i64 0),(.int .i64 0),(.int .i64 0),(.int .i64 0),(.int .i64 0)]) 5 (ptrTo (256*c+0)) t55).bind fun h1 =>
 (Z1U h1 l).bind fun h2 =>
 (ldN h2 5 (ptrTo (256*c+0))).bind fun t56 =>
 (stN h2 5 t11 t56).bind fun h4 =>
 (Z0t h4 l .ready none).bind fun h5 =>
 cond (List.isEmpty ([]:List Nat)) (some ⟨.ret,[.bool true],h5,(c+1+1),[]⟩) none
theorem Zb1 (o:Orc H) (l:Nat) (t55 t11:Value) (h:H) (c:Nat):jx P o 66 (some l) Z27 (Z0i ([55]++[11]) [t55,t11]) h c [] (Zi3 P o 66 l Z24)=Z5j o l t55 t11 h c:=by kernel_rfl
noncomputable def Z5i (o:Orc H) (l:Nat) (t60 t6:Value) (h:H) (c:Nat):Option (Rt H) :=
 (stN (newB h (256*c+0) [(.int .i64 0),(.int .i64 0),(.int .i64 0),(.int .i64 0),(.int .i64 0)]) 5 (ptrTo (256*c+0)) t60).bind fun h1 =>
 (Z1U h1 l).bind fun h2 =>
 (ld1 h2 t6).bind fun t61 =>
 (ldN h2 5 (ptrTo (256*c+0))).bind fun t62 =>
 (Z8N [(.int .i64 0),(.int .i64 0),(.int .i64 0),(.int .i64 0),(.int .i64 0)] [(0,5,t62)]).bind fun r3 =>
 (Z5o (newB h2 (256*(c+1)+2) r3) (256*(c+1)+3) 5 40 t61 (.slice (some ⟨(256*(c+1)+2),0,none⟩) 1 1)).bind fun r4 =>
 (stN r4.2 1 t6 r4.1).bind fun h6 =>
 (Z0t h6 l .ready none).bind fun h7 =>
 cond (List.isEmpty ([]:List Nat)) (some ⟨.ret,[.bool true],h7,(c+1+1),[]⟩) none
theorem Zb0 (o:Orc H) (l:Nat) (t60 t6:Value) (h:H) (c:Nat):jx P o 66 (some l) Z26 (Z0i ([60]++[6]) [t60,t6]) h c [] (Zi3 P o 66 l Z23)=Z5i o l t60 t6 h c:=by kernel_rfl
noncomputable def ZmU (o:Orc H) (t0 t1 t2:Value) (h:H) (c:Nat):Option (Rt H) :=
 (bif (t0:Value).cells.toList.all Z06 then
 (bif (t2:Value).cells.toList.all Z06 then
 (ldN (newB (newB (newB (newB (newB h (256*c+0) (t0:Value).cells.toList) (256*c+1) (t2:Value).cells.toList) (256*c+2) [(.slice none 0 0)]) (256*c+3) [(.bool false)]) (256*c+4) [(.int .i64 0)]) 1 (ptrTo (256*c+0))).bind fun t14 =>
 (callF o 38 [t14] (newB (newB (newB (newB (newB h (256*c+0) (t0:Value).cells.toList) (256*c+1) (t2:Value).cells.toList) (256*c+2) [(.slice none 0 0)]) (256*c+3) [(.bool false)]) (256*c+4) [(.int .i64 0)]) (c+1+1)).bind fun r0 =>
 (Z00 P .neq 33 r0.1 (.int .i64 0)).bind fun t16 =>
 Z08 t16
 ((stN r0.2.1 1 (ptrTo (256*c+2)) (.slice none 0 0)).bind fun h2 =>
 (stN h2 1 (ptrTo (256*c+3)) (.bool false)).bind fun h4 =>
 (stN h4 1 (ptrTo (256*c+4)) (.int .i64 7)).bind fun h6 =>
 (ld1 h6 (ptrTo (256*c+2))).bind fun v7 =>
 (ld1 h6 (ptrTo (256*c+3))).bind fun v8 =>
 (ld1 h6 (ptrTo (256*c+4))).bind fun v9 =>
 some ⟨.ret,[.tuple #[v7,v8,v9]],h6,(r0.2.2+1),[]⟩)
 ((Z00 P .lss 3 t1 (.int .i64 0)).bind fun t18 =>
 (gd t18 false r0.2.1 (r0.2.2+1) (some t1)).bind fun r10 =>
 (gd t18 false r10.2.1 r10.2.2 (Z02 (ptrTo (256*c+0)) 0)).bind fun r11 =>
 (gd t18 false r11.2.1 r11.2.2 (ld1 r11.2.1 r11.1)).bind fun r12 =>
 (gg t18 false r12.2.1 r12.2.2 (((Z2m r12.1).bind fun v=>some (v,r12.2.1)).bind fun r=>some (r.1,r.2,r12.2.2))).bind fun r13 =>
 (gd t18 false r13.2.1 r13.2.2 (Z00 P .geq 3 r10.1 r13.1)).bind fun r14 =>
 (Z0H t18 (.bool true) r14.1).bind fun t25 =>
 (gd t25 false r14.2.1 r14.2.2 (ldN r14.2.1 4 (ptrTo (256*c+1)))).bind fun r15 =>
 (gg t25 false r15.2.1 r15.2.2 (callF o 56 [r15.1] r15.2.1 r15.2.2)).bind fun r16 =>
 (gd t25 false r16.2.1 r16.2.2 (Z1V .not r16.1)).bind fun r17 =>
 (Z0H t25 (.bool true) r17.1).bind fun t30 =>
 Z08 t30
  ((stN r17.2.1 1 (ptrTo (256*c+2)) (.slice none 0 0)).bind fun h19 =>
  (stN h19 1 (ptrTo (256*c+3)) (.bool false)).bind fun h21 =>
  (stN h21 1 (ptrTo (256*c+4)) (.int .i64 1)).bind fun h23 =>
  (ld1 h23 (ptrTo (256*c+2))).bind fun v24 =>
  (ld1 h23 (ptrTo (256*c+3))).bind fun v25 =>
  (ld1 h23 (ptrTo (256*c+4))).bind fun v26 =>
  some ⟨.ret,[.tuple #[v24,v25,v26]],h23,(r17.2.2+1),[]⟩)
  ((ldN r17.2.1 4 (ptrTo (256*c+1))).bind fun t32 =>
  (Z1d [(.int .i64 0),(.int .i64 0),(.int .i64 0),(.int .i64 0),(.int .i64 0)] [(0,1,t1),(1,4,t32)]).bind fun t33 =>
  (stN (newB r17.2.1 (256*r17.2.2+3) [(.int .i64 0),(.int .i64 0),(.int .i64 0),(.int .i64 0),(.int .i64 0)]) 5 (ptrTo (256*r17.2.2+3)) t33).bind fun h28 =>
  (ldN h28 1 (ptrTo (256*c+0))).bind fun t34 =>
  (ldN h28 5 (ptrTo (256*r17.2.2+3))).bind fun t35 =>
  (callF o 57 [t34,t35,(.int .i64 2)] h28 (r17.2.2+1+1)).bind fun r29 =>
  (Z3t o 66 none [6,7,8,9] [] #[37] Z28 Z25 r29.1 [(ptrTo (256*c+2)),(ptrTo (256*c+3)),(ptrTo (256*c+4)),(ptrTo (256*r17.2.2+3))] r29.2.1 r29.2.2 []).bind fun q30 =>
  cond (Z0u q30.1 .normal)
   ((ldN q30.2.1 5 (ptrTo (256*r17.2.2+3))).bind fun t51 =>
   (stN (newB q30.2.1 (256*q30.2.2.1+1) [(.int .i64 0),(.int .i64 0),(.int .i64 0),(.int .i64 0),(.int .i64 0)]) 5 (ptrTo (256*q30.2.2.1+1)) t51).bind fun h36 =>
   (ldN h36 1 (ptrTo (256*c+0))).bind fun t52 =>
   (ldN h36 5 (ptrTo (256*r17.2.2+3))).bind fun t53 =>
   (callF o 57 [t52,t53,(.int .i64 3)] h36 (q30.2.2.1+1+1)).bind fun r37 =>
   (Z3t o 66 none [11] [] #[55] Z27 Z24 r37.1 [(ptrTo (256*q30.2.2.1+1))] r37.2.1 r37.2.2 q30.2.2.2).bind fun q38 =>
   cond (Z0u q38.1 .normal)
    ((stN q38.2.1 1 (ptrTo (256*c+2)) (.slice none 0 0)).bind fun h40 =>
    (ldN h40 1 (ptrTo (256*c+0))).bind fun t57 =>
    (ldN h40 5 (ptrTo (256*q30.2.2.1+1))).bind fun t58 =>
    (callF o 57 [t57,t58,(.int .i64 2)] h40 (q38.2.2.1+1+1)).bind fun r41 =>
    (Z3t o 66 none [6] [] #[60] Z26 Z23 r41.1 [(ptrTo (256*c+2))] r41.2.1 r41.2.2 q38.2.2.2).bind fun q42 =>
    cond (Z0u q42.1 .normal)
     ((ld1 q42.2.1 (ptrTo (256*c+2))).bind fun t65 =>
     (stN q42.2.1 1 (ptrTo (256*c+2)) t65).bind fun h44 =>
     (stN h44 1 (ptrTo (256*c+3)) (.bool false)).bind fun h46 =>
     (stN h46 1 (ptrTo (256*c+4)) (.int .i64 0)).bind fun h48 =>
     (Z07 h48 q42.2.2.2).bind fun h49 =>
     (ld1 h49 (ptrTo (256*c+2))).bind fun v50 =>
     (ld1 h49 (ptrTo (256*c+3))).bind fun v51 =>
     (ld1 h49 (ptrTo (256*c+4))).bind fun v52 =>
     some ⟨.ret,[.tuple #[v50,v51,v52]],h49,(q42.2.2.1+1),[]⟩)
     (none))
    (none))
   (cond (Z0u q30.1 .ret)
    ((Z07 q30.2.1 q30.2.2.2).bind fun h31 =>
    (ld1 h31 (ptrTo (256*c+2))).bind fun v32 =>
    (ld1 h31 (ptrTo (256*c+3))).bind fun v33 =>
    (ld1 h31 (ptrTo (256*c+4))).bind fun v34 =>
    some ⟨.ret,[.tuple #[v32,v33,v34]],h31,q30.2.2.1,[]⟩)
    (none))))
 else none)
 else none)
theorem ZkB (o:Orc H) (t0 t1 t2:Value) (h:H) (c:Nat):jx P o 66 none f29_c (Z0i (List.range 3) [t0,t1,t2]) h c [] (Kfn P Try.f29.results.toList)=ZmU o t0 t1 t2 h c:=by kernel_rfl
theorem f29_go {t0 t1 t2:Value} {h:FH} {c:Nat} {df:List Nat} {r:Rt FH} (e:ZmU G t0 t1 t2 h c=some r):G (.fn 29) [t0,t1,t2] h c df=some r:=Z0r (a:=ZkA) bk_29 rfl (fun args h c=>by cases args <;> rfl) rfl ((ZkB G t0 t1 t2 h c).trans e)
theorem ZfS {t37 t6 t7 t8 t9:Value} {l:Nat} {h:FH} {c:Nat} {df:List Nat} {r:Rt FH} (e:Z5k G l t37 t6 t7 t8 t9 h c=some r):G (.rnd 66 [6,7,8,9] [] [37] l Z28 Z25) [t37,t6,t7,t8,t9] h c df=some r:=Z7R ((Zb2 G l t37 t6 t7 t8 t9 h c).trans e)
theorem ZfR {t55 t11:Value} {l:Nat} {h:FH} {c:Nat} {df:List Nat} {r:Rt FH} (e:Z5j G l t55 t11 h c=some r):G (.rnd 66 [11] [] [55] l Z27 Z24) [t55,t11] h c df=some r:=Z7R ((Zb1 G l t55 t11 h c).trans e)
theorem ZfQ {t60 t6:Value} {l:Nat} {h:FH} {c:Nat} {df:List Nat} {r:Rt FH} (e:Z5i G l t60 t6 h c=some r):G (.rnd 66 [6] [] [60] l Z26 Z23) [t60,t6] h c df=some r:=Z7R ((Zb0 G l t60 t6 h c).trans e)
noncomputable def Z7m (o:Orc H) (rd:Option Nat) (t0 t1 t4 t12 t13:Value) (h:H) (c:Nat) (df:List Nat):Option (Rt H) :=
 (Z00 P .lss 3 t13 t12).bind fun t14 =>
 Z08 t14
 ((ixS 5 t0 t13).bind fun t18 =>
 (ldN h 5 t18).bind fun t19 =>
 (ixS 5 t1 t13).bind fun t22 =>
 (ldN h 5 t22).bind fun t23 =>
 (Z00 P .neq 67 t19 t23).bind fun t24 =>
 Z08 t24
  (some ⟨.ret,[t0,t1,(.bool false),t12,t13],h,(c+1+1+1+1),df⟩)
  ((Z00 P .add 3 t13 (.int .i64 1)).bind fun t25 =>
  some ⟨.normal,[t0,t1,t4,t12,t25],h,(c+1+1+1+1),df⟩))
 (some ⟨(.exit 0),[t0,t1,t4,t12,t13],h,(c+1),df⟩)
theorem Z6h (o:Orc H) (rd:Option Nat) (t0 t1 t4 t12 t13:Value) (h:H) (c:Nat) (df:List Nat):jx P o 26 rd Z7l (Z0i [0,1,4,12,13] [t0,t1,t4,t12,t13]) h c df (Klp [0,1,4,12,13])=Z7m o rd t0 t1 t4 t12 t13 h c df:=by kernel_rfl
noncomputable def ZmT (o:Orc H) (t0 t1:Value) (h:H) (c:Nat):Option (Rt H) :=
 (Z2m t0).bind fun t7 =>
 (Z2m t1).bind fun t9 =>
 (Z00 P .neq 3 t7 t9).bind fun t10 =>
 Z08 t10
 (some ⟨.ret,[(.bool false)],h,(c+1+1+1),[]⟩)
 ((Z2m t0).bind fun t12 =>
 (o (Z9S none) [t0,t1,(.bool false),t12,(.int .i64 0)] h (c+1+1+1) []).bind fun r0 =>
 cond (Z0u r0.e (.exit 0))
  ((Z07 r0.h r0.df).bind fun h2 =>
  some ⟨.ret,[(.bool true)],h2,(r0.c+1),[]⟩)
  (cond (Z0u r0.e .ret)
   ((Z07 r0.h r0.df).bind fun h1 =>
   some ⟨.ret,[r0.v 2],h1,r0.c,[]⟩)
   (none)))
theorem Zkz (o:Orc H) (t0 t1:Value) (h:H) (c:Nat):jx P o 26 none f32_c (Z0i (List.range 2) [t0,t1]) h c [] (Kfn P Try.f32.results.toList)=ZmT o t0 t1 h c:=by kernel_rfl
theorem f32_go {t0 t1:Value} {h:FH} {c:Nat} {df:List Nat} {r:Rt FH} (e:ZmT G t0 t1 h c=some r):G (.fn 32) [t0,t1] h c df=some (gcR h c [] r):=Z0r (a:=Zky) bk_32 rfl (fun args h c=>by cases args <;> rfl) rfl ((Zkz G t0 t1 h c).trans e)
noncomputable def Z5h (o:Orc H) (rd:Option Nat) (t3 t6 t7 t8 t10 t11:Value) (h:H) (c:Nat) (df:List Nat):Option (Rt H) :=
 (ldN h 1 t3).bind fun t44 =>
 (Z2m t11).bind fun t47 =>
 (Z00 P .sub 3 t47 (.int .i64 1)).bind fun t48 =>
 (ixS 5 t11 t48).bind fun t49 =>
 (ldN h 5 t49).bind fun t50 =>
 (callF o 58 [t44,t50,(.int .i64 2)] h (c+1)).bind fun r0 =>
 (Z1m r0.1 0).bind fun t52 =>
 (Z1m r0.1 1).bind fun t53 =>
 (stN (newB r0.2.1 (256*c+11) [(.int .i64 0),(.int .i64 0),(.int .i64 0),(.int .i64 0),(.int .i64 0)]) 5 (ptrTo (256*c+11)) t52).bind fun h2 =>
 (Z1V .not t53).bind fun t55 =>
 Z08 t55
 (some ⟨(.exit 0),[t3,t6,t7,t8,t10,t11],h2,(r0.2.2+1),df⟩)
 ((ldN h2 5 (ptrTo (256*c+11))).bind fun t56 =>
 (ldN h2 5 t10).bind fun t57 =>
 (Z00 P .eql 67 t56 t57).bind fun t58 =>
 Z08 t58
  (some ⟨.ret,[t3,t11,(.bool true),(.int .i64 0),t10,t11],h2,(r0.2.2+1+1+1),df⟩)
  ((ldN h2 5 (ptrTo (256*c+11))).bind fun t61 =>
  (Z8N [(.int .i64 0),(.int .i64 0),(.int .i64 0),(.int .i64 0),(.int .i64 0)] [(0,5,t61)]).bind fun r6 =>
  (Z5o (newB h2 (256*(r0.2.2+1+1)+2) r6) (256*(r0.2.2+1+1)+3) 5 40 t11 (.slice (some ⟨(256*(r0.2.2+1+1)+2),0,none⟩) 1 1)).bind fun r7 =>
  some ⟨.normal,[t3,t6,t7,t8,t10,r7.1],r7.2,(r0.2.2+1+1+1),df⟩))
theorem Z4C (o:Orc H) (rd:Option Nat) (t3 t6 t7 t8 t10 t11:Value) (h:H) (c:Nat) (df:List Nat):jx P o 101 rd Z7i (Z0i [3,6,7,8,10,11] [t3,t6,t7,t8,t10,t11]) h c df (Klp [3,6,7,8,10,11])=Z5h o rd t3 t6 t7 t8 t10 t11 h c df:=by kernel_rfl
noncomputable def Z7k (o:Orc H) (rd:Option Nat) (t3 t14 t15 t16:Value) (h:H) (c:Nat) (df:List Nat):Option (Rt H) :=
 Z08 t16
 ((ldN h 5 t15).bind fun t78 =>
 (stN h 5 t14 t78).bind fun h1 =>
 (ldN h1 5 t15).bind fun t79 =>
 (stN (newB h1 (256*(c+1+1+1)+0) [(.int .i64 0),(.int .i64 0),(.int .i64 0),(.int .i64 0),(.int .i64 0)]) 5 (ptrTo (256*(c+1+1+1)+0)) t79).bind fun h4 =>
 (ldN h4 1 t3).bind fun t73 =>
 (ldN h4 5 t14).bind fun t74 =>
 (callF o 58 [t73,t74,(.int .i64 3)] h4 (c+1+1+1+1+1)).bind fun r5 =>
 (Z1m r5.1 0).bind fun t76 =>
 (Z1m r5.1 1).bind fun t77 =>
 (stN r5.2.1 5 (ptrTo (256*(c+1+1+1)+0)) t76).bind fun h7 =>
 some ⟨.normal,[t3,t14,(ptrTo (256*(c+1+1+1)+0)),t77],h7,r5.2.2,df⟩)
 (some ⟨(.exit 2),[t3,t14,t15,t16],h,(c+1),df⟩)
theorem Z6g (o:Orc H) (rd:Option Nat) (t3 t14 t15 t16:Value) (h:H) (c:Nat) (df:List Nat):jx P o 101 rd Z7h (Z0i [3,14,15,16] [t3,t14,t15,t16]) h c df (Klp [3,14,15,16])=Z7k o rd t3 t14 t15 t16 h c df:=by kernel_rfl
noncomputable def Z7j (o:Orc H) (rd:Option Nat) (t3 t11 t17 t18:Value) (h:H) (c:Nat) (df:List Nat):Option (Rt H) :=
 Z08 t18
 ((ldN h 5 t17).bind fun t96 =>
 (Z8N [(.int .i64 0),(.int .i64 0),(.int .i64 0),(.int .i64 0),(.int .i64 0)] [(0,5,t96)]).bind fun r0 =>
 (Z5o (newB h (256*(c+1)+2) r0) (256*(c+1)+3) 5 40 t11 (.slice (some ⟨(256*(c+1)+2),0,none⟩) 1 1)).bind fun r1 =>
 (ldN r1.2 5 t17).bind fun t99 =>
 (stN (newB r1.2 (256*(c+1+1+1)+0) [(.int .i64 0),(.int .i64 0),(.int .i64 0),(.int .i64 0),(.int .i64 0)]) 5 (ptrTo (256*(c+1+1+1)+0)) t99).bind fun h5 =>
 (ldN h5 1 t3).bind fun t90 =>
 (ldN h5 5 (ptrTo (256*(c+1+1+1)+0))).bind fun t91 =>
 (callF o 58 [t90,t91,(.int .i64 2)] h5 (c+1+1+1+1+1)).bind fun r6 =>
 (Z1m r6.1 0).bind fun t93 =>
 (Z1m r6.1 1).bind fun t94 =>
 (stN r6.2.1 5 (ptrTo (256*(c+1+1+1)+0)) t93).bind fun h8 =>
 some ⟨.normal,[t3,r1.1,(ptrTo (256*(c+1+1+1)+0)),t94],h8,r6.2.2,df⟩)
 (some ⟨(.exit 4),[t3,t11,t17,t18],h,(c+1),df⟩)
theorem Z6f (o:Orc H) (rd:Option Nat) (t3 t11 t17 t18:Value) (h:H) (c:Nat) (df:List Nat):jx P o 101 rd Z7g (Z0i [3,11,17,18] [t3,t11,t17,t18]) h c df (Klp [3,11,17,18])=Z7j o rd t3 t11 t17 t18 h c df:=by kernel_rfl
noncomputable def ZmS (o:Orc H) (t0 t1 t2:Value) (h:H) (c:Nat):Option (Rt H) :=
 (bif (t0:Value).cells.toList.all Z06 then
 (bif (t2:Value).cells.toList.all Z06 then
 (ldN (newB (newB h (256*c+0) (t0:Value).cells.toList) (256*c+1) (t2:Value).cells.toList) 1 (ptrTo (256*c+0))).bind fun t19 =>
 (callF o 14 [t19] (newB (newB h (256*c+0) (t0:Value).cells.toList) (256*c+1) (t2:Value).cells.toList) (c+1+1)).bind fun r0 =>
 (Z00 P .neq 33 r0.1 (.int .i64 0)).bind fun t22 =>
 Z08 t22
 (some ⟨.ret,[.tuple #[(.slice none 0 0),(.bool false),r0.1]],r0.2.1,(r0.2.2+1+1),[]⟩)
 ((Z00 P .lss 3 t1 (.int .i64 0)).bind fun t25 =>
 (gd t25 false r0.2.1 (r0.2.2+1+1) (some t1)).bind fun r1 =>
 (gd t25 false r1.2.1 r1.2.2 (Z02 (ptrTo (256*c+0)) 0)).bind fun r2 =>
 (gd t25 false r2.2.1 r2.2.2 (ld1 r2.2.1 r2.1)).bind fun r3 =>
 (gg t25 false r3.2.1 r3.2.2 (((Z2m r3.1).bind fun v=>some (v,r3.2.1)).bind fun r=>some (r.1,r.2,r3.2.2))).bind fun r4 =>
 (gd t25 false r4.2.1 r4.2.2 (Z00 P .geq 3 r1.1 r4.1)).bind fun r5 =>
 (Z0H t25 (.bool true) r5.1).bind fun t32 =>
 (gd t32 false r5.2.1 r5.2.2 (ldN r5.2.1 4 (ptrTo (256*c+1)))).bind fun r6 =>
 (gg t32 false r6.2.1 r6.2.2 (callF o 44 [r6.1] r6.2.1 r6.2.2)).bind fun r7 =>
 (gd t32 false r7.2.1 r7.2.2 (Z1V .not r7.1)).bind fun r8 =>
 (Z0H t32 (.bool true) r8.1).bind fun t37 =>
 Z08 t37
  (some ⟨.ret,[.tuple #[(.slice none 0 0),(.bool false),(.int .i64 1)]],r8.2.1,(r8.2.2+1),[]⟩)
  ((ldN r8.2.1 4 (ptrTo (256*c+1))).bind fun t39 =>
  (Z1d [(.int .i64 0),(.int .i64 0),(.int .i64 0),(.int .i64 0),(.int .i64 0)] [(0,1,t1),(1,4,t39)]).bind fun t40 =>
  (stN (newB r8.2.1 (256*r8.2.2+3) [(.int .i64 0),(.int .i64 0),(.int .i64 0),(.int .i64 0),(.int .i64 0)]) 5 (ptrTo (256*r8.2.2+3)) t40).bind fun h10 =>
  (ldN h10 5 (ptrTo (256*r8.2.2+3))).bind fun t41 =>
  (Z8N [(.int .i64 0),(.int .i64 0),(.int .i64 0),(.int .i64 0),(.int .i64 0)] [(0,5,t41)]).bind fun r11 =>
  (o (Z9R none) [(ptrTo (256*c+0)),(.slice none 0 0),(.bool false),(.int .i64 0),(ptrTo (256*r8.2.2+3)),(.slice (some ⟨(256*(r8.2.2+1)+1),0,none⟩) 1 1)] (newB h10 (256*(r8.2.2+1)+1) r11) (r8.2.2+1+1) []).bind fun r12 =>
  cond (Z0u r12.e (.exit 0))
   ((ldN r12.h 5 (r12.v 4)).bind fun t64 =>
   (stN (newB r12.h (256*r12.c+1) [(.int .i64 0),(.int .i64 0),(.int .i64 0),(.int .i64 0),(.int .i64 0)]) 5 (ptrTo (256*r12.c+1)) t64).bind fun h15 =>
   (ldN h15 1 (r12.v 0)).bind fun t66 =>
   (ldN h15 5 (ptrTo (256*r12.c+1))).bind fun t67 =>
   (callF o 58 [t66,t67,(.int .i64 3)] h15 (r12.c+1+1)).bind fun r16 =>
   (Z1m r16.1 0).bind fun t69 =>
   (Z1m r16.1 1).bind fun t70 =>
   (stN (newB r16.2.1 (256*(r12.c+1)+6) [(.int .i64 0),(.int .i64 0),(.int .i64 0),(.int .i64 0),(.int .i64 0)]) 5 (ptrTo (256*(r12.c+1)+6)) t69).bind fun h18 =>
   (o (Z9Q none) [r12.v 0,(ptrTo (256*r12.c+1)),(ptrTo (256*(r12.c+1)+6)),t70] h18 r16.2.2 r12.df).bind fun r19 =>
   cond (Z0u r19.e (.exit 2))
    ((ldN r19.h 5 (r19.v 1)).bind fun t80 =>
    (Z8N [(.int .i64 0),(.int .i64 0),(.int .i64 0),(.int .i64 0),(.int .i64 0)] [(0,5,t80)]).bind fun r20 =>
    (ldN (newB r19.h (256*r19.c+1) r20) 1 (r19.v 0)).bind fun t83 =>
    (ldN (newB r19.h (256*r19.c+1) r20) 5 (r19.v 1)).bind fun t84 =>
    (callF o 58 [t83,t84,(.int .i64 2)] (newB r19.h (256*r19.c+1) r20) (r19.c+1+1)).bind fun r21 =>
    (Z1m r21.1 0).bind fun t86 =>
    (Z1m r21.1 1).bind fun t87 =>
    (stN (newB r21.2.1 (256*(r19.c+1)+6) [(.int .i64 0),(.int .i64 0),(.int .i64 0),(.int .i64 0),(.int .i64 0)]) 5 (ptrTo (256*(r19.c+1)+6)) t86).bind fun h23 =>
    (o (Z9P none) [r19.v 0,(.slice (some ⟨(256*r19.c+1),0,none⟩) 1 1),(ptrTo (256*(r19.c+1)+6)),t87] h23 r21.2.2 r19.df).bind fun r24 =>
    cond (Z0u r24.e (.exit 4))
     ((Z07 r24.h r24.df).bind fun h25 =>
     some ⟨.ret,[.tuple #[r24.v 1,(.bool false),(.int .i64 0)]],h25,(r24.c+1),[]⟩)
     (none))
    (none))
   (cond (Z0u r12.e .ret)
    ((Z07 r12.h r12.df).bind fun h13 =>
    some ⟨.ret,[.tuple #[r12.v 1,r12.v 2,r12.v 3]],h13,r12.c,[]⟩)
    (none))))
 else none)
 else none)
theorem Zkx (o:Orc H) (t0 t1 t2:Value) (h:H) (c:Nat):jx P o 101 none f33_c (Z0i (List.range 3) [t0,t1,t2]) h c [] (Kfn P Try.f33.results.toList)=ZmS o t0 t1 t2 h c:=by kernel_rfl
theorem f33_go {t0 t1 t2:Value} {h:FH} {c:Nat} {df:List Nat} {r:Rt FH} (e:ZmS G t0 t1 t2 h c=some r):G (.fn 33) [t0,t1,t2] h c df=some r:=Z0r (a:=Zkw) bk_33 rfl (fun args h c=>by cases args <;> rfl) rfl ((Zkx G t0 t1 t2 h c).trans e)
noncomputable def Z5g (o:Orc H) (rd:Option Nat) (t1 t2 t9 t10 t37 t38 t39:Value) (h:H) (c:Nat) (df:List Nat):Option (Rt H) :=
 (Z00 P .lss 3 t39 t38).bind fun t40 =>
 Z08 t40
 ((ixS 1 t37 t39).bind fun t42 =>
 (ld1 h t42).bind fun t43 =>
 (Z00 P .eql 3 t43 t1).bind fun t46 =>
 (Z08 t46
  ((Z2m t10).bind fun t50 =>
  (ixS 1 t9 t39).bind fun t51 =>
  (stN h 1 t51 t50).bind fun h1 =>
  (Z00 P .quo 3 t39 (.int .i64 4)).bind fun t54 =>
  (Z00 P .rem 3 t39 (.int .i64 4)).bind fun t56 =>
  (Z1d [(.int .i64 0),(.int .i64 0),(.int .i64 0),(.int .i64 0),(.int .i64 0),(.int .i64 0)] [(0,1,t54),(1,1,t56)]).bind fun t57 =>
  (Z8N [(.int .i64 0),(.int .i64 0),(.int .i64 0),(.int .i64 0),(.int .i64 0),(.int .i64 0)] [(0,6,t57)]).bind fun r2 =>
  (Z5o (newB h1 (256*(c+1+1+1+1)+6) r2) (256*(c+1+1+1+1)+7) 6 48 t10 (.slice (some ⟨(256*(c+1+1+1+1)+6),0,none⟩) 1 1)).bind fun r3 =>
  some ⟨.normal,[t1,t2,t9,r3.1,t37,t38,t39],r3.2,(c+1+1+1+1+1),df⟩)
  (some ⟨.normal,[t1,t2,t9,t10,t37,t38,t39],h,(c+1+1+1),df⟩):Option (Rt H)).bind fun r5 =>
 cond (Z0u r5.e .normal)
  ((Z00 P .add 3 (r5.v 6) (.int .i64 1)).bind fun t60 =>
  some ⟨.normal,[r5.v 0,r5.v 1,r5.v 2,r5.v 3,r5.v 4,r5.v 5,t60],r5.h,(r5.c+1),r5.df⟩)
  (none))
 (some ⟨(.exit 0),[t1,t2,t9,t10,t37,t38,t39],h,(c+1),df⟩)
theorem Z4B (o:Orc H) (rd:Option Nat) (t1 t2 t9 t10 t37 t38 t39:Value) (h:H) (c:Nat) (df:List Nat):jx P o 112 rd Z7e (Z0i [1,2,9,10,37,38,39] [t1,t2,t9,t10,t37,t38,t39]) h c df (Klp [1,2,9,10,37,38,39])=Z5g o rd t1 t2 t9 t10 t37 t38 t39 h c df:=by kernel_rfl
noncomputable def Z47 (o:Orc H) (rd:Option Nat) (t2 t9 t10 t13 t14 t61 t62 t63 t73 t74:Value) (h:H) (c:Nat) (df:List Nat):Option (Rt H) :=
 (Z00 P .lss 3 t74 (.int .i64 4)).bind fun t75 =>
 Z08 t75
 ((ixV 4 true 5 t73 t74).bind fun t77 =>
 (stN (newB h (256*(c+1)+2) [(.int .i64 0),(.int .i64 0),(.int .i64 0),(.int .i64 0),(.int .i64 0)]) 5 (ptrTo (256*(c+1)+2)) t77).bind fun h1 =>
 (Z02 t14 2).bind fun t79 =>
 (ixA 4 1 t79 t74).bind fun t80 =>
 (stN h1 1 t80 (.int .i64 (-1))).bind fun h3 =>
 (Z02 t14 1).bind fun t82 =>
 (ld1 h3 t82).bind fun t83 =>
 (Z00 P .neq 3 t74 t83).bind fun t84 =>
 (gd t84 true h3 (c+1+1+1+1) (Z02 (ptrTo (256*(c+1)+2)) 0)).bind fun r4 =>
 (gd t84 true r4.2.1 r4.2.2 (ld1 r4.2.1 r4.1)).bind fun r5 =>
 (gd t84 true r5.2.1 r5.2.2 (Z00 P .geq 3 r5.1 (.int .i64 0))).bind fun r6 =>
 (Z0H t84 r6.1 (.bool false)).bind fun t89 =>
 (Z08 t89
  ((Z02 (ptrTo (256*(c+1)+2)) 0).bind fun t92 =>
  (ld1 r6.2.1 t92).bind fun t93 =>
  (Z00 P .mul 3 (.int .i64 4) t93).bind fun t94 =>
  (Z02 t14 1).bind fun t95 =>
  (ld1 r6.2.1 t95).bind fun t96 =>
  (Z02 (ptrTo (256*(c+1)+2)) 1).bind fun t97 =>
  (ixA 4 1 t97 t96).bind fun t98 =>
  (ld1 r6.2.1 t98).bind fun t99 =>
  (Z00 P .add 3 t94 t99).bind fun t100 =>
  (ixS 1 t9 t100).bind fun t101 =>
  (ld1 r6.2.1 t101).bind fun t102 =>
  (Z02 t14 2).bind fun t103 =>
  (ixA 4 1 t103 t74).bind fun t104 =>
  (stN r6.2.1 1 t104 t102).bind fun h8 =>
  some ⟨.normal,[t2,t9,t10,t13,t14,t61,t62,t63,t73,t74],h8,(r6.2.2+1),df⟩)
  (some ⟨.normal,[t2,t9,t10,t13,t14,t61,t62,t63,t73,t74],r6.2.1,r6.2.2,df⟩):Option (Rt H)).bind fun r9 =>
 cond (Z0u r9.e .normal)
  ((Z00 P .add 3 (r9.v 9) (.int .i64 1)).bind fun t105 =>
  some ⟨.normal,[r9.v 0,r9.v 1,r9.v 2,r9.v 3,r9.v 4,r9.v 5,r9.v 6,r9.v 7,r9.v 8,t105],r9.h,(r9.c+1),r9.df⟩)
  (none))
 (some ⟨(.exit 4),[t2,t9,t10,t13,t14,t61,t62,t63,t73,t74],h,(c+1),df⟩)
theorem Z2x (o:Orc H) (rd:Option Nat) (t2 t9 t10 t13 t14 t61 t62 t63 t73 t74:Value) (h:H) (c:Nat) (df:List Nat):jx P o 112 rd Z7c (Z0i [2,9,10,13,14,61,62,63,73,74] [t2,t9,t10,t13,t14,t61,t62,t63,t73,t74]) h c df (Klp [2,9,10,13,14,61,62,63,73,74])=Z47 o rd t2 t9 t10 t13 t14 t61 t62 t63 t73 t74 h c df:=by kernel_rfl
noncomputable def Z7f (o:Orc H) (rd:Option Nat) (t2 t9 t10 t61 t62 t63:Value) (h:H) (c:Nat) (df:List Nat):Option (Rt H) :=
 (Z00 P .lss 3 t63 t62).bind fun t64 =>
 Z08 t64
 ((ixS 6 t61 t63).bind fun t66 =>
 (ldN h 6 t66).bind fun t67 =>
 (stN (newB h (256*(c+1)+3) [(.int .i64 0),(.int .i64 0),(.int .i64 0),(.int .i64 0),(.int .i64 0),(.int .i64 0)]) 6 (ptrTo (256*(c+1)+3)) t67).bind fun h1 =>
 (Z02 t2 0).bind fun t68 =>
 (ld1 h1 t68).bind fun t69 =>
 (Z02 (ptrTo (256*(c+1)+3)) 0).bind fun t70 =>
 (ld1 h1 t70).bind fun t71 =>
 (ixS 20 t69 t71).bind fun t72 =>
 (ldN h1 20 t72).bind fun t73 =>
 (o (Z9M rd) [t2,t9,t10,t63,(ptrTo (256*(c+1)+3)),t61,t62,t63,t73,(.int .i64 0)] h1 (c+1+1+1) df).bind fun r2 =>
 cond (Z0u r2.e (.exit 4))
  ((ldN r2.h 6 (r2.v 4)).bind fun t108 =>
  (ixS 6 (r2.v 2) (r2.v 3)).bind fun t109 =>
  (stN r2.h 6 t109 t108).bind fun h4 =>
  (Z00 P .add 3 (r2.v 7) (.int .i64 1)).bind fun t110 =>
  some ⟨.normal,[r2.v 0,r2.v 1,r2.v 2,r2.v 5,r2.v 6,t110],h4,(r2.c+1+1),r2.df⟩)
  (none))
 (some ⟨(.exit 2),[t2,t9,t10,t61,t62,t63],h,(c+1),df⟩)
theorem Z6e (o:Orc H) (rd:Option Nat) (t2 t9 t10 t61 t62 t63:Value) (h:H) (c:Nat) (df:List Nat):jx P o 112 rd Z7d (Z0i [2,9,10,61,62,63] [t2,t9,t10,t61,t62,t63]) h c df (Klp [2,9,10,61,62,63])=Z7f o rd t2 t9 t10 t61 t62 t63 h c df:=by kernel_rfl
noncomputable def ZmR (o:Orc H) (t0 t1:Value) (h:H) (c:Nat):Option (Rt H) :=
 (bif (t0:Value).cells.toList.all Z06 then
 (ldN (newB h (256*c+0) (t0:Value).cells.toList) 1 (ptrTo (256*c+0))).bind fun t17 =>
 (callF o 14 [t17] (newB h (256*c+0) (t0:Value).cells.toList) (c+1+1)).bind fun r0 =>
 (Z00 P .neq 33 r0.1 (.int .i64 0)).bind fun t20 =>
 Z08 t20
 (some ⟨.ret,[.tuple #[(.slice none 0 0),r0.1]],r0.2.1,(r0.2.2+1+1),[]⟩)
 ((ldN r0.2.1 1 (ptrTo (256*c+0))).bind fun t23 =>
 (callF o 59 [t23] r0.2.1 (r0.2.2+1+1)).bind fun r1 =>
 (Z1m r1.1 0).bind fun t25 =>
 (Z1m r1.1 1).bind fun t26 =>
 (Z00 P .lss 3 t1 (.int .i64 0)).bind fun t28 =>
 (gd t28 false r1.2.1 (r1.2.2+1) (some t1)).bind fun r2 =>
 (gd t28 false r2.2.1 r2.2.2 (some t26)).bind fun r3 =>
 (gd t28 false r3.2.1 r3.2.2 (Z00 P .geq 3 r2.1 r3.1)).bind fun r4 =>
 (Z0H t28 (.bool true) r4.1).bind fun t33 =>
 Z08 t33
  (some ⟨.ret,[.tuple #[(.slice none 0 0),(.int .i64 3)]],r4.2.1,(r4.2.2+1),[]⟩)
  ((Z2m t25).bind fun t35 =>
  (mkS 1 8 [(.int .i64 0)] t35 t35).bind fun r5 =>
  (Z2m t25).bind fun t38 =>
  (o (Z9O none) [t1,(ptrTo (256*c+0)),(.slice (some ⟨(256*r4.2.2+2),0,none⟩) r5.2.1 r5.2.2),(.slice none 0 0),t25,t38,(.int .i64 0)] (newB r4.2.1 (256*r4.2.2+2) r5.1) (r4.2.2+1+1+1) []).bind fun r6 =>
  cond (Z0u r6.e (.exit 0))
   ((Z2m (r6.v 3)).bind fun t62 =>
   (o (Z9N none) [r6.v 1,r6.v 2,r6.v 3,r6.v 3,t62,(.int .i64 0)] r6.h (r6.c+1) r6.df).bind fun r7 =>
   cond (Z0u r7.e (.exit 2))
    ((Z07 r7.h r7.df).bind fun h8 =>
    some ⟨.ret,[.tuple #[r7.v 2,(.int .i64 0)]],h8,(r7.c+1),[]⟩)
    (none))
   (none)))
 else none)
theorem Zkv (o:Orc H) (t0 t1:Value) (h:H) (c:Nat):jx P o 112 none f34_c (Z0i (List.range 2) [t0,t1]) h c [] (Kfn P Try.f34.results.toList)=ZmR o t0 t1 h c:=by kernel_rfl
theorem f34_go {t0 t1:Value} {h:FH} {c:Nat} {df:List Nat} {r:Rt FH} (e:ZmR G t0 t1 h c=some r):G (.fn 34) [t0,t1] h c df=some r:=Z0r (a:=Zku) bk_34 rfl (fun args h c=>by cases args <;> rfl) rfl ((Zkv G t0 t1 h c).trans e)

variable {H:Type} [HeapC H]
noncomputable def Z7b (o:Orc H) (rd:Option Nat) (t9 t10 t40 t41 t42:Value) (h:H) (c:Nat) (df:List Nat):Option (Rt H) :=
 (Z00 P .lss 3 t42 t41).bind fun t43 =>
 Z08 t43
 ((ixS 2 t40 t42).bind fun t44 =>
 (ldN h 2 t44).bind fun t45 =>
 (stN (newB h (256*(c+1)+2) [(.int .i64 0),(.int .i64 0)]) 2 (ptrTo (256*(c+1)+2)) t45).bind fun h1 =>
 (ixA 2 1 (ptrTo (256*(c+1)+2)) (.int .i64 0)).bind fun t47 =>
 (ld1 h1 t47).bind fun t48 =>
 (ixA 2 1 (ptrTo (256*(c+1)+2)) (.int .i64 1)).bind fun t49 =>
 (ld1 h1 t49).bind fun t50 =>
 (ldN h1 2 (ptrTo (256*(c+1)+2))).bind fun t52 =>
 (callF o 61 [t9,t52] h1 (c+1+1+1)).bind fun r2 =>
 (Z1d [(.int .i64 0),(.int .i64 0),(.int .i64 0),(.int .i64 0),(.int .i64 0),(.int .i64 0)] [(0,1,t48),(1,1,t50),(2,4,r2.1)]).bind fun t54 =>
 (Z8N [(.int .i64 0),(.int .i64 0),(.int .i64 0),(.int .i64 0),(.int .i64 0),(.int .i64 0)] [(0,6,t54)]).bind fun r3 =>
 (Z5o (newB r2.2.1 (256*(c+1+1)+9) r3) (256*(c+1+1)+10) 6 48 t10 (.slice (some ⟨(256*(c+1+1)+9),0,none⟩) 1 1)).bind fun r4 =>
 (bif (Z19 (Z2g t47) h1 r2.2.1 && (Z19 (Z2g t49) h1 r2.2.1 && true)) then
 (Z00 P .add 3 t42 (.int .i64 1)).bind fun t57 =>
 some ⟨.normal,[t9,r4.1,t40,t41,t57],r4.2,(r2.2.2+1),df⟩
 else none))
 (some ⟨(.exit 0),[t9,t10,t40,t41,t42],h,(c+1),df⟩)
theorem Z6d (o:Orc H) (rd:Option Nat) (t9 t10 t40 t41 t42:Value) (h:H) (c:Nat) (df:List Nat):jx P o 59 rd Z7a (Z0i [9,10,40,41,42] [t9,t10,t40,t41,t42]) h c df (Klp [9,10,40,41,42])=Z7b o rd t9 t10 t40 t41 t42 h c df:=by kernel_rfl
noncomputable def ZmQ (o:Orc H) (t0 t1:Value) (h:H) (c:Nat):Option (Rt H) :=
 (bif (t0:Value).cells.toList.all Z06 then
 (ldN (newB h (256*c+0) (t0:Value).cells.toList) 1 (ptrTo (256*c+0))).bind fun t13 =>
 (callF o 38 [t13] (newB h (256*c+0) (t0:Value).cells.toList) (c+1+1)).bind fun r0 =>
 (Z00 P .neq 33 r0.1 (.int .i64 0)).bind fun t15 =>
 Z08 t15
 (some ⟨.ret,[.tuple #[(.slice none 0 0),(.int .i64 7)]],r0.2.1,(r0.2.2+1),[]⟩)
 ((ldN r0.2.1 1 (ptrTo (256*c+0))).bind fun t16 =>
 (callF o 40 [t16] r0.2.1 (r0.2.2+1)).bind fun r1 =>
 (Z0c r1.1).bind fun t20 =>
 (Z02 t20 1).bind fun t21 =>
 (Z02 t21 0).bind fun t22 =>
 (callF o 41 [t22] r1.2.1 (r1.2.2+1)).bind fun r2 =>
 (Z1m r2.1 0).bind fun t24 =>
 (Z1m r2.1 1).bind fun t25 =>
 (Z00 P .lss 3 t1 (.int .i64 0)).bind fun t27 =>
 (gd t27 false r2.2.1 (r2.2.2+1) (some t1)).bind fun r3 =>
 (gd t27 false r3.2.1 r3.2.2 (some t25)).bind fun r4 =>
 (gd t27 false r4.2.1 r4.2.2 (Z00 P .geq 3 r3.1 r4.1)).bind fun r5 =>
 (Z0H t27 (.bool true) r5.1).bind fun t32 =>
 Z08 t32
  (some ⟨.ret,[.tuple #[(.slice none 0 0),(.int .i64 3)]],r5.2.1,(r5.2.2+1),[]⟩)
  ((callF o 60 [r1.1,t24,t1] r5.2.1 (r5.2.2+1)).bind fun r6 =>
  (Z0c r6.1).bind fun t38 =>
  (Z02 t38 1).bind fun t39 =>
  (ld1 r6.2.1 t39).bind fun t40 =>
  (Z2m t40).bind fun t41 =>
  (o (Z9L none) [r6.1,(.slice none 0 0),t40,t41,(.int .i64 0)] r6.2.1 (r6.2.2+1+1) []).bind fun r7 =>
  cond (Z0u r7.e (.exit 0))
   ((Z07 r7.h r7.df).bind fun h8 =>
   some ⟨.ret,[.tuple #[r7.v 1,(.int .i64 0)]],h8,(r7.c+1),[]⟩)
   (none)))
 else none)
theorem Zkt (o:Orc H) (t0 t1:Value) (h:H) (c:Nat):jx P o 59 none f35_c (Z0i (List.range 2) [t0,t1]) h c [] (Kfn P Try.f35.results.toList)=ZmQ o t0 t1 h c:=by kernel_rfl
theorem f35_go {t0 t1:Value} {h:FH} {c:Nat} {df:List Nat} {r:Rt FH} (e:ZmQ G t0 t1 h c=some r):G (.fn 35) [t0,t1] h c df=some r:=Z0r (a:=Zks) bk_35 rfl (fun args h c=>by cases args <;> rfl) rfl ((Zkt G t0 t1 h c).trans e)
noncomputable def ZmP (o:Orc H) (h:H) (c:Nat):Option (Rt H) :=
 (callF o 62 [(.string (ByteArray.mk #[49,32,48,32,49,48,50,51,32,48,32,49,48,50,51,32,48,32,48,49,51,50,32,48,32,48,49,51,50]))] (newB h (256*c+0) [(.slice none 0 0)]) (c+1+1)).bind fun r0 =>
 (Z1m r0.1 0).bind fun t5 =>
 (Z1m r0.1 1).bind fun t6 =>
 (stN (newB r0.2.1 (256*(c+1)+4) [(.slice none 0 0)]) 1 (ptrTo (256*(c+1)+4)) t5).bind fun h2 =>
 (ldN h2 1 (ptrTo (256*(c+1)+4))).bind fun t7 =>
 (stN h2 1 (ptrTo (256*c+0)) t7).bind fun h4 =>
 (ldN h4 1 (ptrTo (256*c+0))).bind fun v5 =>
 some ⟨.ret,[v5],h4,(r0.2.2+1),[]⟩
theorem Zkr (o:Orc H) (h:H) (c:Nat):jx P o 8 none f37_c (Z0i (List.range 0) []) h c [] (Kfn P Try.f37.results.toList)=ZmP o h c:=by kernel_rfl
noncomputable def Z3f (o:Orc H) (l:Nat) (t13 t14 t1 t2 t3:Value) (h:H) (c:Nat):Option (Rt H) :=
 (stN (newB h (256*c+0) [(.int .i64 0),(.int .i64 0)]) 2 (ptrTo (256*c+0)) t13).bind fun h1 =>
 (stN (newB h1 (256*(c+1)+0) [(.int .i64 0),(.int .i64 0),(.int .i64 0),(.int .i64 0),(.int .i64 0)]) 5 (ptrTo (256*(c+1)+0)) t14).bind fun h3 =>
 (Z1U h3 l).bind fun h4 =>
 ((ldN h4 5 (ptrTo (256*(c+1)+0))).bind fun t15 =>
 (ldN h4 5 t3).bind fun t16 =>
 (Z00 P .eql 44 t15 t16).bind fun t17 =>
 Z08 t17
  (some ⟨.normal,[],h4,(c+1+1+1),[]⟩)
  ((Z02 (ptrTo (256*(c+1)+0)) 0).bind fun t18 =>
  (ld1 h4 t18).bind fun t19 =>
  (Z00 P .lss 3 t19 (.int .i64 0)).bind fun t20 =>
  (gd t20 false h4 (c+1+1+1+1) (Z02 (ptrTo (256*(c+1)+0)) 0)).bind fun r5 =>
  (gd t20 false r5.2.1 r5.2.2 (ld1 r5.2.1 r5.1)).bind fun r6 =>
  (gd t20 false r6.2.1 r6.2.2 (Z02 t1 0)).bind fun r7 =>
  (gd t20 false r7.2.1 r7.2.2 (ld1 r7.2.1 r7.1)).bind fun r8 =>
  (gg t20 false r8.2.1 r8.2.2 (((Z2m r8.1).bind fun v=>some (v,r8.2.1)).bind fun r=>some (r.1,r.2,r8.2.2))).bind fun r9 =>
  (gd t20 false r9.2.1 r9.2.2 (Z00 P .geq 3 r6.1 r9.1)).bind fun r10 =>
  (Z0H t20 (.bool true) r10.1).bind fun t28 =>
  (gd t28 false r10.2.1 r10.2.2 (Z02 (ptrTo (256*(c+1)+0)) 1)).bind fun r11 =>
  (gd t28 false r11.2.1 r11.2.2 (ldN r11.2.1 4 r11.1)).bind fun r12 =>
  (gg t28 false r12.2.1 r12.2.2 (callF o 56 [r12.1] r12.2.1 r12.2.2)).bind fun r13 =>
  (gd t28 false r13.2.1 r13.2.2 (Z1V .not r13.1)).bind fun r14 =>
  (Z0H t28 (.bool true) r14.1).bind fun t34 =>
  (gd t34 false r14.2.1 r14.2.2 (Z02 (ptrTo (256*(c+1)+0)) 0)).bind fun r15 =>
  (gd t34 false r15.2.1 r15.2.2 (ld1 r15.2.1 r15.1)).bind fun r16 =>
  (gd t34 false r16.2.1 r16.2.2 (Z02 (ptrTo (256*c+0)) 0)).bind fun r17 =>
  (gd t34 false r17.2.1 r17.2.2 (ld1 r17.2.1 r17.1)).bind fun r18 =>
  (gd t34 false r18.2.1 r18.2.2 (Z00 P .eql 3 r16.1 r18.1)).bind fun r19 =>
  (gd t34 false r19.2.1 r19.2.2 (some r19.1)).bind fun r20 =>
  (gd r20.1 true r20.2.1 r20.2.2 (Z02 (ptrTo (256*c+0)) 1)).bind fun r21 =>
  (gd r20.1 true r21.2.1 r21.2.2 (ld1 r21.2.1 r21.1)).bind fun r22 =>
  (gd r20.1 true r22.2.1 r22.2.2 (Z02 (ptrTo (256*(c+1)+0)) 1)).bind fun r23 =>
  (gd r20.1 true r23.2.1 r23.2.2 (ixA 4 1 r23.1 r22.1)).bind fun r24 =>
  (gd r20.1 true r24.2.1 r24.2.2 (ld1 r24.2.1 r24.1)).bind fun r25 =>
  (gd r20.1 true r25.2.1 r25.2.2 (Z02 (ptrTo (256*c+0)) 1)).bind fun r26 =>
  (gd r20.1 true r26.2.1 r26.2.2 (ld1 r26.2.1 r26.1)).bind fun r27 =>
  (gd r20.1 true r27.2.1 r27.2.2 (Z00 P .eql 3 r25.1 r27.1)).bind fun r28 =>
  (gg t34 false r28.2.1 r28.2.2 (ZeQ r28.2.1 r28.2.2 r20.1 r28.1 (.bool false))).bind fun r29 =>
  (Z0H t34 (.bool true) r29.1).bind fun t51 =>
  Z08 t51
   ((stN r29.2.1 1 t2 (.int .i64 7)).bind fun h31 =>
   some ⟨.ret,[],h31,(r29.2.2+1),[]⟩)
   ((Z02 t1 0).bind fun t52 =>
   (ld1 r29.2.1 t52).bind fun t53 =>
   (Z02 (ptrTo (256*(c+1)+0)) 0).bind fun t54 =>
   (ld1 r29.2.1 t54).bind fun t55 =>
   (Z02 (ptrTo (256*c+0)) 1).bind fun t56 =>
   (ld1 r29.2.1 t56).bind fun t57 =>
   (Z02 (ptrTo (256*(c+1)+0)) 1).bind fun t58 =>
   (ixA 4 1 t58 t57).bind fun t59 =>
   (ld1 r29.2.1 t59).bind fun t60 =>
   (ixS 20 t53 t55).bind fun t61 =>
   (ixA 4 5 t61 t60).bind fun t62 =>
   (ldN r29.2.1 5 t62).bind fun t63 =>
   (Z02 (ptrTo (256*c+0)) 0).bind fun t64 =>
   (ld1 r29.2.1 t64).bind fun t65 =>
   (Z02 (ptrTo (256*(c+1)+0)) 1).bind fun t66 =>
   (ldN r29.2.1 4 t66).bind fun t67 =>
   (callF o 64 [t67] r29.2.1 (r29.2.2+1)).bind fun r32 =>
   (Z1d [(.int .i64 0),(.int .i64 0),(.int .i64 0),(.int .i64 0),(.int .i64 0)] [(0,1,t65),(1,4,r32.1)]).bind fun t69 =>
   (Z00 P .neq 44 t63 t69).bind fun t70 =>
   (bif (Z19 (Z2g t52) r29.2.1 r32.2.1 && (Z19 (Z2g t54) r29.2.1 r32.2.1 && (Z19 (Z2g t56) r29.2.1 r32.2.1 && (Z19 (Z2g t59) r29.2.1 r32.2.1 && (Z19 (Z2g t62) r29.2.1 r32.2.1 && (Z19 (Z2g t64) r29.2.1 r32.2.1 && true)))))) then
   Z08 t70
    ((stN r32.2.1 1 t2 (.int .i64 7)).bind fun h34 =>
    some ⟨.ret,[],h34,(r32.2.2+1),[]⟩)
    (some ⟨.normal,[],r32.2.1,r32.2.2,[]⟩)
   else none))):Option (Rt H)).bind fun r35 =>
 cond (Z0u r35.e .normal)
 ((Z0t r35.h l .ready none).bind fun h37 =>
 cond (List.isEmpty (r35.df:List Nat)) (some ⟨.ret,[.bool true],h37,r35.c,[]⟩) none)
 (cond (Z0u r35.e .ret)
  ((Z0t r35.h l .done (some .ret)).bind fun h36 =>
  cond (List.isEmpty (r35.df:List Nat)) (some ⟨.ret,[.bool false],h36,r35.c,[]⟩) none)
  (none))
theorem Z6c (o:Orc H) (l:Nat) (t13 t14 t1 t2 t3:Value) (h:H) (c:Nat):jx P o 71 (some l) Z1q (Z0i ([13,14]++[1,2,3]) [t13,t14,t1,t2,t3]) h c [] (Zi3 P o 71 l Z1p)=Z3f o l t13 t14 t1 t2 t3 h c:=by kernel_rfl
noncomputable def Zho (o:Orc H) (t0:Value) (h:H) (c:Nat):Option (Rt H) :=
 (bif (t0:Value).cells.toList.all Z06 then
 (Z02 (ptrTo (256*c+0)) 0).bind fun t6 =>
 (ld1 (newB (newB h (256*c+0) (t0:Value).cells.toList) (256*c+1) [(.int .i64 0)]) t6).bind fun t7 =>
 (Z2m t7).bind fun t8 =>
 (Z00 P .gtr 3 t8 (.int .i64 1000)).bind fun t9 =>
 Z08 t9
 ((stN (newB (newB h (256*c+0) (t0:Value).cells.toList) (256*c+1) [(.int .i64 0)]) 1 (ptrTo (256*c+1)) (.int .i64 7)).bind fun h1 =>
 (ld1 h1 (ptrTo (256*c+1))).bind fun v2 =>
 some ⟨.ret,[v2],h1,(c+1+1+1),[]⟩)
 ((Z1d [(.int .i64 0),(.int .i64 0),(.int .i64 0),(.int .i64 0),(.int .i64 0)] [(0,1,(.int .i64 (-1)))]).bind fun t10 =>
 (stN (newB (newB (newB h (256*c+0) (t0:Value).cells.toList) (256*c+1) [(.int .i64 0)]) (256*(c+1+1)+1) [(.int .i64 0),(.int .i64 0),(.int .i64 0),(.int .i64 0),(.int .i64 0)]) 5 (ptrTo (256*(c+1+1)+1)) t10).bind fun h4 =>
 (ldN h4 1 (ptrTo (256*c+0))).bind fun t11 =>
 (callF o 63 [t11] h4 (c+1+1+1+1)).bind fun r5 =>
 (Z3t o 71 none [1,2,3] [] #[13,14] Z1q Z1p r5.1 [(ptrTo (256*c+0)),(ptrTo (256*c+1)),(ptrTo (256*(c+1+1)+1))] r5.2.1 r5.2.2 []).bind fun q6 =>
 cond (Z0u q6.1 .normal)
  ((stN q6.2.1 1 (ptrTo (256*c+1)) (.int .i64 0)).bind fun h10 =>
  (Z07 h10 q6.2.2.2).bind fun h11 =>
  (ld1 h11 (ptrTo (256*c+1))).bind fun v12 =>
  some ⟨.ret,[v12],h11,(q6.2.2.1+1),[]⟩)
  (cond (Z0u q6.1 .ret)
   ((Z07 q6.2.1 q6.2.2.2).bind fun h7 =>
   (ld1 h7 (ptrTo (256*c+1))).bind fun v8 =>
   some ⟨.ret,[v8],h7,q6.2.2.1,[]⟩)
   (none)))
 else none)
theorem Zem (o:Orc H) (t0:Value) (h:H) (c:Nat):jx P o 71 none f38_c (Z0i (List.range 1) [t0]) h c [] (Kfn P Try.f38.results.toList)=Zho o t0 h c:=by kernel_rfl
theorem f38_go {t0:Value} {h:FH} {c:Nat} {df:List Nat} {r:Rt FH} (e:Zho G t0 h c=some r):G (.fn 38) [t0] h c df=some (gcR h c [] r):=Z0r (a:=ZcK) bk_38 rfl (fun args h c=>by cases args <;> rfl) rfl ((Zem G t0 h c).trans e)
theorem ZfO {t13 t14 t1 t2 t3:Value} {l:Nat} {h:FH} {c:Nat} {df:List Nat} {r:Rt FH} (e:Z3f G l t13 t14 t1 t2 t3 h c=some r):G (.rnd 71 [1,2,3] [] [13,14] l Z1q Z1p) [t13,t14,t1,t2,t3] h c df=some r:=Z7R ((Z6c G l t13 t14 t1 t2 t3 h c).trans e)
noncomputable def Z78 (o:Orc H) (rd:Option Nat) (t2 t3 t4 t5 t6 t8 t10 t12 t13 t59 t60 t105 t106:Value) (h:H) (c:Nat) (df:List Nat):Option (Rt H) :=
 (Z00 P .lss 3 t106 (.int .i64 6)).bind fun t107 =>
 Z08 t107
 ((ixV 6 true 2 t105 t106).bind fun t109 =>
 (stN (newB h (256*(c+1)+2) [(.int .i64 0),(.int .i64 0)]) 2 (ptrTo (256*(c+1)+2)) t109).bind fun h1 =>
 (Z00 P .mul 3 (.int .i64 6) t13).bind fun t112 =>
 (Z00 P .add 3 t112 t106).bind fun t114 =>
 (ixS 1 t8 t114).bind fun t115 =>
 (ld1 h1 t115).bind fun t116 =>
 (Z02 t12 3).bind fun t117 =>
 (ld1 h1 t117).bind fun t118 =>
 (ixS 1 t118 t116).bind fun t120 =>
 (ld1 h1 t120).bind fun t121 =>
 (Z00 P .add 3 t121 (.int .i64 1)).bind fun t122 =>
 (ixS 1 t118 t116).bind fun t123 =>
 (stN h1 1 t123 t122).bind fun h3 =>
 (Z00 P .mul 3 (.int .i64 16) t13).bind fun t126 =>
 (ixA 2 1 (ptrTo (256*(c+1)+2)) (.int .i64 0)).bind fun t127 =>
 (ld1 h3 t127).bind fun t128 =>
 (Z00 P .mul 3 (.int .i64 4) t128).bind fun t129 =>
 (Z00 P .add 3 t126 t129).bind fun t130 =>
 (ixA 2 1 (ptrTo (256*(c+1)+2)) (.int .i64 1)).bind fun t131 =>
 (ld1 h3 t131).bind fun t132 =>
 (Z00 P .add 3 t130 t132).bind fun t133 =>
 (ixS 1 t6 t133).bind fun t134 =>
 (ld1 h3 t134).bind fun t135 =>
 (Z00 P .mul 3 (.int .i64 16) t13).bind fun t138 =>
 (ixA 2 1 (ptrTo (256*(c+1)+2)) (.int .i64 1)).bind fun t139 =>
 (ld1 h3 t139).bind fun t140 =>
 (Z00 P .mul 3 (.int .i64 4) t140).bind fun t141 =>
 (Z00 P .add 3 t138 t141).bind fun t142 =>
 (ixA 2 1 (ptrTo (256*(c+1)+2)) (.int .i64 0)).bind fun t143 =>
 (ld1 h3 t143).bind fun t144 =>
 (Z00 P .add 3 t142 t144).bind fun t145 =>
 (ixS 1 t6 t145).bind fun t146 =>
 (ld1 h3 t146).bind fun t147 =>
 (Z00 P .eql 3 t135 t147).bind fun t148 =>
 (Z08 t148
  ((Z02 t12 4).bind fun t149 =>
  (ld1 h3 t149).bind fun t150 =>
  (ixS 1 t150 t116).bind fun t152 =>
  (stN h3 1 t152 (.bool true)).bind fun h5 =>
  some ⟨.normal,[t2,t3,t4,t5,t6,t8,t10,t12,t13,t59,t60,t105,t106],h5,(c+1+1+1+1+1+1),df⟩)
  (some ⟨.normal,[t2,t3,t4,t5,t6,t8,t10,t12,t13,t59,t60,t105,t106],h3,(c+1+1+1+1+1),df⟩):Option (Rt H)).bind fun r6 =>
 cond (Z0u r6.e .normal)
  ((Z00 P .add 3 (r6.v 12) (.int .i64 1)).bind fun t153 =>
  some ⟨.normal,[r6.v 0,r6.v 1,r6.v 2,r6.v 3,r6.v 4,r6.v 5,r6.v 6,r6.v 7,r6.v 8,r6.v 9,r6.v 10,r6.v 11,t153],r6.h,(r6.c+1),r6.df⟩)
  (none))
 (some ⟨(.exit 2),[t2,t3,t4,t5,t6,t8,t10,t12,t13,t59,t60,t105,t106],h,(c+1),df⟩)
theorem ZaY (o:Orc H) (rd:Option Nat) (t2 t3 t4 t5 t6 t8 t10 t12 t13 t59 t60 t105 t106:Value) (h:H) (c:Nat) (df:List Nat):jx P o 172 rd Z3d (Z0i [2,3,4,5,6,8,10,12,13,59,60,105,106] [t2,t3,t4,t5,t6,t8,t10,t12,t13,t59,t60,t105,t106]) h c df (Klp [2,3,4,5,6,8,10,12,13,59,60,105,106])=Z78 o rd t2 t3 t4 t5 t6 t8 t10 t12 t13 t59 t60 t105 t106 h c df:=by kernel_rfl
noncomputable def Z79 (o:Orc H) (rd:Option Nat) (t2 t3 t4 t5 t6 t8 t10 t12 t59 t60:Value) (h:H) (c:Nat) (df:List Nat):Option (Rt H) :=
 (Z00 P .lss 3 t60 t59).bind fun t61 =>
 Z08 t61
 ((Z02 t12 0).bind fun t63 =>
 (ld1 h t63).bind fun t64 =>
 (Z00 P .mul 3 (.int .i64 4) t60).bind fun t67 =>
 (Z00 P .mul 3 (.int .i64 4) t60).bind fun t69 =>
 (Z00 P .add 3 t69 (.int .i64 4)).bind fun t70 =>
 (slS h 1 t4 (some t67) (some t70) none).bind fun t71 =>
 (Z5O P 41 t71).bind fun t72 =>
 (ldN h 4 t72).bind fun t73 =>
 (Z8N [(.int .i64 0),(.int .i64 0),(.int .i64 0),(.int .i64 0)] [(0,4,t73)]).bind fun r0 =>
 (Z5o (newB h (256*(c+1+1)+11) r0) (256*(c+1+1)+12) 4 32 t64 (.slice (some ⟨(256*(c+1+1)+11),0,none⟩) 1 1)).bind fun r1 =>
 (Z02 t12 0).bind fun t76 =>
 (stN r1.2 1 t76 r1.1).bind fun h3 =>
 (Z02 t12 1).bind fun t77 =>
 (ld1 h3 t77).bind fun t78 =>
 (Z00 P .mul 3 (.int .i64 6) t60).bind fun t81 =>
 (Z00 P .mul 3 (.int .i64 6) t60).bind fun t83 =>
 (Z00 P .add 3 t83 (.int .i64 6)).bind fun t84 =>
 (slS h3 1 t8 (some t81) (some t84) none).bind fun t85 =>
 (Z5O P 64 t85).bind fun t86 =>
 (ldN h3 6 t86).bind fun t87 =>
 (Z8N [(.int .i64 0),(.int .i64 0),(.int .i64 0),(.int .i64 0),(.int .i64 0),(.int .i64 0)] [(0,6,t87)]).bind fun r4 =>
 (Z5o (newB h3 (256*(c+1+1+1)+11) r4) (256*(c+1+1+1)+12) 6 48 t78 (.slice (some ⟨(256*(c+1+1+1)+11),0,none⟩) 1 1)).bind fun r5 =>
 (Z02 t12 1).bind fun t90 =>
 (stN r5.2 1 t90 r5.1).bind fun h7 =>
 (Z02 t12 2).bind fun t91 =>
 (ld1 h7 t91).bind fun t92 =>
 (Z00 P .mul 3 (.int .i64 4) t60).bind fun t95 =>
 (Z00 P .mul 3 (.int .i64 4) t60).bind fun t97 =>
 (Z00 P .add 3 t97 (.int .i64 4)).bind fun t98 =>
 (slS h7 1 t10 (some t95) (some t98) none).bind fun t99 =>
 (Z5O P 41 t99).bind fun t100 =>
 (ldN h7 4 t100).bind fun t101 =>
 (Z8N [(.int .i64 0),(.int .i64 0),(.int .i64 0),(.int .i64 0)] [(0,4,t101)]).bind fun r8 =>
 (Z5o (newB h7 (256*(c+1+1+1+1)+11) r8) (256*(c+1+1+1+1)+12) 4 32 t92 (.slice (some ⟨(256*(c+1+1+1+1)+11),0,none⟩) 1 1)).bind fun r9 =>
 (Z02 t12 2).bind fun t104 =>
 (stN r9.2 1 t104 r9.1).bind fun h11 =>
 (callF o 54 [] h11 (c+1+1+1+1+1+1)).bind fun r12 =>
 (o (ZfL rd) [t2,t3,t4,t5,t6,t8,t10,t12,t60,t59,t60,r12.1,(.int .i64 0)] r12.2.1 r12.2.2 df).bind fun r13 =>
 cond (Z0u r13.e (.exit 2))
  ((Z00 P .add 3 (r13.v 10) (.int .i64 1)).bind fun t154 =>
  some ⟨.normal,[r13.v 0,r13.v 1,r13.v 2,r13.v 3,r13.v 4,r13.v 5,r13.v 6,r13.v 7,r13.v 9,t154],r13.h,(r13.c+1),r13.df⟩)
  (none))
 (some ⟨(.exit 0),[t2,t3,t4,t5,t6,t8,t10,t12,t59,t60],h,(c+1),df⟩)
theorem ZaZ (o:Orc H) (rd:Option Nat) (t2 t3 t4 t5 t6 t8 t10 t12 t59 t60:Value) (h:H) (c:Nat) (df:List Nat):jx P o 172 rd Z3e (Z0i [2,3,4,5,6,8,10,12,59,60] [t2,t3,t4,t5,t6,t8,t10,t12,t59,t60]) h c df (Klp [2,3,4,5,6,8,10,12,59,60])=Z79 o rd t2 t3 t4 t5 t6 t8 t10 t12 t59 t60 h c df:=by kernel_rfl
noncomputable def Z77 (o:Orc H) (rd:Option Nat) (t2 t3 t4 t6 t12 t155 t156:Value) (h:H) (c:Nat) (df:List Nat):Option (Rt H) :=
 (Z00 P .lss 3 t156 t155).bind fun t157 =>
 Z08 t157
 ((Z02 t12 5).bind fun t159 =>
 (ld1 h t159).bind fun t160 =>
 (callF o 60 [t3,t4,t156] h (c+1+1+1)).bind fun r0 =>
 (callF o 65 [r0.1,t6] r0.2.1 r0.2.2).bind fun r1 =>
 (Z8N [(.int .i64 0),(.int .i64 0),(.int .i64 0),(.int .i64 0),(.bool false),(.bool false)] [(0,6,r1.1)]).bind fun r2 =>
 (Z5o (newB r1.2.1 (256*(c+1+1)+8) r2) (256*(c+1+1)+9) 6 40 t160 (.slice (some ⟨(256*(c+1+1)+8),0,none⟩) 1 1)).bind fun r3 =>
 (Z02 t12 5).bind fun t169 =>
 (stN r3.2 1 t169 r3.1).bind fun h5 =>
 (bif (Z19 (Z2g t159) h r0.2.1 && (Z19 (Z2g t159) r0.2.1 r1.2.1 && true)) then
 (Z00 P .add 3 t156 (.int .i64 1)).bind fun t170 =>
 some ⟨.normal,[t2,t3,t4,t6,t12,t155,t170],h5,(r1.2.2+1),df⟩
 else none))
 (some ⟨(.exit 4),[t2,t3,t4,t6,t12,t155,t156],h,(c+1),df⟩)
theorem ZaX (o:Orc H) (rd:Option Nat) (t2 t3 t4 t6 t12 t155 t156:Value) (h:H) (c:Nat) (df:List Nat):jx P o 172 rd Z3c (Z0i [2,3,4,6,12,155,156] [t2,t3,t4,t6,t12,t155,t156]) h c df (Klp [2,3,4,6,12,155,156])=Z77 o rd t2 t3 t4 t6 t12 t155 t156 h c df:=by kernel_rfl
noncomputable def ZmO (o:Orc H) (t0:Value) (h:H) (c:Nat):Option (Rt H) :=
 (bif (t0:Value).cells.toList.all Z06 then
 (ldN (newB (newB h (256*c+0) (t0:Value).cells.toList) (256*c+1) [(.slice none 0 0),(.slice none 0 0),(.slice none 0 0),(.slice none 0 0),(.slice none 0 0),(.slice none 0 0)]) 1 (ptrTo (256*c+0))).bind fun t18 =>
 (callF o 40 [t18] (newB (newB h (256*c+0) (t0:Value).cells.toList) (256*c+1) [(.slice none 0 0),(.slice none 0 0),(.slice none 0 0),(.slice none 0 0),(.slice none 0 0),(.slice none 0 0)]) (c+1+1)).bind fun r0 =>
 (Z0c r0.1).bind fun t22 =>
 (Z02 t22 1).bind fun t23 =>
 (Z02 t23 0).bind fun t24 =>
 (callF o 41 [t24] r0.2.1 (r0.2.2+1)).bind fun r1 =>
 (Z1m r1.1 0).bind fun t26 =>
 (Z1m r1.1 1).bind fun t27 =>
 (Z0c r0.1).bind fun t30 =>
 (Z02 t30 2).bind fun t31 =>
 (Z02 t31 0).bind fun t32 =>
 (callF o 41 [t32] r1.2.1 (r1.2.2+1)).bind fun r2 =>
 (Z1m r2.1 0).bind fun t34 =>
 (Z1m r2.1 1).bind fun t35 =>
 (Z0c r0.1).bind fun t38 =>
 (Z02 t38 3).bind fun t39 =>
 (Z02 t39 0).bind fun t40 =>
 (callF o 41 [t40] r2.2.1 (r2.2.2+1)).bind fun r3 =>
 (Z1m r3.1 0).bind fun t42 =>
 (Z1m r3.1 1).bind fun t43 =>
 (Z0c r0.1).bind fun t46 =>
 (Z02 t46 4).bind fun t47 =>
 (Z02 t47 0).bind fun t48 =>
 (callF o 41 [t48] r3.2.1 (r3.2.2+1)).bind fun r4 =>
 (Z1m r4.1 0).bind fun t50 =>
 (Z1m r4.1 1).bind fun t51 =>
 (mkS 1 8 [(.int .i64 0)] t43 t43).bind fun r5 =>
 (mkS 1 1 [(.bool false)] t43 t43).bind fun r6 =>
 (Z1d [(.slice none 0 0),(.slice none 0 0),(.slice none 0 0),(.slice none 0 0),(.slice none 0 0),(.slice none 0 0)] [(3,1,(.slice (some ⟨(256*r4.2.2+1),0,none⟩) r5.2.1 r5.2.2)),(4,1,(.slice (some ⟨(256*r4.2.2+3),0,none⟩) r6.2.1 r6.2.2))]).bind fun t56 =>
 (stN (newB (newB (newB r4.2.1 (256*r4.2.2+1) r5.1) (256*r4.2.2+3) r6.1) (256*r4.2.2+5) [(.slice none 0 0),(.slice none 0 0),(.slice none 0 0),(.slice none 0 0),(.slice none 0 0),(.slice none 0 0)]) 6 (ptrTo (256*r4.2.2+5)) t56).bind fun h8 =>
 (Z02 (ptrTo (256*c+0)) 0).bind fun t57 =>
 (ld1 h8 t57).bind fun t58 =>
 (Z2m t58).bind fun t59 =>
 (o (ZfM none) [(ptrTo (256*c+1)),r0.1,t26,t27,t34,t42,t50,(ptrTo (256*r4.2.2+5)),t59,(.int .i64 0)] h8 (r4.2.2+1+1) []).bind fun r9 =>
 cond (Z0u r9.e (.exit 0))
 ((o (ZfK none) [r9.v 0,r9.v 1,r9.v 2,r9.v 4,r9.v 7,r9.v 3,(.int .i64 0)] r9.h (r9.c+1) r9.df).bind fun r10 =>
 cond (Z0u r10.e (.exit 4))
  ((ldN r10.h 6 (r10.v 4)).bind fun t171 =>
  (stN r10.h 6 (r10.v 0) t171).bind fun h12 =>
  (Z07 h12 r10.df).bind fun h13 =>
  (ldN h13 6 (r10.v 0)).bind fun v14 =>
  some ⟨.ret,[v14],h13,(r10.c+1),[]⟩)
  (none))
 (none)
 else none)
theorem Zkp (o:Orc H) (t0:Value) (h:H) (c:Nat):jx P o 172 none f39_c (Z0i (List.range 1) [t0]) h c [] (Kfn P Try.f39.results.toList)=ZmO o t0 h c:=by kernel_rfl
end Go.Proofs.Ytdodippbpdechaa
