/- Parts of a proof: S1 S2 S3. Conditions: none. -/
import Derived.Test.YtdodippbpdechaaM9
set_option linter.all false
set_option maxRecDepth 100000
namespace Go.Proofs.Ytdodippbpdechaa
open Go Go.Ab Go.Proofs
variable {H:Type} [HeapC H]
noncomputable def Z1U (o:Orc H) (rd:Option Nat) (t1 t2 t3 t4 t5:Value) (h:H) (c:Nat) (df:List Nat):Option (Rt H) :=
 (Z00 P .lss 3 t5 (.int .i64 4)).bind fun t18 =>
 Z08 t18
 (((Z04 t1 0).bind fun t21 =>
  (ld1 h t21).bind fun t22 =>
  (ixS 20 t22 t4).bind fun t25 =>
  (ixA 4 5 t25 t5).bind fun t26 =>
  (ldN h 5 t26).bind fun t27 =>
  (stN (newB h (256*(c+1)+7) [(.int .i64 0),(.int .i64 0),(.int .i64 0),(.int .i64 0),(.int .i64 0)]) 5 (ptrTo (256*(c+1)+7)) t27).bind fun h1 =>
  (Z04 (ptrTo (256*(c+1)+7)) 0).bind fun t28 =>
  (ld1 h1 t28).bind fun t29 =>
  (Z00 P .eql 3 t29 (.int .i64 (-1))).bind fun t30 =>
  (gd t30 true h1 (c+1+1+1) (Z04 (ptrTo (256*(c+1)+7)) 1)).bind fun r2 =>
  (gd t30 true r2.2.1 r2.2.2 (ldN r2.2.1 4 r2.1)).bind fun r3 =>
  (gd t30 true r3.2.1 r3.2.2 (Z1z [(.int .i64 0),(.int .i64 0),(.int .i64 0),(.int .i64 0)] [])).bind fun r4 =>
  (gd t30 true r4.2.1 r4.2.2 (Z00 P .eql 42 r3.1 r4.1)).bind fun r5 =>
  (Z0B t30 r5.1 (.bool false)).bind fun t36 =>
  Z08 t36
   (some ⟨.normal,[t1,t2,t3,t4,t5],r5.2.1,r5.2.2,df⟩)
   ((Z04 (ptrTo (256*(c+1)+7)) 0).bind fun t37 =>
   (ld1 r5.2.1 t37).bind fun t38 =>
   (Z00 P .lss 3 t38 (.int .i64 0)).bind fun t39 =>
   (gd t39 false r5.2.1 (r5.2.2+1) (Z04 (ptrTo (256*(c+1)+7)) 0)).bind fun r6 =>
   (gd t39 false r6.2.1 r6.2.2 (ld1 r6.2.1 r6.1)).bind fun r7 =>
   (gd t39 false r7.2.1 r7.2.2 (some t3)).bind fun r8 =>
   (gd t39 false r8.2.1 r8.2.2 (Z00 P .geq 3 r7.1 r8.1)).bind fun r9 =>
   (Z0B t39 (.bool true) r9.1).bind fun t45 =>
   (gd t45 false r9.2.1 r9.2.2 (Z04 (ptrTo (256*(c+1)+7)) 1)).bind fun r10 =>
   (gd t45 false r10.2.1 r10.2.2 (ldN r10.2.1 4 r10.1)).bind fun r11 =>
   (gg t45 false r11.2.1 r11.2.2 (callF o 44 [r11.1] r11.2.1 r11.2.2)).bind fun r12 =>
   (gd t45 false r12.2.1 r12.2.2 (Z1X .not r12.1)).bind fun r13 =>
   (Z0B t45 (.bool true) r13.1).bind fun t51 =>
   (gd t51 false r13.2.1 r13.2.2 (Z04 (ptrTo (256*(c+1)+7)) 0)).bind fun r14 =>
   (gd t51 false r14.2.1 r14.2.2 (ld1 r14.2.1 r14.1)).bind fun r15 =>
   (gd t51 false r15.2.1 r15.2.2 (some t4)).bind fun r16 =>
   (gd t51 false r16.2.1 r16.2.2 (Z00 P .eql 3 r15.1 r16.1)).bind fun r17 =>
   (gd t51 false r17.2.1 r17.2.2 (some r17.1)).bind fun r18 =>
   (gd r18.1 true r18.2.1 r18.2.2 (some t5)).bind fun r19 =>
   (gd r18.1 true r19.2.1 r19.2.2 (Z04 (ptrTo (256*(c+1)+7)) 1)).bind fun r20 =>
   (gd r18.1 true r20.2.1 r20.2.2 (ixA 4 1 r20.1 r19.1)).bind fun r21 =>
   (gd r18.1 true r21.2.1 r21.2.2 (ld1 r21.2.1 r21.1)).bind fun r22 =>
   (gd r18.1 true r22.2.1 r22.2.2 (some t5)).bind fun r23 =>
   (gd r18.1 true r23.2.1 r23.2.2 (Z00 P .eql 3 r22.1 r23.1)).bind fun r24 =>
   (gg t51 false r24.2.1 r24.2.2 (Z8r r24.2.1 r24.2.2 r18.1 r24.1 (.bool false))).bind fun r25 =>
   (Z0B t51 (.bool true) r25.1).bind fun t65 =>
   Z08 t65
    (some ⟨.ret,[t1,(.int .i64 7),t3,t4,t5],r25.2.1,(r25.2.2+1),df⟩)
    ((Z04 t1 0).bind fun t66 =>
    (ld1 r25.2.1 t66).bind fun t67 =>
    (Z04 (ptrTo (256*(c+1)+7)) 0).bind fun t68 =>
    (ld1 r25.2.1 t68).bind fun t69 =>
    (Z04 (ptrTo (256*(c+1)+7)) 1).bind fun t71 =>
    (ixA 4 1 t71 t5).bind fun t72 =>
    (ld1 r25.2.1 t72).bind fun t73 =>
    (ixS 20 t67 t69).bind fun t74 =>
    (ixA 4 5 t74 t73).bind fun t75 =>
    (ldN r25.2.1 5 t75).bind fun t76 =>
    (Z04 (ptrTo (256*(c+1)+7)) 1).bind fun t78 =>
    (ldN r25.2.1 4 t78).bind fun t79 =>
    (callF o 45 [t79] r25.2.1 (r25.2.2+1)).bind fun r27 =>
    (Z1z [(.int .i64 0),(.int .i64 0),(.int .i64 0),(.int .i64 0),(.int .i64 0)] [(0,1,t4),(1,4,r27.1)]).bind fun t81 =>
    (Z00 P .neq 44 t76 t81).bind fun t82 =>
    (bif (Z1f (Z2t t66) r25.2.1 r27.2.1 && (Z1f (Z2t t68) r25.2.1 r27.2.1 && (Z1f (Z2t t72) r25.2.1 r27.2.1 && (Z1f (Z2t t75) r25.2.1 r27.2.1 && true)))) then
    Z08 t82
     (some ⟨.ret,[t1,(.int .i64 7),t3,t4,t5],r27.2.1,(r27.2.2+1),df⟩)
     (some ⟨.normal,[t1,t2,t3,t4,t5],r27.2.1,r27.2.2,df⟩)
    else none))):Option (Rt H)).bind fun r29 =>
 cond (Z0u r29.e .normal)
  ((Z00 P .add 3 (r29.v 4) (.int .i64 1)).bind fun t20 =>
  some ⟨.normal,[r29.v 0,r29.v 1,r29.v 2,r29.v 3,t20],r29.h,(r29.c+1),r29.df⟩)
  (cond (Z0u r29.e .ret)
   (some ⟨.ret,[r29.v 0,r29.v 1,r29.v 2,r29.v 3,r29.v 4],r29.h,r29.c,r29.df⟩)
   (none)))
 (some ⟨(.exit 2),[t1,t2,t3,t4,t5],h,(c+1),df⟩)
theorem Z57 (o:Orc H) (rd:Option Nat) (t1 t2 t3 t4 t5:Value) (h:H) (c:Nat) (df:List Nat):jx P o 83 rd Z3F (Z0l [1,2,3,4,5] [t1,t2,t3,t4,t5]) h c df (Klp [1,2,3,4,5])=Z1U o rd t1 t2 t3 t4 t5 h c df:=by kernel_rfl
noncomputable def Z1j (o:Orc H) (rd:Option Nat) (t1 t2 t3 t4:Value) (h:H) (c:Nat) (df:List Nat):Option (Rt H) :=
 (Z00 P .lss 3 t4 t3).bind fun t14 =>
 Z08 t14
 ((o (Z3D rd) [t1,t2,t3,t4,(.int .i64 0)] h (c+1+1) df).bind fun r0 =>
 cond (Z0u r0.e (.exit 2))
  ((Z00 P .add 3 (r0.v 3) (.int .i64 1)).bind fun t16 =>
  some ⟨.normal,[r0.v 0,r0.v 1,r0.v 2,t16],r0.h,(r0.c+1),r0.df⟩)
  (cond (Z0u r0.e .ret)
   (some ⟨.ret,[r0.v 0,r0.v 1,r0.v 2,r0.v 3],r0.h,r0.c,r0.df⟩)
   (none)))
 (some ⟨(.exit 0),[t1,t2,t3,t4],h,(c+1),df⟩)
theorem Z58 (o:Orc H) (rd:Option Nat) (t1 t2 t3 t4:Value) (h:H) (c:Nat) (df:List Nat):jx P o 83 rd Z3G (Z0l [1,2,3,4] [t1,t2,t3,t4]) h c df (Klp [1,2,3,4])=Z1j o rd t1 t2 t3 t4 h c df:=by kernel_rfl
noncomputable def ZhN (o:Orc H) (t0:Value) (h:H) (c:Nat):Option (Rt H) :=
 (bif (t0:Value).cells.toList.all Z07 then
 (Z04 (ptrTo (256*c+0)) 0).bind fun t7 =>
 (ld1 (newB h (256*c+0) (t0:Value).cells.toList) t7).bind fun t8 =>
 (Z2d t8).bind fun t9 =>
 (Z00 P .gtr 3 t9 (.int .i64 1000)).bind fun t11 =>
 Z08 t11
 (some ⟨.ret,[(.int .i64 7)],(newB h (256*c+0) (t0:Value).cells.toList),(c+1+1+1+1),[]⟩)
 ((o (Z3E none) [(ptrTo (256*c+0)),(.int .i64 0),t9,(.int .i64 0)] (newB h (256*c+0) (t0:Value).cells.toList) (c+1+1+1+1) []).bind fun r0 =>
 cond (Z0u r0.e (.exit 0))
  ((Z09 r0.h r0.df).bind fun h2 =>
  some ⟨.ret,[(.int .i64 0)],h2,(r0.c+1),[]⟩)
  (cond (Z0u r0.e .ret)
   ((Z09 r0.h r0.df).bind fun h1 =>
   some ⟨.ret,[r0.v 1],h1,r0.c,[]⟩)
   (none)))
 else none)
theorem ZeM (o:Orc H) (t0:Value) (h:H) (c:Nat):jx P o 83 none f14_c (Z0l (List.range 1) [t0]) h c [] (Kfn P Try.f14.results.toList)=ZhN o t0 h c:=by kernel_rfl
theorem f14_go {t0:Value} {h:FH} {c:Nat} {df:List Nat} {r:Rt FH} (e:ZhN G t0 h c=some r):G (.fn 14) [t0] h c df=some (gcR h c [] r):=Z0r (a:=ZcZ) bk_14 rfl (fun args h c=>by cases args <;> rfl) rfl ((ZeM G t0 h c).trans e)
theorem Zae {rd:Option Nat} {t1 t2 t3 t4 t5:Value} {h:FH} {c:Nat} {df:List Nat} {q r:Rt FH} (e:Z1U G rd t1 t2 t3 t4 t5 h c df=some q) (hq:q.e = .normal) (k:G (Z3D rd) q.vs (gcR h c df q).h (gcR h c df q).c q.df=some r):G (Z3D rd) [t1,t2,t3,t4,t5] h c df=some r:=Z0K ((Z57 G rd t1 t2 t3 t4 t5 h c df).trans e) hq k
theorem Zac {rd:Option Nat} {t1 t2 t3 t4 t5:Value} {h:FH} {c:Nat} {df:List Nat} {q:Rt FH} (e:Z1U G rd t1 t2 t3 t4 t5 h c df=some q) (hq:q.e ≠ .normal):G (Z3D rd) [t1,t2,t3,t4,t5] h c df=some (gcR h c df q):=Z0L ((Z57 G rd t1 t2 t3 t4 t5 h c df).trans e) hq
theorem Zaf {rd:Option Nat} {t1 t2 t3 t4:Value} {h:FH} {c:Nat} {df:List Nat} {q r:Rt FH} (e:Z1j G rd t1 t2 t3 t4 h c df=some q) (hq:q.e = .normal) (k:G (Z3E rd) q.vs (gcR h c df q).h (gcR h c df q).c q.df=some r):G (Z3E rd) [t1,t2,t3,t4] h c df=some r:=Z0K ((Z58 G rd t1 t2 t3 t4 h c df).trans e) hq k
theorem Zad {rd:Option Nat} {t1 t2 t3 t4:Value} {h:FH} {c:Nat} {df:List Nat} {q:Rt FH} (e:Z1j G rd t1 t2 t3 t4 h c df=some q) (hq:q.e ≠ .normal):G (Z3E rd) [t1,t2,t3,t4] h c df=some (gcR h c df q):=Z0L ((Z58 G rd t1 t2 t3 t4 h c df).trans e) hq
noncomputable def Z7m (o:Orc H) (rd:Option Nat) (t0 t1 t4 t5:Value) (h:H) (c:Nat) (df:List Nat):Option (Rt H) :=
 (Z2d t0).bind fun t13 =>
 (Z00 P .lss 3 t5 t13).bind fun t14 =>
 Z08 t14
 ((ixS 1 t0 t5).bind fun t19 =>
 (ld1 h t19).bind fun t20 =>
 (ixS 1 t1 t5).bind fun t23 =>
 (ld1 h t23).bind fun t24 =>
 (Z00 P .neq 3 t20 t24).bind fun t25 =>
 Z08 t25
  (some ⟨.ret,[t0,t1,(.bool false),t5],h,(c+1+1+1),df⟩)
  ((Z00 P .add 3 t5 (.int .i64 1)).bind fun t16 =>
  some ⟨.normal,[t0,t1,t4,t16],h,(c+1+1+1),df⟩))
 (some ⟨(.exit 0),[t0,t1,t4,t5],h,(c+1),df⟩)
theorem Zbc (o:Orc H) (rd:Option Nat) (t0 t1 t4 t5:Value) (h:H) (c:Nat) (df:List Nat):jx P o 26 rd Z3C (Z0l [0,1,4,5] [t0,t1,t4,t5]) h c df (Klp [0,1,4,5])=Z7m o rd t0 t1 t4 t5 h c df:=by kernel_rfl
noncomputable def Zns (o:Orc H) (t0 t1:Value) (h:H) (c:Nat):Option (Rt H) :=
 (Z2d t0).bind fun t7 =>
 (Z2d t1).bind fun t9 =>
 (Z00 P .neq 3 t7 t9).bind fun t10 =>
 Z08 t10
 (some ⟨.ret,[(.bool false)],h,(c+1+1+1),[]⟩)
 ((o (ZfW none) [t0,t1,(.bool false),(.int .i64 0)] h (c+1+1+1) []).bind fun r0 =>
 cond (Z0u r0.e (.exit 0))
  ((Z09 r0.h r0.df).bind fun h2 =>
  some ⟨.ret,[(.bool true)],h2,(r0.c+1),[]⟩)
  (cond (Z0u r0.e .ret)
   ((Z09 r0.h r0.df).bind fun h1 =>
   some ⟨.ret,[r0.v 2],h1,r0.c,[]⟩)
   (none)))
theorem Zl6 (o:Orc H) (t0 t1:Value) (h:H) (c:Nat):jx P o 26 none f16_c (Z0l (List.range 2) [t0,t1]) h c [] (Kfn P Try.f16.results.toList)=Zns o t0 t1 h c:=by kernel_rfl
noncomputable def Z4w (o:Orc H) (rd:Option Nat) (t0 t1 t4 t7 t8:Value) (h:H) (c:Nat) (df:List Nat):Option (Rt H) :=
 (Z00 P .lss 3 t8 (.int .i64 6)).bind fun t9 =>
 Z08 t9
 ((ixV 6 true 2 t7 t8).bind fun t11 =>
 (stN (newB h (256*(c+1)+2) [(.int .i64 0),(.int .i64 0)]) 2 (ptrTo (256*(c+1)+2)) t11).bind fun h1 =>
 (ldN h1 2 (ptrTo (256*(c+1)+2))).bind fun t12 =>
 (Z1z [(.int .i64 0),(.int .i64 0)] [(0,1,t0),(1,1,t1)]).bind fun t15 =>
 (Z00 P .eql 106 t12 t15).bind fun t16 =>
 (gd t16 false h1 (c+1+1+1) (ldN h1 2 (ptrTo (256*(c+1)+2)))).bind fun r2 =>
 (gd t16 false r2.2.1 r2.2.2 (some t1)).bind fun r3 =>
 (gd t16 false r3.2.1 r3.2.2 (some t0)).bind fun r4 =>
 (gd t16 false r4.2.1 r4.2.2 (Z1z [(.int .i64 0),(.int .i64 0)] [(0,1,r3.1),(1,1,r4.1)])).bind fun r5 =>
 (gd t16 false r5.2.1 r5.2.2 (Z00 P .eql 106 r2.1 r5.1)).bind fun r6 =>
 (Z0B t16 (.bool true) r6.1).bind fun t23 =>
 Z08 t23
  (some ⟨.ret,[t0,t1,t8,t7,t8],r6.2.1,(r6.2.2+1),df⟩)
  ((Z00 P .add 3 t8 (.int .i64 1)).bind fun t25 =>
  some ⟨.normal,[t0,t1,t4,t7,t25],r6.2.1,(r6.2.2+1),df⟩))
 (some ⟨(.exit 0),[t0,t1,t4,t7,t8],h,(c+1),df⟩)
theorem Z56 (o:Orc H) (rd:Option Nat) (t0 t1 t4 t7 t8:Value) (h:H) (c:Nat) (df:List Nat):jx P o 26 rd Z3B (Z0l [0,1,4,7,8] [t0,t1,t4,t7,t8]) h c df (Klp [0,1,4,7,8])=Z4w o rd t0 t1 t4 t7 t8 h c df:=by kernel_rfl
noncomputable def ZhM (o:Orc H) (t0 t1:Value) (h:H) (c:Nat):Option (Rt H) :=
 (callF o 54 [] h (c+1+1)).bind fun r0 =>
 (o (Zab none) [t0,t1,(.int .i64 0),r0.1,(.int .i64 0)] r0.2.1 r0.2.2 []).bind fun r1 =>
 cond (Z0u r1.e (.exit 0))
 ((Z09 r1.h r1.df).bind fun h3 =>
 some ⟨.ret,[(.int .i64 (-1))],h3,(r1.c+1),[]⟩)
 (cond (Z0u r1.e .ret)
  ((Z09 r1.h r1.df).bind fun h2 =>
  some ⟨.ret,[r1.v 2],h2,r1.c,[]⟩)
  (none))
theorem ZeL (o:Orc H) (t0 t1:Value) (h:H) (c:Nat):jx P o 26 none f27_c (Z0l (List.range 2) [t0,t1]) h c [] (Kfn P Try.f27.results.toList)=ZhM o t0 t1 h c:=by kernel_rfl
theorem f27_go {t0 t1:Value} {h:FH} {c:Nat} {df:List Nat} {r:Rt FH} (e:ZhM G t0 t1 h c=some r):G (.fn 27) [t0,t1] h c df=some (gcR h c [] r):=Z0r (a:=ZcY) bk_27 rfl (fun args h c=>by cases args <;> rfl) rfl ((ZeL G t0 t1 h c).trans e)
noncomputable def Zl5 (o:Orc H) (t0 t1:Value) (h:H) (c:Nat):Option (Rt H) :=
 (Z00 P .lss 3 t0 (.int .i64 0)).bind fun t6 =>
 (gd t6 false h (c+1+1) (some t1)).bind fun r0 =>
 (gd t6 false r0.2.1 r0.2.2 (Z00 P .lss 3 r0.1 (.int .i64 0))).bind fun r1 =>
 (Z0B t6 (.bool true) r1.1).bind fun t10 =>
 (gd t10 false r1.2.1 r1.2.2 (some t0)).bind fun r2 =>
 (gd t10 false r2.2.1 r2.2.2 (Z00 P .gtr 3 r2.1 (.int .i64 3))).bind fun r3 =>
 (Z0B t10 (.bool true) r3.1).bind fun t14 =>
 (gd t14 false r3.2.1 r3.2.2 (some t1)).bind fun r4 =>
 (gd t14 false r4.2.1 r4.2.2 (Z00 P .gtr 3 r4.1 (.int .i64 3))).bind fun r5 =>
 (Z0B t14 (.bool true) r5.1).bind fun t18 =>
 (gd t18 false r5.2.1 r5.2.2 (some t0)).bind fun r6 =>
 (gd t18 false r6.2.1 r6.2.2 (some t1)).bind fun r7 =>
 (gd t18 false r7.2.1 r7.2.2 (Z00 P .eql 3 r6.1 r7.1)).bind fun r8 =>
 (Z0B t18 (.bool true) r8.1).bind fun t23 =>
 Z08 t23
 (some ⟨.ret,[(.int .i64 (-1))],r8.2.1,(r8.2.2+1),[]⟩)
 ((Z00 P .gtr 3 t0 t1).bind fun t26 =>
 Z08 t26
  ((callF o 28 [t1,t0] r8.2.1 (r8.2.2+1+1)).bind fun r9 =>
  some ⟨.ret,[r9.1],r9.2.1,r9.2.2,[]⟩)
  ((Z00 P .eql 3 t0 (.int .i64 0)).bind fun t32 =>
  Z08 t32
   ((Z00 P .sub 3 t1 (.int .i64 1)).bind fun t34 =>
   some ⟨.ret,[t34],r8.2.1,(r8.2.2+1+1+1+1),[]⟩)
   ((Z00 P .eql 3 t0 (.int .i64 1)).bind fun t36 =>
   Z08 t36
    ((Z00 P .add 3 t1 (.int .i64 1)).bind fun t38 =>
    some ⟨.ret,[t38],r8.2.1,(r8.2.2+1+1+1+1+1),[]⟩)
    (some ⟨.ret,[(.int .i64 5)],r8.2.1,(r8.2.2+1+1+1+1+1),[]⟩))))
theorem Zl4 (o:Orc H) (t0 t1:Value) (h:H) (c:Nat):jx P o 39 none f28_c (Z0l (List.range 2) [t0,t1]) h c [] (Kfn P Try.f28.results.toList)=Zl5 o t0 t1 h c:=by kernel_rfl
theorem ZlR {t0 t1:Value} {h:FH} {c:Nat} {df:List Nat} {r:Rt FH} (e:Zl5 G t0 t1 h c=some r):G (.fn 28) [t0,t1] h c df=some (gcR h c [] r):=Z0r (a:=Zl3) bk_28 rfl (fun args h c=>by cases args <;> rfl) rfl ((Zl4 G t0 t1 h c).trans e)
noncomputable def Z5J (o:Orc H) (l:Nat) (t37 t6 t7 t8 t9:Value) (h:H) (c:Nat):Option (Rt H) :=
 (stN (newB h (256*c+0) [(.int .i64 0),(.int .i64 0),(.int .i64 0),(.int .i64 0),(.int .i64 0)]) 5 (ptrTo (256*c+0)) t37).bind fun h1 =>
 (Z27 h1 l).bind fun h2 =>
 (ld1 h2 t6).bind fun t38 =>
 (Z2d t38).bind fun t39 =>
 (Z00 P .gtr 3 t39 (.int .i64 0)).bind fun t40 =>
 (gd t40 true h2 (c+1+1) (ldN h2 5 (ptrTo (256*c+0)))).bind fun r3 =>
 (gd t40 true r3.2.1 r3.2.2 (ldN r3.2.1 5 t9)).bind fun r4 =>
 (gd t40 true r4.2.1 r4.2.2 (Z00 P .eql 67 r3.1 r4.1)).bind fun r5 =>
 (Z0B t40 r5.1 (.bool false)).bind fun t45 =>
 Z08 t45
 ((ld1 r5.2.1 t6).bind fun t46 =>
 (stN r5.2.1 1 t6 t46).bind fun h7 =>
 (stN h7 1 t7 (.bool true)).bind fun h9 =>
 (stN h9 1 t8 (.int .i64 0)).bind fun h11 =>
 (Z0t h11 l .done (some .ret)).bind fun h12 =>
 cond (List.isEmpty ([]:List Nat)) (some ⟨.ret,[.bool false],h12,(r5.2.2+1),[]⟩) none)
 ((ld1 r5.2.1 t6).bind fun t47 =>
 (ldN r5.2.1 5 (ptrTo (256*c+0))).bind fun t48 =>
 (Z7R [(.int .i64 0),(.int .i64 0),(.int .i64 0),(.int .i64 0),(.int .i64 0)] [(0,5,t48)]).bind fun r13 =>
 (Z6e (newB r5.2.1 (256*r5.2.2+2) r13) (256*r5.2.2+3) 5 40 t47 (.slice (some ⟨(256*r5.2.2+2),0,none⟩) 1 1)).bind fun r14 =>
 (stN r14.2 1 t6 r14.1).bind fun h16 =>
 (Z0t h16 l .ready none).bind fun h17 =>
 cond (List.isEmpty ([]:List Nat)) (some ⟨.ret,[.bool true],h17,(r5.2.2+1),[]⟩) none)
theorem Zba (o:Orc H) (l:Nat) (t37 t6 t7 t8 t9:Value) (h:H) (c:Nat):jx P o 66 (some l) Z2n (Z0l ([37]++[6,7,8,9]) [t37,t6,t7,t8,t9]) h c [] (ZiI P o 66 l Z2k)=Z5J o l t37 t6 t7 t8 t9 h c:=by kernel_rfl
noncomputable def Z5I (o:Orc H) (l:Nat) (t55 t11:Value) (h:H) (c:Nat):Option (Rt H) :=
 (stN (newB h (256*c+0) [(.int .i64 0),(.int .i64 0),(.int .i64 0),(.int .i64 0),(.int .i64 0)]) 5 (ptrTo (256*c+0)) t55).bind fun h1 =>
 (Z27 h1 l).bind fun h2 =>
 (ldN h2 5 (ptrTo (256*c+0))).bind fun t56 =>
 (stN h2 5 t11 t56).bind fun h4 =>
 (Z0t h4 l .ready none).bind fun h5 =>
 cond (List.isEmpty ([]:List Nat)) (some ⟨.ret,[.bool true],h5,(c+1+1),[]⟩) none
theorem Zb9 (o:Orc H) (l:Nat) (t55 t11:Value) (h:H) (c:Nat):jx P o 66 (some l) Z2m (Z0l ([55]++[11]) [t55,t11]) h c [] (ZiI P o 66 l Z2j)=Z5I o l t55 t11 h c:=by kernel_rfl
noncomputable def Z5H (o:Orc H) (l:Nat) (t60 t6:Value) (h:H) (c:Nat):Option (Rt H) :=
 (stN (newB h (256*c+0) [(.int .i64 0),(.int .i64 0),(.int .i64 0),(.int .i64 0),(.int .i64 0)]) 5 (ptrTo (256*c+0)) t60).bind fun h1 =>
 (Z27 h1 l).bind fun h2 =>
 (ld1 h2 t6).bind fun t61 =>
 (ldN h2 5 (ptrTo (256*c+0))).bind fun t62 =>
 (Z7R [(.int .i64 0),(.int .i64 0),(.int .i64 0),(.int .i64 0),(.int .i64 0)] [(0,5,t62)]).bind fun r3 =>
 (Z6e (newB h2 (256*(c+1)+2) r3) (256*(c+1)+3) 5 40 t61 (.slice (some ⟨(256*(c+1)+2),0,none⟩) 1 1)).bind fun r4 =>
 (stN r4.2 1 t6 r4.1).bind fun h6 =>
 (Z0t h6 l .ready none).bind fun h7 =>
 cond (List.isEmpty ([]:List Nat)) (some ⟨.ret,[.bool true],h7,(c+1+1),[]⟩) none
theorem Zb8 (o:Orc H) (l:Nat) (t60 t6:Value) (h:H) (c:Nat):jx P o 66 (some l) Z2l (Z0l ([60]++[6]) [t60,t6]) h c [] (ZiI P o 66 l Z2i)=Z5H o l t60 t6 h c:=by kernel_rfl
noncomputable def Znr (o:Orc H) (t0 t1 t2:Value) (h:H) (c:Nat):Option (Rt H) :=
 (bif (t0:Value).cells.toList.all Z07 then
 (bif (t2:Value).cells.toList.all Z07 then
 (ldN (newB (newB (newB (newB (newB h (256*c+0) (t0:Value).cells.toList) (256*c+1) (t2:Value).cells.toList) (256*c+2) [(.slice none 0 0)]) (256*c+3) [(.bool false)]) (256*c+4) [(.int .i64 0)]) 1 (ptrTo (256*c+0))).bind fun t14 =>
 (callF o 38 [t14] (newB (newB (newB (newB (newB h (256*c+0) (t0:Value).cells.toList) (256*c+1) (t2:Value).cells.toList) (256*c+2) [(.slice none 0 0)]) (256*c+3) [(.bool false)]) (256*c+4) [(.int .i64 0)]) (c+1+1)).bind fun r0 =>
 (Z00 P .neq 33 r0.1 (.int .i64 0)).bind fun t16 =>
 Z08 t16
 ((stN r0.2.1 1 (ptrTo (256*c+2)) (.slice none 0 0)).bind fun h2 =>
 (stN h2 1 (ptrTo (256*c+3)) (.bool false)).bind fun h4 =>
 (stN h4 1 (ptrTo (256*c+4)) (.int .i64 7)).bind fun h6 =>
 (ld1 h6 (ptrTo (256*c+2))).bind fun v7 =>
 (ld1 h6 (ptrTo (256*c+3))).bind fun v8 =>
 (ld1 h6 (ptrTo (256*c+4))).bind fun v9 =>
 some ⟨.ret,[.tuple #[v7,v8,v9]],h6,(r0.2.2+1),[]⟩)
 ((Z00 P .lss 3 t1 (.int .i64 0)).bind fun t18 =>
 (gd t18 false r0.2.1 (r0.2.2+1) (some t1)).bind fun r10 =>
 (gd t18 false r10.2.1 r10.2.2 (Z04 (ptrTo (256*c+0)) 0)).bind fun r11 =>
 (gd t18 false r11.2.1 r11.2.2 (ld1 r11.2.1 r11.1)).bind fun r12 =>
 (gg t18 false r12.2.1 r12.2.2 (((Z2d r12.1).bind fun v=>some (v,r12.2.1)).bind fun r=>some (r.1,r.2,r12.2.2))).bind fun r13 =>
 (gd t18 false r13.2.1 r13.2.2 (Z00 P .geq 3 r10.1 r13.1)).bind fun r14 =>
 (Z0B t18 (.bool true) r14.1).bind fun t25 =>
 (gd t25 false r14.2.1 r14.2.2 (ldN r14.2.1 4 (ptrTo (256*c+1)))).bind fun r15 =>
 (gg t25 false r15.2.1 r15.2.2 (callF o 56 [r15.1] r15.2.1 r15.2.2)).bind fun r16 =>
 (gd t25 false r16.2.1 r16.2.2 (Z1X .not r16.1)).bind fun r17 =>
 (Z0B t25 (.bool true) r17.1).bind fun t30 =>
 Z08 t30
  ((stN r17.2.1 1 (ptrTo (256*c+2)) (.slice none 0 0)).bind fun h19 =>
  (stN h19 1 (ptrTo (256*c+3)) (.bool false)).bind fun h21 =>
  (stN h21 1 (ptrTo (256*c+4)) (.int .i64 1)).bind fun h23 =>
  (ld1 h23 (ptrTo (256*c+2))).bind fun v24 =>
  (ld1 h23 (ptrTo (256*c+3))).bind fun v25 =>
  (ld1 h23 (ptrTo (256*c+4))).bind fun v26 =>
  some ⟨.ret,[.tuple #[v24,v25,v26]],h23,(r17.2.2+1),[]⟩)
  ((ldN r17.2.1 4 (ptrTo (256*c+1))).bind fun t32 =>
  (Z1z [(.int .i64 0),(.int .i64 0),(.int .i64 0),(.int .i64 0),(.int .i64 0)] [(0,1,t1),(1,4,t32)]).bind fun t33 =>
  (stN (newB r17.2.1 (256*r17.2.2+3) [(.int .i64 0),(.int .i64 0),(.int .i64 0),(.int .i64 0),(.int .i64 0)]) 5 (ptrTo (256*r17.2.2+3)) t33).bind fun h28 =>
  (ldN h28 1 (ptrTo (256*c+0))).bind fun t34 =>
  (ldN h28 5 (ptrTo (256*r17.2.2+3))).bind fun t35 =>
  (callF o 57 [t34,t35,(.int .i64 2)] h28 (r17.2.2+1+1)).bind fun r29 =>
  (Z3O o 66 none [6,7,8,9] [] #[37] Z2n Z2k r29.1 [(ptrTo (256*c+2)),(ptrTo (256*c+3)),(ptrTo (256*c+4)),(ptrTo (256*r17.2.2+3))] r29.2.1 r29.2.2 []).bind fun q30 =>
  cond (Z0u q30.1 .normal)
   ((ldN q30.2.1 5 (ptrTo (256*r17.2.2+3))).bind fun t51 =>
   (stN (newB q30.2.1 (256*q30.2.2.1+1) [(.int .i64 0),(.int .i64 0),(.int .i64 0),(.int .i64 0),(.int .i64 0)]) 5 (ptrTo (256*q30.2.2.1+1)) t51).bind fun h36 =>
   (ldN h36 1 (ptrTo (256*c+0))).bind fun t52 =>
   (ldN h36 5 (ptrTo (256*r17.2.2+3))).bind fun t53 =>
   (callF o 57 [t52,t53,(.int .i64 3)] h36 (q30.2.2.1+1+1)).bind fun r37 =>
   (Z3O o 66 none [11] [] #[55] Z2m Z2j r37.1 [(ptrTo (256*q30.2.2.1+1))] r37.2.1 r37.2.2 q30.2.2.2).bind fun q38 =>
   cond (Z0u q38.1 .normal)
    ((stN q38.2.1 1 (ptrTo (256*c+2)) (.slice none 0 0)).bind fun h40 =>
    (ldN h40 1 (ptrTo (256*c+0))).bind fun t57 =>
    (ldN h40 5 (ptrTo (256*q30.2.2.1+1))).bind fun t58 =>
    (callF o 57 [t57,t58,(.int .i64 2)] h40 (q38.2.2.1+1+1)).bind fun r41 =>
    (Z3O o 66 none [6] [] #[60] Z2l Z2i r41.1 [(ptrTo (256*c+2))] r41.2.1 r41.2.2 q38.2.2.2).bind fun q42 =>
    cond (Z0u q42.1 .normal)
     ((ld1 q42.2.1 (ptrTo (256*c+2))).bind fun t65 =>
     (stN q42.2.1 1 (ptrTo (256*c+2)) t65).bind fun h44 =>
     (stN h44 1 (ptrTo (256*c+3)) (.bool false)).bind fun h46 =>
     (stN h46 1 (ptrTo (256*c+4)) (.int .i64 0)).bind fun h48 =>
     (Z09 h48 q42.2.2.2).bind fun h49 =>
     (ld1 h49 (ptrTo (256*c+2))).bind fun v50 =>
     (ld1 h49 (ptrTo (256*c+3))).bind fun v51 =>
     (ld1 h49 (ptrTo (256*c+4))).bind fun v52 =>
     some ⟨.ret,[.tuple #[v50,v51,v52]],h49,(q42.2.2.1+1),[]⟩)
     (none))
    (none))
   (cond (Z0u q30.1 .ret)
    ((Z09 q30.2.1 q30.2.2.2).bind fun h31 =>
    (ld1 h31 (ptrTo (256*c+2))).bind fun v32 =>
    (ld1 h31 (ptrTo (256*c+3))).bind fun v33 =>
    (ld1 h31 (ptrTo (256*c+4))).bind fun v34 =>
    some ⟨.ret,[.tuple #[v32,v33,v34]],h31,q30.2.2.1,[]⟩)
    (none))))
 else none)
 else none)
theorem Zl2 (o:Orc H) (t0 t1 t2:Value) (h:H) (c:Nat):jx P o 66 none f29_c (Z0l (List.range 3) [t0,t1,t2]) h c [] (Kfn P Try.f29.results.toList)=Znr o t0 t1 t2 h c:=by kernel_rfl
theorem f29_go {t0 t1 t2:Value} {h:FH} {c:Nat} {df:List Nat} {r:Rt FH} (e:Znr G t0 t1 t2 h c=some r):G (.fn 29) [t0,t1,t2] h c df=some r:=Z0r (a:=Zl1) bk_29 rfl (fun args h c=>by cases args <;> rfl) rfl ((Zl2 G t0 t1 t2 h c).trans e)
theorem ZfV {t37 t6 t7 t8 t9:Value} {l:Nat} {h:FH} {c:Nat} {df:List Nat} {r:Rt FH} (e:Z5J G l t37 t6 t7 t8 t9 h c=some r):G (.rnd 66 [6,7,8,9] [] [37] l Z2n Z2k) [t37,t6,t7,t8,t9] h c df=some r:=Z7U ((Zba G l t37 t6 t7 t8 t9 h c).trans e)
theorem ZfU {t55 t11:Value} {l:Nat} {h:FH} {c:Nat} {df:List Nat} {r:Rt FH} (e:Z5I G l t55 t11 h c=some r):G (.rnd 66 [11] [] [55] l Z2m Z2j) [t55,t11] h c df=some r:=Z7U ((Zb9 G l t55 t11 h c).trans e)
theorem ZfT {t60 t6:Value} {l:Nat} {h:FH} {c:Nat} {df:List Nat} {r:Rt FH} (e:Z5H G l t60 t6 h c=some r):G (.rnd 66 [6] [] [60] l Z2l Z2i) [t60,t6] h c df=some r:=Z7U ((Zb8 G l t60 t6 h c).trans e)

variable {H:Type} [HeapC H]
noncomputable def Z3A (o:Orc H) (rd:Option Nat) (t1 t2 t3 t4 t5 t6 t7 t8 t9:Value) (h:H) (c:Nat) (df:List Nat):Option (Rt H) :=
 (Z00 P .lss 3 t9 (.int .i64 4)).bind fun t42 =>
 Z08 t42
 (((Z04 t1 0).bind fun t45 =>
  (ld1 h t45).bind fun t46 =>
  (ixS 1 t7 t8).bind fun t49 =>
  (ld1 h t49).bind fun t50 =>
  (ixS 20 t46 t50).bind fun t52 =>
  (ixA 4 5 t52 t9).bind fun t53 =>
  (ldN h 5 t53).bind fun t54 =>
  (stN (newB h (256*(c+1)+10) [(.int .i64 0),(.int .i64 0),(.int .i64 0),(.int .i64 0),(.int .i64 0)]) 5 (ptrTo (256*(c+1)+10)) t54).bind fun h1 =>
  (Z04 (ptrTo (256*(c+1)+10)) 0).bind fun t55 =>
  (ld1 h1 t55).bind fun t56 =>
  (Z00 P .lss 3 t56 (.int .i64 0)).bind fun t57 =>
  Z08 t57
   (some ⟨.normal,[t1,t2,t3,t4,t5,t6,t7,t8,t9],h1,(c+1+1+1),df⟩)
   ((Z04 (ptrTo (256*(c+1)+10)) 1).bind fun t58 =>
   (ldN h1 4 t58).bind fun t59 =>
   (callF o 49 [t59] h1 (c+1+1+1+1)).bind fun r2 =>
   (Z1X .neg r2.1).bind fun t61 =>
   (ixS 1 t7 t8).bind fun t65 =>
   (ld1 r2.2.1 t65).bind fun t66 =>
   (ixS 1 t5 t66).bind fun t67 =>
   (ld1 r2.2.1 t67).bind fun t68 =>
   (Z00 P .mul 3 t61 t68).bind fun t69 =>
   (bif (Z1f (Z2t t65) h1 r2.2.1 && (Z1f (Z2t t67) h1 r2.2.1 && true)) then
   (Z04 (ptrTo (256*(c+1)+10)) 0).bind fun t71 =>
   (ld1 r2.2.1 t71).bind fun t72 =>
   (ixS 1 t5 t72).bind fun t73 =>
   (ld1 r2.2.1 t73).bind fun t74 =>
   (Z00 P .eql 3 t74 (.int .i64 0)).bind fun t75 =>
   (Z08 t75
    ((Z04 (ptrTo (256*(c+1)+10)) 0).bind fun t77 =>
    (ld1 r2.2.1 t77).bind fun t78 =>
    (ixS 1 t5 t78).bind fun t80 =>
    (stN r2.2.1 1 t80 t69).bind fun h4 =>
    (Z04 (ptrTo (256*(c+1)+10)) 0).bind fun t82 =>
    (ld1 h4 t82).bind fun t83 =>
    (Z7R [(.int .i64 0)] [(0,1,t83)]).bind fun r5 =>
    (Z6e (newB h4 (256*(r2.2.2+1+1)+3) r5) (256*(r2.2.2+1+1)+4) 1 8 t7 (.slice (some ⟨(256*(r2.2.2+1+1)+3),0,none⟩) 1 1)).bind fun r6 =>
    some ⟨.normal,[t1,t2,t3,t4,t5,t6,r6.1,t8,t9],r6.2,(r2.2.2+1+1+1),df⟩)
    ((Z04 (ptrTo (256*(c+1)+10)) 0).bind fun t87 =>
    (ld1 r2.2.1 t87).bind fun t88 =>
    (ixS 1 t5 t88).bind fun t89 =>
    (ld1 r2.2.1 t89).bind fun t90 =>
    (Z00 P .neq 3 t90 t69).bind fun t92 =>
    Z08 t92
     (some ⟨.ret,[t1,(.slice none 0 0),(.bool false),(.int .i64 0),t5,t6,t7,t8,t9],r2.2.1,(r2.2.2+1+1+1),df⟩)
     (some ⟨.normal,[t1,t2,t3,t4,t5,t6,t7,t8,t9],r2.2.1,(r2.2.2+1+1),df⟩)):Option (Rt H)).bind fun r11 =>
   cond (Z0u r11.e .normal)
    (some ⟨.normal,[r11.v 0,r11.v 1,r11.v 2,r11.v 3,r11.v 4,r11.v 5,r11.v 6,r11.v 7,r11.v 8],r11.h,r11.c,r11.df⟩)
    (cond (Z0u r11.e .ret)
     (some ⟨.ret,[r11.v 0,r11.v 1,r11.v 2,r11.v 3,r11.v 4,r11.v 5,r11.v 6,r11.v 7,r11.v 8],r11.h,r11.c,r11.df⟩)
     (none))
   else none)):Option (Rt H)).bind fun r12 =>
 cond (Z0u r12.e .normal)
  ((Z00 P .add 3 (r12.v 8) (.int .i64 1)).bind fun t44 =>
  some ⟨.normal,[r12.v 0,r12.v 1,r12.v 2,r12.v 3,r12.v 4,r12.v 5,r12.v 6,r12.v 7,t44],r12.h,(r12.c+1),r12.df⟩)
  (cond (Z0u r12.e .ret)
   (some ⟨.ret,[r12.v 0,r12.v 1,r12.v 2,r12.v 3,r12.v 4,r12.v 5,r12.v 6,r12.v 7,r12.v 8],r12.h,r12.c,r12.df⟩)
   (none)))
 (some ⟨(.exit 4),[t1,t2,t3,t4,t5,t6,t7,t8,t9],h,(c+1),df⟩)
theorem Z26 (o:Orc H) (rd:Option Nat) (t1 t2 t3 t4 t5 t6 t7 t8 t9:Value) (h:H) (c:Nat) (df:List Nat):jx P o 94 rd Z7j (Z0l [1,2,3,4,5,6,7,8,9] [t1,t2,t3,t4,t5,t6,t7,t8,t9]) h c df (Klp [1,2,3,4,5,6,7,8,9])=Z3A o rd t1 t2 t3 t4 t5 t6 t7 t8 t9 h c df:=by kernel_rfl
noncomputable def Z5G (o:Orc H) (rd:Option Nat) (t1 t2 t3 t4 t5 t6 t7 t8:Value) (h:H) (c:Nat) (df:List Nat):Option (Rt H) :=
 (Z2d t7).bind fun t37 =>
 (Z00 P .lss 3 t8 t37).bind fun t38 =>
 Z08 t38
 ((o (Za8 rd) [t1,t2,t3,t4,t5,t6,t7,t8,(.int .i64 0)] h (c+1+1) df).bind fun r0 =>
 cond (Z0u r0.e (.exit 4))
  ((Z00 P .add 3 (r0.v 7) (.int .i64 1)).bind fun t40 =>
  some ⟨.normal,[r0.v 0,r0.v 1,r0.v 2,r0.v 3,r0.v 4,r0.v 5,r0.v 6,t40],r0.h,(r0.c+1),r0.df⟩)
  (cond (Z0u r0.e .ret)
   (some ⟨.ret,[r0.v 0,r0.v 1,r0.v 2,r0.v 3,r0.v 4,r0.v 5,r0.v 6,r0.v 7],r0.h,r0.c,r0.df⟩)
   (none)))
 (some ⟨(.exit 2),[t1,t2,t3,t4,t5,t6,t7,t8],h,(c+1),df⟩)
theorem Z55 (o:Orc H) (rd:Option Nat) (t1 t2 t3 t4 t5 t6 t7 t8:Value) (h:H) (c:Nat) (df:List Nat):jx P o 94 rd Z7k (Z0l [1,2,3,4,5,6,7,8] [t1,t2,t3,t4,t5,t6,t7,t8]) h c df (Klp [1,2,3,4,5,6,7,8])=Z5G o rd t1 t2 t3 t4 t5 t6 t7 t8 h c df:=by kernel_rfl
noncomputable def Z4v (o:Orc H) (rd:Option Nat) (t1 t2 t3 t4 t5 t6:Value) (h:H) (c:Nat) (df:List Nat):Option (Rt H) :=
 (Z2d t5).bind fun t21 =>
 (Z00 P .lss 3 t6 t21).bind fun t22 =>
 Z08 t22
 (((ixS 1 t5 t6).bind fun t27 =>
  (ld1 h t27).bind fun t28 =>
  (Z00 P .neq 3 t28 (.int .i64 0)).bind fun t29 =>
  Z08 t29
   (some ⟨.normal,[t1,t2,t3,t4,t5,t6],h,(c+1+1),df⟩)
   ((ixS 1 t5 t6).bind fun t32 =>
   (stN h 1 t32 (.int .i64 1)).bind fun h1 =>
   (Z7R [(.int .i64 0)] [(0,1,t6)]).bind fun r2 =>
   (o (Za9 rd) [t1,t2,t3,t4,t5,t6,(.slice (some ⟨(256*(c+1+1+1)+1),0,none⟩) 1 1),(.int .i64 0)] (newB h1 (256*(c+1+1+1)+1) r2) (c+1+1+1+1+1) df).bind fun r3 =>
   cond (Z0u r3.e (.exit 2))
    (some ⟨.normal,[r3.v 0,r3.v 1,r3.v 2,r3.v 3,r3.v 4,r3.v 5],r3.h,r3.c,r3.df⟩)
    (cond (Z0u r3.e .ret)
     (some ⟨.ret,[r3.v 0,r3.v 1,r3.v 2,r3.v 3,r3.v 4,r3.v 5],r3.h,r3.c,r3.df⟩)
     (none))):Option (Rt H)).bind fun r4 =>
 cond (Z0u r4.e .normal)
  ((Z00 P .add 3 (r4.v 5) (.int .i64 1)).bind fun t24 =>
  some ⟨.normal,[r4.v 0,r4.v 1,r4.v 2,r4.v 3,r4.v 4,t24],r4.h,(r4.c+1),r4.df⟩)
  (cond (Z0u r4.e .ret)
   (some ⟨.ret,[r4.v 0,r4.v 1,r4.v 2,r4.v 3,r4.v 4,r4.v 5],r4.h,r4.c,r4.df⟩)
   (none)))
 (some ⟨(.exit 0),[t1,t2,t3,t4,t5,t6],h,(c+1),df⟩)
theorem Z2P (o:Orc H) (rd:Option Nat) (t1 t2 t3 t4 t5 t6:Value) (h:H) (c:Nat) (df:List Nat):jx P o 94 rd Z7l (Z0l [1,2,3,4,5,6] [t1,t2,t3,t4,t5,t6]) h c df (Klp [1,2,3,4,5,6])=Z4v o rd t1 t2 t3 t4 t5 t6 h c df:=by kernel_rfl
noncomputable def Znq (o:Orc H) (t0:Value) (h:H) (c:Nat):Option (Rt H) :=
 (bif (t0:Value).cells.toList.all Z07 then
 (ldN (newB h (256*c+0) (t0:Value).cells.toList) 1 (ptrTo (256*c+0))).bind fun t12 =>
 (callF o 14 [t12] (newB h (256*c+0) (t0:Value).cells.toList) (c+1+1)).bind fun r0 =>
 (Z00 P .neq 33 r0.1 (.int .i64 0)).bind fun t14 =>
 Z08 t14
 (some ⟨.ret,[.tuple #[(.slice none 0 0),(.bool false),(.int .i64 7)]],r0.2.1,(r0.2.2+1),[]⟩)
 ((Z04 (ptrTo (256*c+0)) 0).bind fun t15 =>
 (ld1 r0.2.1 t15).bind fun t16 =>
 (Z2d t16).bind fun t17 =>
 (mkS 1 8 [(.int .i64 0)] t17 t17).bind fun r1 =>
 (o (Zaa none) [(ptrTo (256*c+0)),(.slice none 0 0),(.bool false),(.int .i64 0),(.slice (some ⟨(256*r0.2.2+3),0,none⟩) r1.2.1 r1.2.2),(.int .i64 0)] (newB r0.2.1 (256*r0.2.2+3) r1.1) (r0.2.2+1+1) []).bind fun r2 =>
 cond (Z0u r2.e (.exit 0))
  ((Z09 r2.h r2.df).bind fun h4 =>
  some ⟨.ret,[.tuple #[r2.v 4,(.bool true),(.int .i64 0)]],h4,(r2.c+1),[]⟩)
  (cond (Z0u r2.e .ret)
   ((Z09 r2.h r2.df).bind fun h3 =>
   some ⟨.ret,[.tuple #[r2.v 1,r2.v 2,r2.v 3]],h3,r2.c,[]⟩)
   (none)))
 else none)
theorem Zl0 (o:Orc H) (t0:Value) (h:H) (c:Nat):jx P o 94 none f30_c (Z0l (List.range 1) [t0]) h c [] (Kfn P Try.f30.results.toList)=Znq o t0 h c:=by kernel_rfl
theorem f30_go {t0:Value} {h:FH} {c:Nat} {df:List Nat} {r:Rt FH} (e:Znq G t0 h c=some r):G (.fn 30) [t0] h c df=some r:=Z0r (a:=ZkZ) bk_30 rfl (fun args h c=>by cases args <;> rfl) rfl ((Zl0 G t0 h c).trans e)
noncomputable def Z5F (o:Orc H) (rd:Option Nat) (t0 t1 t4 t5 t6 t14 t15 t19 t20:Value) (h:H) (c:Nat) (df:List Nat):Option (Rt H) :=
 (Z00 P .lss 3 t20 t19).bind fun t21 =>
 Z08 t21
 ((gd t6 true h (c+1+1+1) (some t0)).bind fun r0 =>
 (gd t6 true r0.2.1 r0.2.2 (some t20)).bind fun r1 =>
 (gd t6 true r1.2.1 r1.2.2 (ixS 5 r0.1 r1.1)).bind fun r2 =>
 (gd t6 true r2.2.1 r2.2.2 (ldN r2.2.1 5 r2.1)).bind fun r3 =>
 (gd t6 true r3.2.1 r3.2.2 (some t1)).bind fun r4 =>
 (gd t6 true r4.2.1 r4.2.2 (some t20)).bind fun r5 =>
 (gd t6 true r5.2.1 r5.2.2 (some t5)).bind fun r6 =>
 (gd t6 true r6.2.1 r6.2.2 (Z00 P .add 3 r5.1 r6.1)).bind fun r7 =>
 (gd t6 true r7.2.1 r7.2.2 (some t1)).bind fun r8 =>
 (gg t6 true r8.2.1 r8.2.2 (((Z2d r8.1).bind fun v=>some (v,r8.2.1)).bind fun r=>some (r.1,r.2,r8.2.2))).bind fun r9 =>
 (gd t6 true r9.2.1 r9.2.2 (Z00 P .rem 3 r7.1 r9.1)).bind fun r10 =>
 (gd t6 true r10.2.1 r10.2.2 (ixS 5 r4.1 r10.1)).bind fun r11 =>
 (gd t6 true r11.2.1 r11.2.2 (ldN r11.2.1 5 r11.1)).bind fun r12 =>
 (gd t6 true r12.2.1 r12.2.2 (Z00 P .eql 67 r3.1 r12.1)).bind fun r13 =>
 (Z0B t6 r13.1 (.bool false)).bind fun t39 =>
 (Z00 P .add 3 t20 (.int .i64 1)).bind fun t40 =>
 some ⟨.normal,[t0,t1,t4,t5,t39,t14,t15,t19,t40],r13.2.1,(r13.2.2+1),df⟩)
 (some ⟨(.exit 2),[t0,t1,t4,t5,t6,t14,t15,t19,t20],h,(c+1),df⟩)
theorem Z54 (o:Orc H) (rd:Option Nat) (t0 t1 t4 t5 t6 t14 t15 t19 t20:Value) (h:H) (c:Nat) (df:List Nat):jx P o 46 rd Z7g (Z0l [0,1,4,5,6,14,15,19,20] [t0,t1,t4,t5,t6,t14,t15,t19,t20]) h c df (Klp [0,1,4,5,6,14,15,19,20])=Z5F o rd t0 t1 t4 t5 t6 t14 t15 t19 t20 h c df:=by kernel_rfl
noncomputable def Z7i (o:Orc H) (rd:Option Nat) (t0 t1 t4 t14 t15:Value) (h:H) (c:Nat) (df:List Nat):Option (Rt H) :=
 (Z00 P .lss 3 t15 t14).bind fun t16 =>
 Z08 t16
 ((Z2d t0).bind fun t19 =>
 (o (Za6 rd) [t0,t1,t4,t15,(.bool true),t14,t15,t19,(.int .i64 0)] h (c+1+1+1+1) df).bind fun r0 =>
 cond (Z0u r0.e (.exit 2))
  (Z08 (r0.v 4)
   (some ⟨.ret,[r0.v 0,r0.v 1,(.bool true),r0.v 5,r0.v 6],r0.h,(r0.c+1+1),r0.df⟩)
   ((Z00 P .add 3 (r0.v 6) (.int .i64 1)).bind fun t42 =>
   some ⟨.normal,[r0.v 0,r0.v 1,r0.v 2,r0.v 5,t42],r0.h,(r0.c+1+1),r0.df⟩))
  (none))
 (some ⟨(.exit 0),[t0,t1,t4,t14,t15],h,(c+1),df⟩)
theorem Z6C (o:Orc H) (rd:Option Nat) (t0 t1 t4 t14 t15:Value) (h:H) (c:Nat) (df:List Nat):jx P o 46 rd Z7h (Z0l [0,1,4,14,15] [t0,t1,t4,t14,t15]) h c df (Klp [0,1,4,14,15])=Z7i o rd t0 t1 t4 t14 t15 h c df:=by kernel_rfl
noncomputable def Znp (o:Orc H) (t0 t1:Value) (h:H) (c:Nat):Option (Rt H) :=
 (Z2d t0).bind fun t9 =>
 (Z2d t1).bind fun t11 =>
 (Z00 P .neq 3 t9 t11).bind fun t12 =>
 Z08 t12
 (some ⟨.ret,[(.bool false)],h,(c+1+1+1),[]⟩)
 ((Z2d t0).bind fun t14 =>
 (o (Za7 none) [t0,t1,(.bool false),t14,(.int .i64 0)] h (c+1+1+1) []).bind fun r0 =>
 cond (Z0u r0.e (.exit 0))
  ((Z2d (r0.v 0)).bind fun t44 =>
  (Z00 P .eql 3 t44 (.int .i64 0)).bind fun t45 =>
  (Z09 r0.h r0.df).bind fun h2 =>
  some ⟨.ret,[t45],h2,(r0.c+1),[]⟩)
  (cond (Z0u r0.e .ret)
   ((Z09 r0.h r0.df).bind fun h1 =>
   some ⟨.ret,[r0.v 2],h1,r0.c,[]⟩)
   (none)))
theorem ZkY (o:Orc H) (t0 t1:Value) (h:H) (c:Nat):jx P o 46 none f31_c (Z0l (List.range 2) [t0,t1]) h c [] (Kfn P Try.f31.results.toList)=Znp o t0 t1 h c:=by kernel_rfl
theorem f31_go {t0 t1:Value} {h:FH} {c:Nat} {df:List Nat} {r:Rt FH} (e:Znp G t0 t1 h c=some r):G (.fn 31) [t0,t1] h c df=some (gcR h c [] r):=Z0r (a:=ZkX) bk_31 rfl (fun args h c=>by cases args <;> rfl) rfl ((ZkY G t0 t1 h c).trans e)
noncomputable def Z7f (o:Orc H) (rd:Option Nat) (t0 t1 t4 t12 t13:Value) (h:H) (c:Nat) (df:List Nat):Option (Rt H) :=
 (Z00 P .lss 3 t13 t12).bind fun t14 =>
 Z08 t14
 ((ixS 5 t0 t13).bind fun t18 =>
 (ldN h 5 t18).bind fun t19 =>
 (ixS 5 t1 t13).bind fun t22 =>
 (ldN h 5 t22).bind fun t23 =>
 (Z00 P .neq 67 t19 t23).bind fun t24 =>
 Z08 t24
  (some ⟨.ret,[t0,t1,(.bool false),t12,t13],h,(c+1+1+1+1),df⟩)
  ((Z00 P .add 3 t13 (.int .i64 1)).bind fun t25 =>
  some ⟨.normal,[t0,t1,t4,t12,t25],h,(c+1+1+1+1),df⟩))
 (some ⟨(.exit 0),[t0,t1,t4,t12,t13],h,(c+1),df⟩)
theorem Z6B (o:Orc H) (rd:Option Nat) (t0 t1 t4 t12 t13:Value) (h:H) (c:Nat) (df:List Nat):jx P o 26 rd Z7e (Z0l [0,1,4,12,13] [t0,t1,t4,t12,t13]) h c df (Klp [0,1,4,12,13])=Z7f o rd t0 t1 t4 t12 t13 h c df:=by kernel_rfl
noncomputable def Zno (o:Orc H) (t0 t1:Value) (h:H) (c:Nat):Option (Rt H) :=
 (Z2d t0).bind fun t7 =>
 (Z2d t1).bind fun t9 =>
 (Z00 P .neq 3 t7 t9).bind fun t10 =>
 Z08 t10
 (some ⟨.ret,[(.bool false)],h,(c+1+1+1),[]⟩)
 ((Z2d t0).bind fun t12 =>
 (o (Za5 none) [t0,t1,(.bool false),t12,(.int .i64 0)] h (c+1+1+1) []).bind fun r0 =>
 cond (Z0u r0.e (.exit 0))
  ((Z09 r0.h r0.df).bind fun h2 =>
  some ⟨.ret,[(.bool true)],h2,(r0.c+1),[]⟩)
  (cond (Z0u r0.e .ret)
   ((Z09 r0.h r0.df).bind fun h1 =>
   some ⟨.ret,[r0.v 2],h1,r0.c,[]⟩)
   (none)))
theorem ZkW (o:Orc H) (t0 t1:Value) (h:H) (c:Nat):jx P o 26 none f32_c (Z0l (List.range 2) [t0,t1]) h c [] (Kfn P Try.f32.results.toList)=Zno o t0 t1 h c:=by kernel_rfl
theorem f32_go {t0 t1:Value} {h:FH} {c:Nat} {df:List Nat} {r:Rt FH} (e:Zno G t0 t1 h c=some r):G (.fn 32) [t0,t1] h c df=some (gcR h c [] r):=Z0r (a:=ZkV) bk_32 rfl (fun args h c=>by cases args <;> rfl) rfl ((ZkW G t0 t1 h c).trans e)
noncomputable def Znn (o:Orc H) (h:H) (c:Nat):Option (Rt H) :=
 (callF o 62 [(.string (ByteArray.mk #[49,32,48,32,49,48,50,51,32,48,32,49,48,50,51,32,48,32,48,49,51,50,32,48,32,48,49,51,50]))] (newB h (256*c+0) [(.slice none 0 0)]) (c+1+1)).bind fun r0 =>
 (Z46 r0.1 0).bind fun t5 =>
 (Z46 r0.1 1).bind fun t6 =>
 (stN (newB r0.2.1 (256*(c+1)+4) [(.slice none 0 0)]) 1 (ptrTo (256*(c+1)+4)) t5).bind fun h2 =>
 (ldN h2 1 (ptrTo (256*(c+1)+4))).bind fun t7 =>
 (stN h2 1 (ptrTo (256*c+0)) t7).bind fun h4 =>
 (ldN h4 1 (ptrTo (256*c+0))).bind fun v5 =>
 some ⟨.ret,[v5],h4,(r0.2.2+1),[]⟩
theorem ZkU (o:Orc H) (h:H) (c:Nat):jx P o 8 none f37_c (Z0l (List.range 0) []) h c [] (Kfn P Try.f37.results.toList)=Znn o h c:=by kernel_rfl
noncomputable def Z3z (o:Orc H) (l:Nat) (t13 t14 t1 t2 t3:Value) (h:H) (c:Nat):Option (Rt H) :=
 (stN (newB h (256*c+0) [(.int .i64 0),(.int .i64 0)]) 2 (ptrTo (256*c+0)) t13).bind fun h1 =>
 (stN (newB h1 (256*(c+1)+0) [(.int .i64 0),(.int .i64 0),(.int .i64 0),(.int .i64 0),(.int .i64 0)]) 5 (ptrTo (256*(c+1)+0)) t14).bind fun h3 =>
 (Z27 h3 l).bind fun h4 =>
 ((ldN h4 5 (ptrTo (256*(c+1)+0))).bind fun t15 =>
 (ldN h4 5 t3).bind fun t16 =>
 (Z00 P .eql 44 t15 t16).bind fun t17 =>
 Z08 t17
  (some ⟨.normal,[],h4,(c+1+1+1),[]⟩)
  ((Z04 (ptrTo (256*(c+1)+0)) 0).bind fun t18 =>
  (ld1 h4 t18).bind fun t19 =>
  (Z00 P .lss 3 t19 (.int .i64 0)).bind fun t20 =>
  (gd t20 false h4 (c+1+1+1+1) (Z04 (ptrTo (256*(c+1)+0)) 0)).bind fun r5 =>
  (gd t20 false r5.2.1 r5.2.2 (ld1 r5.2.1 r5.1)).bind fun r6 =>
  (gd t20 false r6.2.1 r6.2.2 (Z04 t1 0)).bind fun r7 =>
  (gd t20 false r7.2.1 r7.2.2 (ld1 r7.2.1 r7.1)).bind fun r8 =>
  (gg t20 false r8.2.1 r8.2.2 (((Z2d r8.1).bind fun v=>some (v,r8.2.1)).bind fun r=>some (r.1,r.2,r8.2.2))).bind fun r9 =>
  (gd t20 false r9.2.1 r9.2.2 (Z00 P .geq 3 r6.1 r9.1)).bind fun r10 =>
  (Z0B t20 (.bool true) r10.1).bind fun t28 =>
  (gd t28 false r10.2.1 r10.2.2 (Z04 (ptrTo (256*(c+1)+0)) 1)).bind fun r11 =>
  (gd t28 false r11.2.1 r11.2.2 (ldN r11.2.1 4 r11.1)).bind fun r12 =>
  (gg t28 false r12.2.1 r12.2.2 (callF o 56 [r12.1] r12.2.1 r12.2.2)).bind fun r13 =>
  (gd t28 false r13.2.1 r13.2.2 (Z1X .not r13.1)).bind fun r14 =>
  (Z0B t28 (.bool true) r14.1).bind fun t34 =>
  (gd t34 false r14.2.1 r14.2.2 (Z04 (ptrTo (256*(c+1)+0)) 0)).bind fun r15 =>
  (gd t34 false r15.2.1 r15.2.2 (ld1 r15.2.1 r15.1)).bind fun r16 =>
  (gd t34 false r16.2.1 r16.2.2 (Z04 (ptrTo (256*c+0)) 0)).bind fun r17 =>
  (gd t34 false r17.2.1 r17.2.2 (ld1 r17.2.1 r17.1)).bind fun r18 =>
  (gd t34 false r18.2.1 r18.2.2 (Z00 P .eql 3 r16.1 r18.1)).bind fun r19 =>
  (gd t34 false r19.2.1 r19.2.2 (some r19.1)).bind fun r20 =>
  (gd r20.1 true r20.2.1 r20.2.2 (Z04 (ptrTo (256*c+0)) 1)).bind fun r21 =>
  (gd r20.1 true r21.2.1 r21.2.2 (ld1 r21.2.1 r21.1)).bind fun r22 =>
  (gd r20.1 true r22.2.1 r22.2.2 (Z04 (ptrTo (256*(c+1)+0)) 1)).bind fun r23 =>
  (gd r20.1 true r23.2.1 r23.2.2 (ixA 4 1 r23.1 r22.1)).bind fun r24 =>
  (gd r20.1 true r24.2.1 r24.2.2 (ld1 r24.2.1 r24.1)).bind fun r25 =>
  (gd r20.1 true r25.2.1 r25.2.2 (Z04 (ptrTo (256*c+0)) 1)).bind fun r26 =>
  (gd r20.1 true r26.2.1 r26.2.2 (ld1 r26.2.1 r26.1)).bind fun r27 =>
  (gd r20.1 true r27.2.1 r27.2.2 (Z00 P .eql 3 r25.1 r27.1)).bind fun r28 =>
  (gg t34 false r28.2.1 r28.2.2 (Z8r r28.2.1 r28.2.2 r20.1 r28.1 (.bool false))).bind fun r29 =>
  (Z0B t34 (.bool true) r29.1).bind fun t51 =>
  Z08 t51
   ((stN r29.2.1 1 t2 (.int .i64 7)).bind fun h31 =>
   some ⟨.ret,[],h31,(r29.2.2+1),[]⟩)
   ((Z04 t1 0).bind fun t52 =>
   (ld1 r29.2.1 t52).bind fun t53 =>
   (Z04 (ptrTo (256*(c+1)+0)) 0).bind fun t54 =>
   (ld1 r29.2.1 t54).bind fun t55 =>
   (Z04 (ptrTo (256*c+0)) 1).bind fun t56 =>
   (ld1 r29.2.1 t56).bind fun t57 =>
   (Z04 (ptrTo (256*(c+1)+0)) 1).bind fun t58 =>
   (ixA 4 1 t58 t57).bind fun t59 =>
   (ld1 r29.2.1 t59).bind fun t60 =>
   (ixS 20 t53 t55).bind fun t61 =>
   (ixA 4 5 t61 t60).bind fun t62 =>
   (ldN r29.2.1 5 t62).bind fun t63 =>
   (Z04 (ptrTo (256*c+0)) 0).bind fun t64 =>
   (ld1 r29.2.1 t64).bind fun t65 =>
   (Z04 (ptrTo (256*(c+1)+0)) 1).bind fun t66 =>
   (ldN r29.2.1 4 t66).bind fun t67 =>
   (callF o 64 [t67] r29.2.1 (r29.2.2+1)).bind fun r32 =>
   (Z1z [(.int .i64 0),(.int .i64 0),(.int .i64 0),(.int .i64 0),(.int .i64 0)] [(0,1,t65),(1,4,r32.1)]).bind fun t69 =>
   (Z00 P .neq 44 t63 t69).bind fun t70 =>
   (bif (Z1f (Z2t t52) r29.2.1 r32.2.1 && (Z1f (Z2t t54) r29.2.1 r32.2.1 && (Z1f (Z2t t56) r29.2.1 r32.2.1 && (Z1f (Z2t t59) r29.2.1 r32.2.1 && (Z1f (Z2t t62) r29.2.1 r32.2.1 && (Z1f (Z2t t64) r29.2.1 r32.2.1 && true)))))) then
   Z08 t70
    ((stN r32.2.1 1 t2 (.int .i64 7)).bind fun h34 =>
    some ⟨.ret,[],h34,(r32.2.2+1),[]⟩)
    (some ⟨.normal,[],r32.2.1,r32.2.2,[]⟩)
   else none))):Option (Rt H)).bind fun r35 =>
 cond (Z0u r35.e .normal)
 ((Z0t r35.h l .ready none).bind fun h37 =>
 cond (List.isEmpty (r35.df:List Nat)) (some ⟨.ret,[.bool true],h37,r35.c,[]⟩) none)
 (cond (Z0u r35.e .ret)
  ((Z0t r35.h l .done (some .ret)).bind fun h36 =>
  cond (List.isEmpty (r35.df:List Nat)) (some ⟨.ret,[.bool false],h36,r35.c,[]⟩) none)
  (none))
theorem Z6A (o:Orc H) (l:Nat) (t13 t14 t1 t2 t3:Value) (h:H) (c:Nat):jx P o 71 (some l) Z1w (Z0l ([13,14]++[1,2,3]) [t13,t14,t1,t2,t3]) h c [] (ZiI P o 71 l Z1v)=Z3z o l t13 t14 t1 t2 t3 h c:=by kernel_rfl
noncomputable def ZhL (o:Orc H) (t0:Value) (h:H) (c:Nat):Option (Rt H) :=
 (bif (t0:Value).cells.toList.all Z07 then
 (Z04 (ptrTo (256*c+0)) 0).bind fun t6 =>
 (ld1 (newB (newB h (256*c+0) (t0:Value).cells.toList) (256*c+1) [(.int .i64 0)]) t6).bind fun t7 =>
 (Z2d t7).bind fun t8 =>
 (Z00 P .gtr 3 t8 (.int .i64 1000)).bind fun t9 =>
 Z08 t9
 ((stN (newB (newB h (256*c+0) (t0:Value).cells.toList) (256*c+1) [(.int .i64 0)]) 1 (ptrTo (256*c+1)) (.int .i64 7)).bind fun h1 =>
 (ld1 h1 (ptrTo (256*c+1))).bind fun v2 =>
 some ⟨.ret,[v2],h1,(c+1+1+1),[]⟩)
 ((Z1z [(.int .i64 0),(.int .i64 0),(.int .i64 0),(.int .i64 0),(.int .i64 0)] [(0,1,(.int .i64 (-1)))]).bind fun t10 =>
 (stN (newB (newB (newB h (256*c+0) (t0:Value).cells.toList) (256*c+1) [(.int .i64 0)]) (256*(c+1+1)+1) [(.int .i64 0),(.int .i64 0),(.int .i64 0),(.int .i64 0),(.int .i64 0)]) 5 (ptrTo (256*(c+1+1)+1)) t10).bind fun h4 =>
 (ldN h4 1 (ptrTo (256*c+0))).bind fun t11 =>
 (callF o 63 [t11] h4 (c+1+1+1+1)).bind fun r5 =>
 (Z3O o 71 none [1,2,3] [] #[13,14] Z1w Z1v r5.1 [(ptrTo (256*c+0)),(ptrTo (256*c+1)),(ptrTo (256*(c+1+1)+1))] r5.2.1 r5.2.2 []).bind fun q6 =>
 cond (Z0u q6.1 .normal)
  ((stN q6.2.1 1 (ptrTo (256*c+1)) (.int .i64 0)).bind fun h10 =>
  (Z09 h10 q6.2.2.2).bind fun h11 =>
  (ld1 h11 (ptrTo (256*c+1))).bind fun v12 =>
  some ⟨.ret,[v12],h11,(q6.2.2.1+1),[]⟩)
  (cond (Z0u q6.1 .ret)
   ((Z09 q6.2.1 q6.2.2.2).bind fun h7 =>
   (ld1 h7 (ptrTo (256*c+1))).bind fun v8 =>
   some ⟨.ret,[v8],h7,q6.2.2.1,[]⟩)
   (none)))
 else none)
theorem ZeK (o:Orc H) (t0:Value) (h:H) (c:Nat):jx P o 71 none f38_c (Z0l (List.range 1) [t0]) h c [] (Kfn P Try.f38.results.toList)=ZhL o t0 h c:=by kernel_rfl
theorem f38_go {t0:Value} {h:FH} {c:Nat} {df:List Nat} {r:Rt FH} (e:ZhL G t0 h c=some r):G (.fn 38) [t0] h c df=some (gcR h c [] r):=Z0r (a:=ZcX) bk_38 rfl (fun args h c=>by cases args <;> rfl) rfl ((ZeK G t0 h c).trans e)
theorem ZfR {t13 t14 t1 t2 t3:Value} {l:Nat} {h:FH} {c:Nat} {df:List Nat} {r:Rt FH} (e:Z3z G l t13 t14 t1 t2 t3 h c=some r):G (.rnd 71 [1,2,3] [] [13,14] l Z1w Z1v) [t13,t14,t1,t2,t3] h c df=some r:=Z7U ((Z6A G l t13 t14 t1 t2 t3 h c).trans e)

variable {H:Type} [HeapC H]
noncomputable def Z3y (o:Orc H) (rd:Option Nat) (t2 t3 t4 t5 t6 t8 t10 t12 t13 t59 t60 t105 t106:Value) (h:H) (c:Nat) (df:List Nat):Option (Rt H) :=
 (Z00 P .lss 3 t106 (.int .i64 6)).bind fun t107 =>
 Z08 t107
 ((ixV 6 true 2 t105 t106).bind fun t109 =>
 (stN (newB h (256*(c+1)+2) [(.int .i64 0),(.int .i64 0)]) 2 (ptrTo (256*(c+1)+2)) t109).bind fun h1 =>
 (Z00 P .mul 3 (.int .i64 6) t13).bind fun t112 =>
 (Z00 P .add 3 t112 t106).bind fun t114 =>
 (ixS 1 t8 t114).bind fun t115 =>
 (ld1 h1 t115).bind fun t116 =>
 (Z04 t12 3).bind fun t117 =>
 (ld1 h1 t117).bind fun t118 =>
 (ixS 1 t118 t116).bind fun t120 =>
 (ld1 h1 t120).bind fun t121 =>
 (Z00 P .add 3 t121 (.int .i64 1)).bind fun t122 =>
 (ixS 1 t118 t116).bind fun t123 =>
 (stN h1 1 t123 t122).bind fun h3 =>
 (Z00 P .mul 3 (.int .i64 16) t13).bind fun t126 =>
 (ixA 2 1 (ptrTo (256*(c+1)+2)) (.int .i64 0)).bind fun t127 =>
 (ld1 h3 t127).bind fun t128 =>
 (Z00 P .mul 3 (.int .i64 4) t128).bind fun t129 =>
 (Z00 P .add 3 t126 t129).bind fun t130 =>
 (ixA 2 1 (ptrTo (256*(c+1)+2)) (.int .i64 1)).bind fun t131 =>
 (ld1 h3 t131).bind fun t132 =>
 (Z00 P .add 3 t130 t132).bind fun t133 =>
 (ixS 1 t6 t133).bind fun t134 =>
 (ld1 h3 t134).bind fun t135 =>
 (Z00 P .mul 3 (.int .i64 16) t13).bind fun t138 =>
 (ixA 2 1 (ptrTo (256*(c+1)+2)) (.int .i64 1)).bind fun t139 =>
 (ld1 h3 t139).bind fun t140 =>
 (Z00 P .mul 3 (.int .i64 4) t140).bind fun t141 =>
 (Z00 P .add 3 t138 t141).bind fun t142 =>
 (ixA 2 1 (ptrTo (256*(c+1)+2)) (.int .i64 0)).bind fun t143 =>
 (ld1 h3 t143).bind fun t144 =>
 (Z00 P .add 3 t142 t144).bind fun t145 =>
 (ixS 1 t6 t145).bind fun t146 =>
 (ld1 h3 t146).bind fun t147 =>
 (Z00 P .eql 3 t135 t147).bind fun t148 =>
 (Z08 t148
  ((Z04 t12 4).bind fun t149 =>
  (ld1 h3 t149).bind fun t150 =>
  (ixS 1 t150 t116).bind fun t152 =>
  (stN h3 1 t152 (.bool true)).bind fun h5 =>
  some ⟨.normal,[t2,t3,t4,t5,t6,t8,t10,t12,t13,t59,t60,t105,t106],h5,(c+1+1+1+1+1+1),df⟩)
  (some ⟨.normal,[t2,t3,t4,t5,t6,t8,t10,t12,t13,t59,t60,t105,t106],h3,(c+1+1+1+1+1),df⟩):Option (Rt H)).bind fun r6 =>
 cond (Z0u r6.e .normal)
  ((Z00 P .add 3 (r6.v 12) (.int .i64 1)).bind fun t153 =>
  some ⟨.normal,[r6.v 0,r6.v 1,r6.v 2,r6.v 3,r6.v 4,r6.v 5,r6.v 6,r6.v 7,r6.v 8,r6.v 9,r6.v 10,r6.v 11,t153],r6.h,(r6.c+1),r6.df⟩)
  (none))
 (some ⟨(.exit 2),[t2,t3,t4,t5,t6,t8,t10,t12,t13,t59,t60,t105,t106],h,(c+1),df⟩)
theorem Z2O (o:Orc H) (rd:Option Nat) (t2 t3 t4 t5 t6 t8 t10 t12 t13 t59 t60 t105 t106:Value) (h:H) (c:Nat) (df:List Nat):jx P o 172 rd Z3w (Z0l [2,3,4,5,6,8,10,12,13,59,60,105,106] [t2,t3,t4,t5,t6,t8,t10,t12,t13,t59,t60,t105,t106]) h c df (Klp [2,3,4,5,6,8,10,12,13,59,60,105,106])=Z3y o rd t2 t3 t4 t5 t6 t8 t10 t12 t13 t59 t60 t105 t106 h c df:=by kernel_rfl
noncomputable def Z4u (o:Orc H) (rd:Option Nat) (t2 t3 t4 t5 t6 t8 t10 t12 t59 t60:Value) (h:H) (c:Nat) (df:List Nat):Option (Rt H) :=
 (Z00 P .lss 3 t60 t59).bind fun t61 =>
 Z08 t61
 ((Z04 t12 0).bind fun t63 =>
 (ld1 h t63).bind fun t64 =>
 (Z00 P .mul 3 (.int .i64 4) t60).bind fun t67 =>
 (Z00 P .mul 3 (.int .i64 4) t60).bind fun t69 =>
 (Z00 P .add 3 t69 (.int .i64 4)).bind fun t70 =>
 (slS h 1 t4 (some t67) (some t70) none).bind fun t71 =>
 (Z5b P 41 t71).bind fun t72 =>
 (ldN h 4 t72).bind fun t73 =>
 (Z7R [(.int .i64 0),(.int .i64 0),(.int .i64 0),(.int .i64 0)] [(0,4,t73)]).bind fun r0 =>
 (Z6e (newB h (256*(c+1+1)+11) r0) (256*(c+1+1)+12) 4 32 t64 (.slice (some ⟨(256*(c+1+1)+11),0,none⟩) 1 1)).bind fun r1 =>
 (Z04 t12 0).bind fun t76 =>
 (stN r1.2 1 t76 r1.1).bind fun h3 =>
 (Z04 t12 1).bind fun t77 =>
 (ld1 h3 t77).bind fun t78 =>
 (Z00 P .mul 3 (.int .i64 6) t60).bind fun t81 =>
 (Z00 P .mul 3 (.int .i64 6) t60).bind fun t83 =>
 (Z00 P .add 3 t83 (.int .i64 6)).bind fun t84 =>
 (slS h3 1 t8 (some t81) (some t84) none).bind fun t85 =>
 (Z5b P 64 t85).bind fun t86 =>
 (ldN h3 6 t86).bind fun t87 =>
 (Z7R [(.int .i64 0),(.int .i64 0),(.int .i64 0),(.int .i64 0),(.int .i64 0),(.int .i64 0)] [(0,6,t87)]).bind fun r4 =>
 (Z6e (newB h3 (256*(c+1+1+1)+11) r4) (256*(c+1+1+1)+12) 6 48 t78 (.slice (some ⟨(256*(c+1+1+1)+11),0,none⟩) 1 1)).bind fun r5 =>
 (Z04 t12 1).bind fun t90 =>
 (stN r5.2 1 t90 r5.1).bind fun h7 =>
 (Z04 t12 2).bind fun t91 =>
 (ld1 h7 t91).bind fun t92 =>
 (Z00 P .mul 3 (.int .i64 4) t60).bind fun t95 =>
 (Z00 P .mul 3 (.int .i64 4) t60).bind fun t97 =>
 (Z00 P .add 3 t97 (.int .i64 4)).bind fun t98 =>
 (slS h7 1 t10 (some t95) (some t98) none).bind fun t99 =>
 (Z5b P 41 t99).bind fun t100 =>
 (ldN h7 4 t100).bind fun t101 =>
 (Z7R [(.int .i64 0),(.int .i64 0),(.int .i64 0),(.int .i64 0)] [(0,4,t101)]).bind fun r8 =>
 (Z6e (newB h7 (256*(c+1+1+1+1)+11) r8) (256*(c+1+1+1+1)+12) 4 32 t92 (.slice (some ⟨(256*(c+1+1+1+1)+11),0,none⟩) 1 1)).bind fun r9 =>
 (Z04 t12 2).bind fun t104 =>
 (stN r9.2 1 t104 r9.1).bind fun h11 =>
 (callF o 54 [] h11 (c+1+1+1+1+1+1)).bind fun r12 =>
 (o (Za3 rd) [t2,t3,t4,t5,t6,t8,t10,t12,t60,t59,t60,r12.1,(.int .i64 0)] r12.2.1 r12.2.2 df).bind fun r13 =>
 cond (Z0u r13.e (.exit 2))
  ((Z00 P .add 3 (r13.v 10) (.int .i64 1)).bind fun t154 =>
  some ⟨.normal,[r13.v 0,r13.v 1,r13.v 2,r13.v 3,r13.v 4,r13.v 5,r13.v 6,r13.v 7,r13.v 9,t154],r13.h,(r13.c+1),r13.df⟩)
  (none))
 (some ⟨(.exit 0),[t2,t3,t4,t5,t6,t8,t10,t12,t59,t60],h,(c+1),df⟩)
theorem Z53 (o:Orc H) (rd:Option Nat) (t2 t3 t4 t5 t6 t8 t10 t12 t59 t60:Value) (h:H) (c:Nat) (df:List Nat):jx P o 172 rd Z3x (Z0l [2,3,4,5,6,8,10,12,59,60] [t2,t3,t4,t5,t6,t8,t10,t12,t59,t60]) h c df (Klp [2,3,4,5,6,8,10,12,59,60])=Z4u o rd t2 t3 t4 t5 t6 t8 t10 t12 t59 t60 h c df:=by kernel_rfl
noncomputable def Z4t (o:Orc H) (rd:Option Nat) (t2 t3 t4 t6 t12 t155 t156:Value) (h:H) (c:Nat) (df:List Nat):Option (Rt H) :=
 (Z00 P .lss 3 t156 t155).bind fun t157 =>
 Z08 t157
 ((Z04 t12 5).bind fun t159 =>
 (ld1 h t159).bind fun t160 =>
 (callF o 60 [t3,t4,t156] h (c+1+1+1)).bind fun r0 =>
 (callF o 65 [r0.1,t6] r0.2.1 r0.2.2).bind fun r1 =>
 (Z7R [(.int .i64 0),(.int .i64 0),(.int .i64 0),(.int .i64 0),(.bool false),(.bool false)] [(0,6,r1.1)]).bind fun r2 =>
 (Z6e (newB r1.2.1 (256*(c+1+1)+8) r2) (256*(c+1+1)+9) 6 40 t160 (.slice (some ⟨(256*(c+1+1)+8),0,none⟩) 1 1)).bind fun r3 =>
 (Z04 t12 5).bind fun t169 =>
 (stN r3.2 1 t169 r3.1).bind fun h5 =>
 (bif (Z1f (Z2t t159) h r0.2.1 && (Z1f (Z2t t159) r0.2.1 r1.2.1 && true)) then
 (Z00 P .add 3 t156 (.int .i64 1)).bind fun t170 =>
 some ⟨.normal,[t2,t3,t4,t6,t12,t155,t170],h5,(r1.2.2+1),df⟩
 else none))
 (some ⟨(.exit 4),[t2,t3,t4,t6,t12,t155,t156],h,(c+1),df⟩)
theorem Z52 (o:Orc H) (rd:Option Nat) (t2 t3 t4 t6 t12 t155 t156:Value) (h:H) (c:Nat) (df:List Nat):jx P o 172 rd Z3v (Z0l [2,3,4,6,12,155,156] [t2,t3,t4,t6,t12,t155,t156]) h c df (Klp [2,3,4,6,12,155,156])=Z4t o rd t2 t3 t4 t6 t12 t155 t156 h c df:=by kernel_rfl
noncomputable def ZhK (o:Orc H) (t0:Value) (h:H) (c:Nat):Option (Rt H) :=
 (bif (t0:Value).cells.toList.all Z07 then
 (ldN (newB (newB h (256*c+0) (t0:Value).cells.toList) (256*c+1) [(.slice none 0 0),(.slice none 0 0),(.slice none 0 0),(.slice none 0 0),(.slice none 0 0),(.slice none 0 0)]) 1 (ptrTo (256*c+0))).bind fun t18 =>
 (callF o 40 [t18] (newB (newB h (256*c+0) (t0:Value).cells.toList) (256*c+1) [(.slice none 0 0),(.slice none 0 0),(.slice none 0 0),(.slice none 0 0),(.slice none 0 0),(.slice none 0 0)]) (c+1+1)).bind fun r0 =>
 (Z0e r0.1).bind fun t22 =>
 (Z04 t22 1).bind fun t23 =>
 (Z04 t23 0).bind fun t24 =>
 (callF o 41 [t24] r0.2.1 (r0.2.2+1)).bind fun r1 =>
 (Z46 r1.1 0).bind fun t26 =>
 (Z46 r1.1 1).bind fun t27 =>
 (Z0e r0.1).bind fun t30 =>
 (Z04 t30 2).bind fun t31 =>
 (Z04 t31 0).bind fun t32 =>
 (callF o 41 [t32] r1.2.1 (r1.2.2+1)).bind fun r2 =>
 (Z46 r2.1 0).bind fun t34 =>
 (Z46 r2.1 1).bind fun t35 =>
 (Z0e r0.1).bind fun t38 =>
 (Z04 t38 3).bind fun t39 =>
 (Z04 t39 0).bind fun t40 =>
 (callF o 41 [t40] r2.2.1 (r2.2.2+1)).bind fun r3 =>
 (Z46 r3.1 0).bind fun t42 =>
 (Z46 r3.1 1).bind fun t43 =>
 (Z0e r0.1).bind fun t46 =>
 (Z04 t46 4).bind fun t47 =>
 (Z04 t47 0).bind fun t48 =>
 (callF o 41 [t48] r3.2.1 (r3.2.2+1)).bind fun r4 =>
 (Z46 r4.1 0).bind fun t50 =>
 (Z46 r4.1 1).bind fun t51 =>
 (mkS 1 8 [(.int .i64 0)] t43 t43).bind fun r5 =>
 (mkS 1 1 [(.bool false)] t43 t43).bind fun r6 =>
 (Z1z [(.slice none 0 0),(.slice none 0 0),(.slice none 0 0),(.slice none 0 0),(.slice none 0 0),(.slice none 0 0)] [(3,1,(.slice (some ⟨(256*r4.2.2+1),0,none⟩) r5.2.1 r5.2.2)),(4,1,(.slice (some ⟨(256*r4.2.2+3),0,none⟩) r6.2.1 r6.2.2))]).bind fun t56 =>
 (stN (newB (newB (newB r4.2.1 (256*r4.2.2+1) r5.1) (256*r4.2.2+3) r6.1) (256*r4.2.2+5) [(.slice none 0 0),(.slice none 0 0),(.slice none 0 0),(.slice none 0 0),(.slice none 0 0),(.slice none 0 0)]) 6 (ptrTo (256*r4.2.2+5)) t56).bind fun h8 =>
 (Z04 (ptrTo (256*c+0)) 0).bind fun t57 =>
 (ld1 h8 t57).bind fun t58 =>
 (Z2d t58).bind fun t59 =>
 (o (Za4 none) [(ptrTo (256*c+1)),r0.1,t26,t27,t34,t42,t50,(ptrTo (256*r4.2.2+5)),t59,(.int .i64 0)] h8 (r4.2.2+1+1) []).bind fun r9 =>
 cond (Z0u r9.e (.exit 0))
 ((o (Za2 none) [r9.v 0,r9.v 1,r9.v 2,r9.v 4,r9.v 7,r9.v 3,(.int .i64 0)] r9.h (r9.c+1) r9.df).bind fun r10 =>
 cond (Z0u r10.e (.exit 4))
  ((ldN r10.h 6 (r10.v 4)).bind fun t171 =>
  (stN r10.h 6 (r10.v 0) t171).bind fun h12 =>
  (Z09 h12 r10.df).bind fun h13 =>
  (ldN h13 6 (r10.v 0)).bind fun v14 =>
  some ⟨.ret,[v14],h13,(r10.c+1),[]⟩)
  (none))
 (none)
 else none)
theorem ZeJ (o:Orc H) (t0:Value) (h:H) (c:Nat):jx P o 172 none f39_c (Z0l (List.range 1) [t0]) h c [] (Kfn P Try.f39.results.toList)=ZhK o t0 h c:=by kernel_rfl
theorem f39_go {t0:Value} {h:FH} {c:Nat} {df:List Nat} {r:Rt FH} (e:ZhK G t0 h c=some r):G (.fn 39) [t0] h c df=some r:=Z0r (a:=ZcW) bk_39 rfl (fun args h c=>by cases args <;> rfl) rfl ((ZeJ G t0 h c).trans e)
noncomputable def Z3s (o:Orc H) (rd:Option Nat) (t4 t5 t7 t8 t9 t10 t35 t36 t37 t42 t43 t68 t90:Value) (h:H) (c:Nat) (df:List Nat):Option (Rt H) :=
 (Z00 P .lss 3 t90 (.int .i64 4)).bind fun t91 =>
 Z08 t91
 ((Z00 P .neq 3 t90 t7).bind fun t95 =>
 (gd t95 true h (c+1+1+1) (some t90)).bind fun r0 =>
 (gd t95 true r0.2.1 r0.2.2 (some t10)).bind fun r1 =>
 (gd t95 true r1.2.1 r1.2.2 (Z00 P .neq 3 r0.1 r1.1)).bind fun r2 =>
 (Z0B t95 r2.1 (.bool false)).bind fun t100 =>
 (Z08 t100
  ((Z0e t4).bind fun t102 =>
  (Z04 t102 2).bind fun t103 =>
  (Z04 t103 0).bind fun t104 =>
  (Z00 P .mul 3 (.int .i64 16) t5).bind fun t106 =>
  (Z00 P .mul 3 (.int .i64 4) t10).bind fun t108 =>
  (Z00 P .add 3 t106 t108).bind fun t109 =>
  (Z00 P .add 3 t109 t90).bind fun t111 =>
  (Z04 t8 0).bind fun t112 =>
  (ld1 r2.2.1 t112).bind fun t113 =>
  (Z00 P .mul 3 (.int .i64 16) t113).bind fun t114 =>
  (ixA 4 1 t9 t10).bind fun t116 =>
  (ld1 r2.2.1 t116).bind fun t117 =>
  (Z00 P .mul 3 (.int .i64 4) t117).bind fun t118 =>
  (Z00 P .add 3 t114 t118).bind fun t119 =>
  (ixA 4 1 t9 t90).bind fun t121 =>
  (ld1 r2.2.1 t121).bind fun t122 =>
  (Z00 P .add 3 t119 t122).bind fun t123 =>
  (callF o 67 [t104,t111,t123] r2.2.1 (r2.2.2+1)).bind fun r3 =>
  (Z0e t4).bind fun t126 =>
  (Z04 t126 3).bind fun t127 =>
  (Z04 t127 0).bind fun t128 =>
  (Z00 P .mul 3 (.int .i64 6) t5).bind fun t130 =>
  (callF o 27 [t10,t90] r3.2.1 (r3.2.2+1)).bind fun r4 =>
  (Z00 P .add 3 t130 r4.1).bind fun t134 =>
  (Z04 t8 0).bind fun t135 =>
  (ld1 r4.2.1 t135).bind fun t136 =>
  (Z00 P .mul 3 (.int .i64 6) t136).bind fun t137 =>
  (ixA 4 1 t9 t10).bind fun t139 =>
  (ld1 r4.2.1 t139).bind fun t140 =>
  (ixA 4 1 t9 t90).bind fun t142 =>
  (ld1 r4.2.1 t142).bind fun t143 =>
  (callF o 27 [t140,t143] r4.2.1 r4.2.2).bind fun r5 =>
  (Z00 P .add 3 t137 r5.1).bind fun t145 =>
  (callF o 67 [t128,t134,t145] r5.2.1 r5.2.2).bind fun r6 =>
  (bif (Z1f (Z2t t135) r3.2.1 r4.2.1 && (Z1f (Z2t t135) r4.2.1 r5.2.1 && (Z1f (Z2t t139) r3.2.1 r4.2.1 && (Z1f (Z2t t142) r3.2.1 r4.2.1 && true)))) then
  some ⟨.normal,[t4,t5,t7,t8,t9,t10,t35,t36,t37,t42,t43,t68,t90],r6.2.1,r6.2.2,df⟩
  else none))
  (some ⟨.normal,[t4,t5,t7,t8,t9,t10,t35,t36,t37,t42,t43,t68,t90],r2.2.1,r2.2.2,df⟩):Option (Rt H)).bind fun r7 =>
 cond (Z0u r7.e .normal)
  ((Z00 P .add 3 (r7.v 12) (.int .i64 1)).bind fun t147 =>
  some ⟨.normal,[r7.v 0,r7.v 1,r7.v 2,r7.v 3,r7.v 4,r7.v 5,r7.v 6,r7.v 7,r7.v 8,r7.v 9,r7.v 10,r7.v 11,t147],r7.h,(r7.c+1),r7.df⟩)
  (none))
 (some ⟨(.exit 6),[t4,t5,t7,t8,t9,t10,t35,t36,t37,t42,t43,t68,t90],h,(c+1),df⟩)
theorem Z2L (o:Orc H) (rd:Option Nat) (t4 t5 t7 t8 t9 t10 t35 t36 t37 t42 t43 t68 t90:Value) (h:H) (c:Nat) (df:List Nat):jx P o 152 rd Z3o (Z0l [4,5,7,8,9,10,35,36,37,42,43,68,90] [t4,t5,t7,t8,t9,t10,t35,t36,t37,t42,t43,t68,t90]) h c df (Klp [4,5,7,8,9,10,35,36,37,42,43,68,90])=Z3s o rd t4 t5 t7 t8 t9 t10 t35 t36 t37 t42 t43 t68 t90 h c df:=by kernel_rfl
noncomputable def Z3t (o:Orc H) (rd:Option Nat) (t4 t5 t7 t8 t9 t35 t36 t37 t42 t43 t68:Value) (h:H) (c:Nat) (df:List Nat):Option (Rt H) :=
 (Z00 P .lss 3 t68 (.int .i64 4)).bind fun t69 =>
 Z08 t69
 (((Z00 P .eql 3 t68 t7).bind fun t73 =>
  Z08 t73
   (some ⟨.normal,[t4,t5,t7,t8,t9,t35,t36,t37,t42,t43,t68],h,(c+1+1+1),df⟩)
   ((Z0e t4).bind fun t75 =>
   (Z04 t75 1).bind fun t76 =>
   (Z04 t76 0).bind fun t77 =>
   (Z00 P .mul 3 (.int .i64 4) t5).bind fun t79 =>
   (Z00 P .add 3 t79 t68).bind fun t81 =>
   (Z04 t8 0).bind fun t82 =>
   (ld1 h t82).bind fun t83 =>
   (Z00 P .mul 3 (.int .i64 4) t83).bind fun t84 =>
   (ixA 4 1 t9 t68).bind fun t86 =>
   (ld1 h t86).bind fun t87 =>
   (Z00 P .add 3 t84 t87).bind fun t88 =>
   (callF o 67 [t77,t81,t88] h (c+1+1+1+1)).bind fun r0 =>
   (o (Z9Y rd) [t4,t5,t7,t8,t9,t68,t35,t36,t37,t42,t43,t68,(.int .i64 0)] r0.2.1 (r0.2.2+1) df).bind fun r1 =>
   cond (Z0u r1.e (.exit 6))
    (some ⟨.normal,[r1.v 0,r1.v 1,r1.v 2,r1.v 3,r1.v 4,r1.v 6,r1.v 7,r1.v 8,r1.v 9,r1.v 10,r1.v 11],r1.h,r1.c,r1.df⟩)
    (none)):Option (Rt H)).bind fun r2 =>
 cond (Z0u r2.e .normal)
  ((Z00 P .add 3 (r2.v 10) (.int .i64 1)).bind fun t148 =>
  some ⟨.normal,[r2.v 0,r2.v 1,r2.v 2,r2.v 3,r2.v 4,r2.v 5,r2.v 6,r2.v 7,r2.v 8,r2.v 9,t148],r2.h,(r2.c+1),r2.df⟩)
  (none))
 (some ⟨(.exit 4),[t4,t5,t7,t8,t9,t35,t36,t37,t42,t43,t68],h,(c+1),df⟩)
theorem Z2M (o:Orc H) (rd:Option Nat) (t4 t5 t7 t8 t9 t35 t36 t37 t42 t43 t68:Value) (h:H) (c:Nat) (df:List Nat):jx P o 152 rd Z3p (Z0l [4,5,7,8,9,35,36,37,42,43,68] [t4,t5,t7,t8,t9,t35,t36,t37,t42,t43,t68]) h c df (Klp [4,5,7,8,9,35,36,37,42,43,68])=Z3t o rd t4 t5 t7 t8 t9 t35 t36 t37 t42 t43 t68 h c df:=by kernel_rfl
noncomputable def Z3u (o:Orc H) (rd:Option Nat) (t4 t5 t35 t36 t37 t42 t43:Value) (h:H) (c:Nat) (df:List Nat):Option (Rt H) :=
 (Z00 P .lss 3 t43 (.int .i64 4)).bind fun t44 =>
 Z08 t44
 (((ixV 4 true 5 t42 t43).bind fun t46 =>
  (stN (newB h (256*(c+1)+2) [(.int .i64 0),(.int .i64 0),(.int .i64 0),(.int .i64 0),(.int .i64 0)]) 5 (ptrTo (256*(c+1)+2)) t46).bind fun h1 =>
  (Z04 (ptrTo (256*(c+1)+2)) 0).bind fun t47 =>
  (ld1 h1 t47).bind fun t48 =>
  (Z00 P .lss 3 t48 (.int .i64 0)).bind fun t49 =>
  Z08 t49
   (some ⟨.normal,[t4,t5,t35,t36,t37,t42,t43],h1,(c+1+1+1),df⟩)
   ((Z04 (ptrTo (256*(c+1)+2)) 1).bind fun t50 =>
   (ldN h1 4 t50).bind fun t51 =>
   (stN (newB h1 (256*(c+1+1+1)+2) [(.int .i64 0),(.int .i64 0),(.int .i64 0),(.int .i64 0)]) 4 (ptrTo (256*(c+1+1+1)+2)) t51).bind fun h3 =>
   (Z0e t4).bind fun t53 =>
   (Z04 t53 4).bind fun t54 =>
   (Z04 t54 0).bind fun t55 =>
   (Z00 P .mul 3 (.int .i64 4) t5).bind fun t57 =>
   (Z00 P .add 3 t57 t43).bind fun t59 =>
   (Z04 (ptrTo (256*(c+1)+2)) 0).bind fun t60 =>
   (ld1 h3 t60).bind fun t61 =>
   (Z00 P .mul 3 (.int .i64 4) t61).bind fun t62 =>
   (ixA 4 1 (ptrTo (256*(c+1+1+1)+2)) t43).bind fun t64 =>
   (ld1 h3 t64).bind fun t65 =>
   (Z00 P .add 3 t62 t65).bind fun t66 =>
   (callF o 67 [t55,t59,t66] h3 (c+1+1+1+1+1)).bind fun r4 =>
   (o (Z9Z rd) [t4,t5,t43,(ptrTo (256*(c+1)+2)),(ptrTo (256*(c+1+1+1)+2)),t35,t36,t37,t42,t43,(.int .i64 0)] r4.2.1 (r4.2.2+1) df).bind fun r5 =>
   cond (Z0u r5.e (.exit 4))
    (some ⟨.normal,[r5.v 0,r5.v 1,r5.v 5,r5.v 6,r5.v 7,r5.v 8,r5.v 9],r5.h,r5.c,r5.df⟩)
    (none)):Option (Rt H)).bind fun r6 =>
 cond (Z0u r6.e .normal)
  ((Z00 P .add 3 (r6.v 6) (.int .i64 1)).bind fun t149 =>
  some ⟨.normal,[r6.v 0,r6.v 1,r6.v 2,r6.v 3,r6.v 4,r6.v 5,t149],r6.h,(r6.c+1),r6.df⟩)
  (none))
 (some ⟨(.exit 2),[t4,t5,t35,t36,t37,t42,t43],h,(c+1),df⟩)
theorem Z2N (o:Orc H) (rd:Option Nat) (t4 t5 t35 t36 t37 t42 t43:Value) (h:H) (c:Nat) (df:List Nat):jx P o 152 rd Z3q (Z0l [4,5,35,36,37,42,43] [t4,t5,t35,t36,t37,t42,t43]) h c df (Klp [4,5,35,36,37,42,43])=Z3u o rd t4 t5 t35 t36 t37 t42 t43 h c df:=by kernel_rfl
noncomputable def Z4s (o:Orc H) (rd:Option Nat) (t4 t35 t36 t37:Value) (h:H) (c:Nat) (df:List Nat):Option (Rt H) :=
 (Z00 P .lss 3 t37 t36).bind fun t38 =>
 Z08 t38
 ((ixS 20 t35 t37).bind fun t40 =>
 (ldN h 20 t40).bind fun t41 =>
 (stN (newB h (256*(c+1)+3) [(.int .i64 0),(.int .i64 0),(.int .i64 0),(.int .i64 0),(.int .i64 0),(.int .i64 0),(.int .i64 0),(.int .i64 0),(.int .i64 0),(.int .i64 0),(.int .i64 0),(.int .i64 0),(.int .i64 0),(.int .i64 0),(.int .i64 0),(.int .i64 0),(.int .i64 0),(.int .i64 0),(.int .i64 0),(.int .i64 0)]) 20 (ptrTo (256*(c+1)+3)) t41).bind fun h1 =>
 (ldN h1 20 (ptrTo (256*(c+1)+3))).bind fun t42 =>
 (o (Za0 rd) [t4,t37,t35,t36,t37,t42,(.int .i64 0)] h1 (c+1+1+1) df).bind fun r2 =>
 cond (Z0u r2.e (.exit 2))
  ((Z00 P .add 3 (r2.v 4) (.int .i64 1)).bind fun t150 =>
  some ⟨.normal,[r2.v 0,r2.v 2,r2.v 3,t150],r2.h,(r2.c+1),r2.df⟩)
  (none))
 (some ⟨(.exit 0),[t4,t35,t36,t37],h,(c+1),df⟩)
theorem Z51 (o:Orc H) (rd:Option Nat) (t4 t35 t36 t37:Value) (h:H) (c:Nat) (df:List Nat):jx P o 152 rd Z3r (Z0l [4,35,36,37] [t4,t35,t36,t37]) h c df (Klp [4,35,36,37])=Z4s o rd t4 t35 t36 t37 h c df:=by kernel_rfl
noncomputable def ZhJ (o:Orc H) (t0:Value) (h:H) (c:Nat):Option (Rt H) :=
 (bif (t0:Value).cells.toList.all Z07 then
 (Z04 (ptrTo (256*c+0)) 0).bind fun t12 =>
 (ld1 (newB h (256*c+0) (t0:Value).cells.toList) t12).bind fun t13 =>
 (Z2d t13).bind fun t14 =>
 (ldN (newB h (256*c+0) (t0:Value).cells.toList) 1 (ptrTo (256*c+0))).bind fun t15 =>
 (Z00 P .mul 3 (.int .i64 4) t14).bind fun t17 =>
 (callF o 66 [t17] (newB h (256*c+0) (t0:Value).cells.toList) (c+1+1+1)).bind fun r0 =>
 (Z1z [(.slice none 0 0)] [(0,1,r0.1)]).bind fun t19 =>
 (Z00 P .mul 3 (.int .i64 16) t14).bind fun t21 =>
 (callF o 66 [t21] r0.2.1 r0.2.2).bind fun r1 =>
 (Z1z [(.slice none 0 0)] [(0,1,r1.1)]).bind fun t23 =>
 (Z00 P .mul 3 (.int .i64 6) t14).bind fun t25 =>
 (callF o 66 [t25] r1.2.1 r1.2.2).bind fun r2 =>
 (Z1z [(.slice none 0 0)] [(0,1,r2.1)]).bind fun t27 =>
 (Z00 P .mul 3 (.int .i64 4) t14).bind fun t29 =>
 (callF o 66 [t29] r2.2.1 r2.2.2).bind fun r3 =>
 (Z1z [(.slice none 0 0)] [(0,1,r3.1)]).bind fun t31 =>
 (Z1z [(.slice none 0 0),(.slice none 0 0),(.slice none 0 0),(.slice none 0 0),(.slice none 0 0)] [(0,1,t15),(1,1,t19),(2,1,t23),(3,1,t27),(4,1,t31)]).bind fun t32 =>
 (bif (t32:Value).cells.toList.all Z07 then
 (bif (Z1f (Z2t (ptrTo (256*c+0))) (newB h (256*c+0) (t0:Value).cells.toList) r0.2.1 && (Z1f (Z2t (ptrTo (256*c+0))) r0.2.1 r1.2.1 && (Z1f (Z2t (ptrTo (256*c+0))) r1.2.1 r2.2.1 && (Z1f (Z2t (ptrTo (256*c+0))) r2.2.1 r3.2.1 && true)))) then
 (Z04 (ptrTo (256*c+0)) 0).bind fun t34 =>
 (ld1 (newB r3.2.1 (256*(c+1+1)+18) (t32:Value).cells.toList) t34).bind fun t35 =>
 (Z2d t35).bind fun t36 =>
 (o (Za1 none) [(ptrTo (256*(c+1+1)+18)),t35,t36,(.int .i64 0)] (newB r3.2.1 (256*(c+1+1)+18) (t32:Value).cells.toList) (r3.2.2+1) []).bind fun r4 =>
 cond (Z0u r4.e (.exit 0))
 ((Z09 r4.h r4.df).bind fun h5 =>
 some ⟨.ret,[r4.v 0],h5,(r4.c+1),[]⟩)
 (none)
 else none)
 else none)
 else none)
theorem ZeI (o:Orc H) (t0:Value) (h:H) (c:Nat):jx P o 152 none f40_c (Z0l (List.range 1) [t0]) h c [] (Kfn P Try.f40.results.toList)=ZhJ o t0 h c:=by kernel_rfl
theorem f40_go {t0:Value} {h:FH} {c:Nat} {df:List Nat} {r:Rt FH} (e:ZhJ G t0 h c=some r):G (.fn 40) [t0] h c df=some r:=Z0r (a:=ZcV) bk_40 rfl (fun args h c=>by cases args <;> rfl) rfl ((ZeI G t0 h c).trans e)
noncomputable def Z4r (o:Orc H) (rd:Option Nat) (t0 t4 t5 t15 t16:Value) (h:H) (c:Nat) (df:List Nat):Option (Rt H) :=
 (Z00 P .lss 3 t16 t15).bind fun t17 =>
 Z08 t17
 ((callF o 68 [t0,t16] h (c+1+1+1)).bind fun r0 =>
 (Z00 P .eql 3 r0.1 t16).bind fun t24 =>
 (Z08 t24
  ((ixS 1 t4 t16).bind fun t28 =>
  (stN r0.2.1 1 t28 t5).bind fun h2 =>
  (Z00 P .add 3 t5 (.int .i64 1)).bind fun t30 =>
  some ⟨.normal,[t0,t4,t30,t15,t16],h2,(r0.2.2+1+1+1),df⟩)
  ((ixS 1 t4 r0.1).bind fun t35 =>
  (ld1 r0.2.1 t35).bind fun t36 =>
  (ixS 1 t4 t16).bind fun t37 =>
  (stN r0.2.1 1 t37 t36).bind fun h5 =>
  some ⟨.normal,[t0,t4,t5,t15,t16],h5,(r0.2.2+1+1),df⟩):Option (Rt H)).bind fun r6 =>
 cond (Z0u r6.e .normal)
  ((Z00 P .add 3 (r6.v 4) (.int .i64 1)).bind fun t38 =>
  some ⟨.normal,[r6.v 0,r6.v 1,r6.v 2,r6.v 3,t38],r6.h,(r6.c+1),r6.df⟩)
  (none))
 (some ⟨(.exit 0),[t0,t4,t5,t15,t16],h,(c+1),df⟩)
theorem Z50 (o:Orc H) (rd:Option Nat) (t0 t4 t5 t15 t16:Value) (h:H) (c:Nat) (df:List Nat):jx P o 41 rd Z3n (Z0l [0,4,5,15,16] [t0,t4,t5,t15,t16]) h c df (Klp [0,4,5,15,16])=Z4r o rd t0 t4 t5 t15 t16 h c df:=by kernel_rfl
noncomputable def ZhI (o:Orc H) (t0:Value) (h:H) (c:Nat):Option (Rt H) :=
 (Z0e t0).bind fun t9 =>
 (Z04 t9 0).bind fun t10 =>
 (ld1 h t10).bind fun t11 =>
 (Z2d t11).bind fun t12 =>
 (mkS 1 8 [(.int .i64 0)] t12 t12).bind fun r0 =>
 (Z2d (.slice (some ⟨(256*(c+1)+5),0,none⟩) r0.2.1 r0.2.2)).bind fun t15 =>
 (o (Z9X none) [t0,(.slice (some ⟨(256*(c+1)+5),0,none⟩) r0.2.1 r0.2.2),(.int .i64 0),t15,(.int .i64 0)] (newB h (256*(c+1)+5) r0.1) (c+1+1+1+1) []).bind fun r1 =>
 cond (Z0u r1.e (.exit 0))
 ((Z09 r1.h r1.df).bind fun h2 =>
 some ⟨.ret,[.tuple #[r1.v 1,r1.v 2]],h2,(r1.c+1),[]⟩)
 (none)
theorem ZeH (o:Orc H) (t0:Value) (h:H) (c:Nat):jx P o 41 none f41_c (Z0l (List.range 1) [t0]) h c [] (Kfn P Try.f41.results.toList)=ZhI o t0 h c:=by kernel_rfl
theorem f41_go {t0:Value} {h:FH} {c:Nat} {df:List Nat} {r:Rt FH} (e:ZhI G t0 h c=some r):G (.fn 41) [t0] h c df=some r:=Z0r (a:=ZcU) bk_41 rfl (fun args h c=>by cases args <;> rfl) rfl ((ZeH G t0 h c).trans e)
end Go.Proofs.Ytdodippbpdechaa
