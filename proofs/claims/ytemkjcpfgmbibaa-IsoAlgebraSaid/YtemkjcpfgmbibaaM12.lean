/- Parts of a proof: S5 S6. Conditions: none. -/
import Derived.Test.YtemkjcpfgmbibaaM9
set_option linter.all false
set_option maxRecDepth 100000
namespace Go.Proofs.Ytemkjcpfgmbibaa
open Go Go.Ab Go.Proofs
variable {H:Type} [HeapC H]
noncomputable def Z6W (o:Orc H) (rd:Option Nat) (t2 t3 t4 t5 t7 t8 t10 t13 t14 t15 t25 t26 t27 t31:Value) (h:H) (c:Nat) (df:List Nat):Option (Rt H) :=
 (Z00 P .lss 3 t31 (.int .i64 4)).bind fun t32 =>
 Z09 t32
 ((ixA 4 5 t10 t31).bind fun t35 =>
 (Z01 t35 0).bind fun t36 =>
 (ld1 h t36).bind fun t37 =>
 (Z00 P .geq 3 t37 (.int .i64 0)).bind fun t38 =>
 (Z09 t38
  ((ixA 4 5 t10 t31).bind fun t40 =>
  (Z01 t40 0).bind fun t41 =>
  (ld1 h t41).bind fun t42 =>
  (Z00 P .add 3 t42 t8).bind fun t44 =>
  (ixA 4 5 t10 t31).bind fun t45 =>
  (Z01 t45 0).bind fun t46 =>
  (stN h 1 t46 t44).bind fun h1 =>
  some ⟨.normal,[t2,t3,t4,t5,t7,t8,t10,t13,t14,t15,t25,t26,t27,t31],h1,(c+1+1+1+1),df⟩)
  (some ⟨.normal,[t2,t3,t4,t5,t7,t8,t10,t13,t14,t15,t25,t26,t27,t31],h,(c+1+1+1),df⟩):Option (Rt H)).bind fun r2 =>
 cond (Z0t r2.e .normal)
  ((Z00 P .add 3 (r2.v 13) (.int .i64 1)).bind fun t47 =>
  some ⟨.normal,[r2.v 0,r2.v 1,r2.v 2,r2.v 3,r2.v 4,r2.v 5,r2.v 6,r2.v 7,r2.v 8,r2.v 9,r2.v 10,r2.v 11,r2.v 12,t47],r2.h,(r2.c+1),r2.df⟩)
  (none))
 (some ⟨(.exit 4),[t2,t3,t4,t5,t7,t8,t10,t13,t14,t15,t25,t26,t27,t31],h,(c+1),df⟩)
theorem Zb2 (o:Orc H) (rd:Option Nat) (t2 t3 t4 t5 t7 t8 t10 t13 t14 t15 t25 t26 t27 t31:Value) (h:H) (c:Nat) (df:List Nat):jx P o 76 rd Z2Y (Z0g [2,3,4,5,7,8,10,13,14,15,25,26,27,31] [t2,t3,t4,t5,t7,t8,t10,t13,t14,t15,t25,t26,t27,t31]) h c df (Klp [2,3,4,5,7,8,10,13,14,15,25,26,27,31])=Z6W o rd t2 t3 t4 t5 t7 t8 t10 t13 t14 t15 t25 t26 t27 t31 h c df:=by kernel_rfl
noncomputable def Z6X (o:Orc H) (rd:Option Nat) (t2 t3 t4 t5 t7 t8 t13 t14 t15 t25 t26 t27:Value) (h:H) (c:Nat) (df:List Nat):Option (Rt H) :=
 (Z00 P .lss 3 t27 t26).bind fun t28 =>
 Z09 t28
 ((ixS 20 t25 t27).bind fun t29 =>
 (ldN h 20 t29).bind fun t30 =>
 (stN (newB h (256*(c+1)+2) [(.int .i64 0),(.int .i64 0),(.int .i64 0),(.int .i64 0),(.int .i64 0),(.int .i64 0),(.int .i64 0),(.int .i64 0),(.int .i64 0),(.int .i64 0),(.int .i64 0),(.int .i64 0),(.int .i64 0),(.int .i64 0),(.int .i64 0),(.int .i64 0),(.int .i64 0),(.int .i64 0),(.int .i64 0),(.int .i64 0)]) 20 (ptrTo (256*(c+1)+2)) t30).bind fun h1 =>
 (o (Zg3 rd) [t2,t3,t4,t5,t7,t8,(ptrTo (256*(c+1)+2)),t13,t14,t15,t25,t26,t27,(.int .i64 0)] h1 (c+1+1+1) df).bind fun r2 =>
 cond (Z0t r2.e (.exit 4))
  ((Z01 (r2.v 2) 0).bind fun t48 =>
  (ld1 r2.h t48).bind fun t49 =>
  (ldN r2.h 20 (r2.v 6)).bind fun t50 =>
  (Z5d [(.int .i64 0),(.int .i64 0),(.int .i64 0),(.int .i64 0),(.int .i64 0),(.int .i64 0),(.int .i64 0),(.int .i64 0),(.int .i64 0),(.int .i64 0),(.int .i64 0),(.int .i64 0),(.int .i64 0),(.int .i64 0),(.int .i64 0),(.int .i64 0),(.int .i64 0),(.int .i64 0),(.int .i64 0),(.int .i64 0)] [(0,20,t50)]).bind fun r3 =>
  (Z67 (newB r2.h (256*r2.c+3) r3) (256*r2.c+4) 20 160 t49 (.slice (some ⟨(256*r2.c+3),0,none⟩) 1 1)).bind fun r4 =>
  (Z01 (r2.v 2) 0).bind fun t53 =>
  (stN r4.2 1 t53 r4.1).bind fun h6 =>
  (Z00 P .add 3 (r2.v 12) (.int .i64 1)).bind fun t54 =>
  some ⟨.normal,[r2.v 0,r2.v 1,r2.v 2,r2.v 3,r2.v 4,r2.v 5,r2.v 7,r2.v 8,r2.v 9,r2.v 10,r2.v 11,t54],h6,(r2.c+1+1),r2.df⟩)
  (none))
 (some ⟨(.exit 2),[t2,t3,t4,t5,t7,t8,t13,t14,t15,t25,t26,t27],h,(c+1),df⟩)
theorem Zb3 (o:Orc H) (rd:Option Nat) (t2 t3 t4 t5 t7 t8 t13 t14 t15 t25 t26 t27:Value) (h:H) (c:Nat) (df:List Nat):jx P o 76 rd Z2Z (Z0g [2,3,4,5,7,8,13,14,15,25,26,27] [t2,t3,t4,t5,t7,t8,t13,t14,t15,t25,t26,t27]) h c df (Klp [2,3,4,5,7,8,13,14,15,25,26,27])=Z6X o rd t2 t3 t4 t5 t7 t8 t13 t14 t15 t25 t26 t27 h c df:=by kernel_rfl
noncomputable def Z6Y (o:Orc H) (rd:Option Nat) (t2 t3 t4 t5 t13 t14 t15:Value) (h:H) (c:Nat) (df:List Nat):Option (Rt H) :=
 (Z00 P .lss 3 t15 t14).bind fun t16 =>
 Z09 t16
 ((ixS 1 t13 t15).bind fun t17 =>
 (ld1 h t17).bind fun t18 =>
 (Z01 t4 0).bind fun t19 =>
 (ld1 h t19).bind fun t20 =>
 (Z1f t20).bind fun t21 =>
 (Z0d t18).bind fun t23 =>
 (Z01 t23 4).bind fun t24 =>
 (ld1 h t24).bind fun t25 =>
 (Z1f t25).bind fun t26 =>
 (o (Zg4 rd) [t2,t3,t4,t5,t18,t21,t13,t14,t15,t25,t26,(.int .i64 0)] h (c+1+1+1+1) df).bind fun r0 =>
 cond (Z0t r0.e (.exit 2))
  ((Z01 (r0.v 3) 0).bind fun t55 =>
  (ld1 r0.h t55).bind fun t56 =>
  (Z0d (r0.v 4)).bind fun t58 =>
  (Z01 t58 1).bind fun t59 =>
  (Z01 t59 0).bind fun t60 =>
  (ld1 r0.h t60).bind fun t61 =>
  (Z67 r0.h (256*r0.c+7) 1 8 t56 t61).bind fun r1 =>
  (Z01 (r0.v 3) 0).bind fun t63 =>
  (stN r1.2 1 t63 r1.1).bind fun h3 =>
  (Z01 (r0.v 3) 1).bind fun t64 =>
  (ld1 h3 t64).bind fun t65 =>
  (Z0d (r0.v 4)).bind fun t67 =>
  (Z01 t67 1).bind fun t68 =>
  (Z01 t68 1).bind fun t69 =>
  (ld1 h3 t69).bind fun t70 =>
  (Z67 h3 (256*(r0.c+1)+7) 4 32 t65 t70).bind fun r4 =>
  (Z01 (r0.v 3) 1).bind fun t72 =>
  (stN r4.2 1 t72 r4.1).bind fun h6 =>
  (Z00 P .add 3 (r0.v 8) (.int .i64 1)).bind fun t73 =>
  some ⟨.normal,[r0.v 0,r0.v 1,r0.v 2,r0.v 3,r0.v 6,r0.v 7,t73],h6,(r0.c+1+1+1),r0.df⟩)
  (none))
 (some ⟨(.exit 0),[t2,t3,t4,t5,t13,t14,t15],h,(c+1),df⟩)
theorem Zb4 (o:Orc H) (rd:Option Nat) (t2 t3 t4 t5 t13 t14 t15:Value) (h:H) (c:Nat) (df:List Nat):jx P o 76 rd Z30 (Z0g [2,3,4,5,13,14,15] [t2,t3,t4,t5,t13,t14,t15]) h c df (Klp [2,3,4,5,13,14,15])=Z6Y o rd t2 t3 t4 t5 t13 t14 t15 h c df:=by kernel_rfl
noncomputable def Znf (o:Orc H) (t0:Value) (h:H) (c:Nat):Option (Rt H) :=
 (bif (t0:Value).cells.toList.all Z08 then
 (ldN (newB (newB (newB (newB (newB h (256*c+0) (t0:Value).cells.toList) (256*c+1) [(.slice none 0 0)]) (256*c+2) [(.slice none 0 0),(.slice none 0 0)]) (256*(c+1)+0) [(.slice none 0 0)]) (256*(c+1+1)+0) [(.slice none 0 0),(.slice none 0 0)]) 1 (ptrTo (256*c+0))).bind fun t12 =>
 (callF o 68 [t12] (newB (newB (newB (newB (newB h (256*c+0) (t0:Value).cells.toList) (256*c+1) [(.slice none 0 0)]) (256*c+2) [(.slice none 0 0),(.slice none 0 0)]) (256*(c+1)+0) [(.slice none 0 0)]) (256*(c+1+1)+0) [(.slice none 0 0),(.slice none 0 0)]) (c+1+1+1+1)).bind fun r0 =>
 (Z1f r0.1).bind fun t14 =>
 (o (Zg5 none) [(ptrTo (256*c+1)),(ptrTo (256*c+2)),(ptrTo (256*(c+1)+0)),(ptrTo (256*(c+1+1)+0)),r0.1,t14,(.int .i64 0)] r0.2.1 r0.2.2 []).bind fun r1 =>
 cond (Z0t r1.e (.exit 0))
 ((ldN r1.h 1 (r1.v 2)).bind fun t74 =>
 (ldN r1.h 2 (r1.v 3)).bind fun t75 =>
 (stN r1.h 1 (r1.v 0) t74).bind fun h3 =>
 (stN h3 2 (r1.v 1) t75).bind fun h5 =>
 (bif (Z14 (Z22 (r1.v 3)) r1.h h3 && true) then
 (Z07 h5 r1.df).bind fun h6 =>
 (ldN h6 1 (r1.v 0)).bind fun v7 =>
 (ldN h6 2 (r1.v 1)).bind fun v8 =>
 some ⟨.ret,[.tuple #[v7,v8]],h6,(r1.c+1),[]⟩
 else none))
 (none)
 else none)
theorem ZkV (o:Orc H) (t0:Value) (h:H) (c:Nat):jx P o 76 none f49_c (Z0g (List.range 1) [t0]) h c [] (Kfn P Try.f49.results.toList)=Znf o t0 h c:=by kernel_rfl
noncomputable def Z1K (o:Orc H) (rd:Option Nat) (t1 t2 t3 t4:Value) (h:H) (c:Nat) (df:List Nat):Option (Rt H) :=
 (Z00 P .lss 3 t4 (.int .i64 4)).bind fun t6 =>
 Z09 t6
 ((ixA 4 1 t1 t4).bind fun t10 =>
 (ld1 h t10).bind fun t11 =>
 (Z00 P .lss 3 t11 (.int .i64 0)).bind fun t12 =>
 (gd t12 false h (c+1+1) (some t4)).bind fun r0 =>
 (gd t12 false r0.2.1 r0.2.2 (ixA 4 1 t1 r0.1)).bind fun r1 =>
 (gd t12 false r1.2.1 r1.2.2 (ld1 r1.2.1 r1.1)).bind fun r2 =>
 (gd t12 false r2.2.1 r2.2.2 (Z00 P .gtr 3 r2.1 (.int .i64 3))).bind fun r3 =>
 (Z0v t12 (.bool true) r3.1).bind fun t18 =>
 (gd t18 false r3.2.1 r3.2.2 (some t4)).bind fun r4 =>
 (gd t18 false r4.2.1 r4.2.2 (ixA 4 1 t1 r4.1)).bind fun r5 =>
 (gd t18 false r5.2.1 r5.2.2 (ld1 r5.2.1 r5.1)).bind fun r6 =>
 (gd t18 false r6.2.1 r6.2.2 (ixA 4 1 t3 r6.1)).bind fun r7 =>
 (gd t18 false r7.2.1 r7.2.2 (ld1 r7.2.1 r7.1)).bind fun r8 =>
 (Z0v t18 (.bool true) r8.1).bind fun t25 =>
 Z09 t25
  (some ⟨.ret,[t1,(.bool false),t3,t4],r8.2.1,(r8.2.2+1),df⟩)
  ((ixA 4 1 t1 t4).bind fun t27 =>
  (ld1 r8.2.1 t27).bind fun t28 =>
  (ixA 4 1 t3 t28).bind fun t29 =>
  (stN r8.2.1 1 t29 (.bool true)).bind fun h11 =>
  (Z00 P .add 3 t4 (.int .i64 1)).bind fun t8 =>
  some ⟨.normal,[t1,t2,t3,t8],h11,(r8.2.2+1+1),df⟩))
 (some ⟨(.exit 0),[t1,t2,t3,t4],h,(c+1),df⟩)
theorem Z5R (o:Orc H) (rd:Option Nat) (t1 t2 t3 t4:Value) (h:H) (c:Nat) (df:List Nat):jx P o 30 rd Z6V (Z0g [1,2,3,4] [t1,t2,t3,t4]) h c df (Klp [1,2,3,4])=Z1K o rd t1 t2 t3 t4 h c df:=by kernel_rfl
noncomputable def Zne (o:Orc H) (t0:Value) (h:H) (c:Nat):Option (Rt H) :=
 (bif (t0:Value).cells.toList.all Z08 then
 (o (Z3R none) [(ptrTo (256*c+0)),(.bool false),(ptrTo (256*(c+1)+0)),(.int .i64 0)] (newB (newB h (256*c+0) (t0:Value).cells.toList) (256*(c+1)+0) [(.bool false),(.bool false),(.bool false),(.bool false)]) (c+1+1+1) []).bind fun r0 =>
 cond (Z0t r0.e (.exit 0))
 ((Z07 r0.h r0.df).bind fun h2 =>
 some ⟨.ret,[(.bool true)],h2,(r0.c+1),[]⟩)
 (cond (Z0t r0.e .ret)
  ((Z07 r0.h r0.df).bind fun h1 =>
  some ⟨.ret,[r0.v 1],h1,r0.c,[]⟩)
  (none))
 else none)
theorem ZkU (o:Orc H) (t0:Value) (h:H) (c:Nat):jx P o 30 none f50_c (Z0g (List.range 1) [t0]) h c [] (Kfn P Try.f50.results.toList)=Zne o t0 h c:=by kernel_rfl
theorem f50_go {t0:Value} {h:FH} {c:Nat} {df:List Nat} {r:Rt FH} (e:Zne G t0 h c=some r):G (.fn 50) [t0] h c df=some (gcR h c [] r):=Z0p (a:=ZkT) bk_50 rfl (fun args h c=>by cases args <;> rfl) rfl ((ZkU G t0 h c).trans e)
theorem Zg2 {rd:Option Nat} {t1 t2 t3 t4:Value} {h:FH} {c:Nat} {df:List Nat} {q r:Rt FH} (e:Z1K G rd t1 t2 t3 t4 h c df=some q) (hq:q.e = .normal) (k:G (Z3R rd) q.vs (gcR h c df q).h (gcR h c df q).c q.df=some r):G (Z3R rd) [t1,t2,t3,t4] h c df=some r:=Z0y ((Z5R G rd t1 t2 t3 t4 h c df).trans e) hq k
theorem Z59 {rd:Option Nat} {t1 t2 t3 t4:Value} {h:FH} {c:Nat} {df:List Nat} {q:Rt FH} (e:Z1K G rd t1 t2 t3 t4 h c df=some q) (hq:q.e ≠ .normal):G (Z3R rd) [t1,t2,t3,t4] h c df=some (gcR h c df q):=Z0z ((Z5R G rd t1 t2 t3 t4 h c df).trans e) hq
noncomputable def Z2X (o:Orc H) (l:Nat) (t13 t14 t1 t2 t3:Value) (h:H) (c:Nat):Option (Rt H) :=
 (stN (newB h (256*c+0) [(.int .i64 0),(.int .i64 0)]) 2 (ptrTo (256*c+0)) t13).bind fun h1 =>
 (stN (newB h1 (256*(c+1)+0) [(.int .i64 0),(.int .i64 0),(.int .i64 0),(.int .i64 0),(.int .i64 0)]) 5 (ptrTo (256*(c+1)+0)) t14).bind fun h3 =>
 (Z2m h3 l).bind fun h4 =>
 ((ldN h4 5 (ptrTo (256*(c+1)+0))).bind fun t15 =>
 (ldN h4 5 t3).bind fun t16 =>
 (Z00 P .eql 72 t15 t16).bind fun t17 =>
 Z09 t17
  (some ⟨.normal,[],h4,(c+1+1+1),[]⟩)
  ((Z01 (ptrTo (256*(c+1)+0)) 0).bind fun t18 =>
  (ld1 h4 t18).bind fun t19 =>
  (Z00 P .lss 3 t19 (.int .i64 0)).bind fun t20 =>
  (gd t20 false h4 (c+1+1+1+1) (Z01 (ptrTo (256*(c+1)+0)) 0)).bind fun r5 =>
  (gd t20 false r5.2.1 r5.2.2 (ld1 r5.2.1 r5.1)).bind fun r6 =>
  (gd t20 false r6.2.1 r6.2.2 (Z01 t1 0)).bind fun r7 =>
  (gd t20 false r7.2.1 r7.2.2 (ld1 r7.2.1 r7.1)).bind fun r8 =>
  (gg t20 false r8.2.1 r8.2.2 (((Z1f r8.1).bind fun v=>some (v,r8.2.1)).bind fun r=>some (r.1,r.2,r8.2.2))).bind fun r9 =>
  (gd t20 false r9.2.1 r9.2.2 (Z00 P .geq 3 r6.1 r9.1)).bind fun r10 =>
  (Z0v t20 (.bool true) r10.1).bind fun t28 =>
  (gd t28 false r10.2.1 r10.2.2 (Z01 (ptrTo (256*(c+1)+0)) 1)).bind fun r11 =>
  (gd t28 false r11.2.1 r11.2.2 (ldN r11.2.1 4 r11.1)).bind fun r12 =>
  (gg t28 false r12.2.1 r12.2.2 (callF o 60 [r12.1] r12.2.1 r12.2.2)).bind fun r13 =>
  (gd t28 false r13.2.1 r13.2.2 (Z10 .not r13.1)).bind fun r14 =>
  (Z0v t28 (.bool true) r14.1).bind fun t34 =>
  (gd t34 false r14.2.1 r14.2.2 (Z01 (ptrTo (256*(c+1)+0)) 0)).bind fun r15 =>
  (gd t34 false r15.2.1 r15.2.2 (ld1 r15.2.1 r15.1)).bind fun r16 =>
  (gd t34 false r16.2.1 r16.2.2 (Z01 (ptrTo (256*c+0)) 0)).bind fun r17 =>
  (gd t34 false r17.2.1 r17.2.2 (ld1 r17.2.1 r17.1)).bind fun r18 =>
  (gd t34 false r18.2.1 r18.2.2 (Z00 P .eql 3 r16.1 r18.1)).bind fun r19 =>
  (gd t34 false r19.2.1 r19.2.2 (some r19.1)).bind fun r20 =>
  (gd r20.1 true r20.2.1 r20.2.2 (Z01 (ptrTo (256*c+0)) 1)).bind fun r21 =>
  (gd r20.1 true r21.2.1 r21.2.2 (ld1 r21.2.1 r21.1)).bind fun r22 =>
  (gd r20.1 true r22.2.1 r22.2.2 (Z01 (ptrTo (256*(c+1)+0)) 1)).bind fun r23 =>
  (gd r20.1 true r23.2.1 r23.2.2 (ixA 4 1 r23.1 r22.1)).bind fun r24 =>
  (gd r20.1 true r24.2.1 r24.2.2 (ld1 r24.2.1 r24.1)).bind fun r25 =>
  (gd r20.1 true r25.2.1 r25.2.2 (Z01 (ptrTo (256*c+0)) 1)).bind fun r26 =>
  (gd r20.1 true r26.2.1 r26.2.2 (ld1 r26.2.1 r26.1)).bind fun r27 =>
  (gd r20.1 true r27.2.1 r27.2.2 (Z00 P .eql 3 r25.1 r27.1)).bind fun r28 =>
  (gg t34 false r28.2.1 r28.2.2 (Zmy r28.2.1 r28.2.2 r20.1 r28.1 (.bool false))).bind fun r29 =>
  (Z0v t34 (.bool true) r29.1).bind fun t51 =>
  Z09 t51
   ((stN r29.2.1 1 t2 (.int .i64 7)).bind fun h31 =>
   some ⟨.ret,[],h31,(r29.2.2+1),[]⟩)
   ((Z01 t1 0).bind fun t52 =>
   (ld1 r29.2.1 t52).bind fun t53 =>
   (Z01 (ptrTo (256*(c+1)+0)) 0).bind fun t54 =>
   (ld1 r29.2.1 t54).bind fun t55 =>
   (Z01 (ptrTo (256*c+0)) 1).bind fun t56 =>
   (ld1 r29.2.1 t56).bind fun t57 =>
   (Z01 (ptrTo (256*(c+1)+0)) 1).bind fun t58 =>
   (ixA 4 1 t58 t57).bind fun t59 =>
   (ld1 r29.2.1 t59).bind fun t60 =>
   (ixS 20 t53 t55).bind fun t61 =>
   (ixA 4 5 t61 t60).bind fun t62 =>
   (ldN r29.2.1 5 t62).bind fun t63 =>
   (Z01 (ptrTo (256*c+0)) 0).bind fun t64 =>
   (ld1 r29.2.1 t64).bind fun t65 =>
   (Z01 (ptrTo (256*(c+1)+0)) 1).bind fun t66 =>
   (ldN r29.2.1 4 t66).bind fun t67 =>
   (callF o 66 [t67] r29.2.1 (r29.2.2+1)).bind fun r32 =>
   (Z1v [(.int .i64 0),(.int .i64 0),(.int .i64 0),(.int .i64 0),(.int .i64 0)] [(0,1,t65),(1,4,r32.1)]).bind fun t69 =>
   (Z00 P .neq 72 t63 t69).bind fun t70 =>
   (bif (Z14 (Z22 t52) r29.2.1 r32.2.1 && (Z14 (Z22 t54) r29.2.1 r32.2.1 && (Z14 (Z22 t56) r29.2.1 r32.2.1 && (Z14 (Z22 t59) r29.2.1 r32.2.1 && (Z14 (Z22 t62) r29.2.1 r32.2.1 && (Z14 (Z22 t64) r29.2.1 r32.2.1 && true)))))) then
   Z09 t70
    ((stN r32.2.1 1 t2 (.int .i64 7)).bind fun h34 =>
    some ⟨.ret,[],h34,(r32.2.2+1),[]⟩)
    (some ⟨.normal,[],r32.2.1,r32.2.2,[]⟩)
   else none))):Option (Rt H)).bind fun r35 =>
 cond (Z0t r35.e .normal)
 ((Z0I r35.h l .ready none).bind fun h37 =>
 cond (List.isEmpty (r35.df:List Nat)) (some ⟨.ret,[.bool true],h37,r35.c,[]⟩) none)
 (cond (Z0t r35.e .ret)
  ((Z0I r35.h l .done (some .ret)).bind fun h36 =>
  cond (List.isEmpty (r35.df:List Nat)) (some ⟨.ret,[.bool false],h36,r35.c,[]⟩) none)
  (none))
theorem Z5Q (o:Orc H) (l:Nat) (t13 t14 t1 t2 t3:Value) (h:H) (c:Nat):jx P o 71 (some l) Z1p (Z0g ([13,14]++[1,2,3]) [t13,t14,t1,t2,t3]) h c [] (ZlO P o 71 l Z1o)=Z2X o l t13 t14 t1 t2 t3 h c:=by kernel_rfl
noncomputable def ZhR (o:Orc H) (t0:Value) (h:H) (c:Nat):Option (Rt H) :=
 (bif (t0:Value).cells.toList.all Z08 then
 (Z01 (ptrTo (256*c+0)) 0).bind fun t6 =>
 (ld1 (newB (newB h (256*c+0) (t0:Value).cells.toList) (256*c+1) [(.int .i64 0)]) t6).bind fun t7 =>
 (Z1f t7).bind fun t8 =>
 (Z00 P .gtr 3 t8 (.int .i64 1000)).bind fun t9 =>
 Z09 t9
 ((stN (newB (newB h (256*c+0) (t0:Value).cells.toList) (256*c+1) [(.int .i64 0)]) 1 (ptrTo (256*c+1)) (.int .i64 7)).bind fun h1 =>
 (ld1 h1 (ptrTo (256*c+1))).bind fun v2 =>
 some ⟨.ret,[v2],h1,(c+1+1+1),[]⟩)
 ((Z1v [(.int .i64 0),(.int .i64 0),(.int .i64 0),(.int .i64 0),(.int .i64 0)] [(0,1,(.int .i64 (-1)))]).bind fun t10 =>
 (stN (newB (newB (newB h (256*c+0) (t0:Value).cells.toList) (256*c+1) [(.int .i64 0)]) (256*(c+1+1)+1) [(.int .i64 0),(.int .i64 0),(.int .i64 0),(.int .i64 0),(.int .i64 0)]) 5 (ptrTo (256*(c+1+1)+1)) t10).bind fun h4 =>
 (ldN h4 1 (ptrTo (256*c+0))).bind fun t11 =>
 (callF o 71 [t11] h4 (c+1+1+1+1)).bind fun r5 =>
 (Z4N o 71 none [1,2,3] [] #[13,14] Z1p Z1o r5.1 [(ptrTo (256*c+0)),(ptrTo (256*c+1)),(ptrTo (256*(c+1+1)+1))] r5.2.1 r5.2.2 []).bind fun q6 =>
 cond (Z0t q6.1 .normal)
  ((stN q6.2.1 1 (ptrTo (256*c+1)) (.int .i64 0)).bind fun h10 =>
  (Z07 h10 q6.2.2.2).bind fun h11 =>
  (ld1 h11 (ptrTo (256*c+1))).bind fun v12 =>
  some ⟨.ret,[v12],h11,(q6.2.2.1+1),[]⟩)
  (cond (Z0t q6.1 .ret)
   ((Z07 q6.2.1 q6.2.2.2).bind fun h7 =>
   (ld1 h7 (ptrTo (256*c+1))).bind fun v8 =>
   some ⟨.ret,[v8],h7,q6.2.2.1,[]⟩)
   (none)))
 else none)
theorem ZeH (o:Orc H) (t0:Value) (h:H) (c:Nat):jx P o 71 none f57_c (Z0g (List.range 1) [t0]) h c [] (Kfn P Try.f57.results.toList)=ZhR o t0 h c:=by kernel_rfl
theorem f57_go {t0:Value} {h:FH} {c:Nat} {df:List Nat} {r:Rt FH} (e:ZhR G t0 h c=some r):G (.fn 57) [t0] h c df=some (gcR h c [] r):=Z0p (a:=ZcS) bk_57 rfl (fun args h c=>by cases args <;> rfl) rfl ((ZeH G t0 h c).trans e)
theorem Zg1 {t13 t14 t1 t2 t3:Value} {l:Nat} {h:FH} {c:Nat} {df:List Nat} {r:Rt FH} (e:Z2X G l t13 t14 t1 t2 t3 h c=some r):G (.rnd 71 [1,2,3] [] [13,14] l Z1p Z1o) [t13,t14,t1,t2,t3] h c df=some r:=ZiA ((Z5Q G l t13 t14 t1 t2 t3 h c).trans e)
noncomputable def Z6U (o:Orc H) (rd:Option Nat) (t1 t4 t17 t18:Value) (h:H) (c:Nat) (df:List Nat):Option (Rt H) :=
 (Z00 P .lss 3 t18 t17).bind fun t19 =>
 Z09 t19
 ((ixS 1 t4 t18).bind fun t23 =>
 (stN h 1 t23 (.int .i64 (-1))).bind fun h1 =>
 (Z00 P .add 3 t18 (.int .i64 1)).bind fun t24 =>
 some ⟨.normal,[t1,t4,t17,t24],h1,(c+1+1+1+1),df⟩)
 (some ⟨(.exit 0),[t1,t4,t17,t18],h,(c+1),df⟩)
theorem Zb1 (o:Orc H) (rd:Option Nat) (t1 t4 t17 t18:Value) (h:H) (c:Nat) (df:List Nat):jx P o 85 rd Z2W (Z0g [1,4,17,18] [t1,t4,t17,t18]) h c df (Klp [1,4,17,18])=Z6U o rd t1 t4 t17 t18 h c df:=by kernel_rfl
noncomputable def Z6R (o:Orc H) (rd:Option Nat) (t1 t4 t6 t8 t9 t26 t27 t54 t55:Value) (h:H) (c:Nat) (df:List Nat):Option (Rt H) :=
 (Z00 P .lss 3 t55 (.int .i64 4)).bind fun t56 =>
 Z09 t56
 ((ixV 4 true 5 t54 t55).bind fun t57 =>
 (stN (newB h (256*(c+1)+1) [(.int .i64 0),(.int .i64 0),(.int .i64 0),(.int .i64 0),(.int .i64 0)]) 5 (ptrTo (256*(c+1)+1)) t57).bind fun h1 =>
 (Z01 (ptrTo (256*(c+1)+1)) 0).bind fun t58 =>
 (ld1 h1 t58).bind fun t59 =>
 (Z00 P .geq 3 t59 (.int .i64 0)).bind fun t60 =>
 (gd t60 true h1 (c+1+1+1) (some t4)).bind fun r2 =>
 (gd t60 true r2.2.1 r2.2.2 (Z01 (ptrTo (256*(c+1)+1)) 0)).bind fun r3 =>
 (gd t60 true r3.2.1 r3.2.2 (ld1 r3.2.1 r3.1)).bind fun r4 =>
 (gd t60 true r4.2.1 r4.2.2 (ixS 1 r2.1 r4.1)).bind fun r5 =>
 (gd t60 true r5.2.1 r5.2.2 (ld1 r5.2.1 r5.1)).bind fun r6 =>
 (gd t60 true r6.2.1 r6.2.2 (Z00 P .lss 3 r6.1 (.int .i64 0))).bind fun r7 =>
 (Z0v t60 r7.1 (.bool false)).bind fun t68 =>
 (Z09 t68
  ((Z01 (ptrTo (256*(c+1)+1)) 0).bind fun t70 =>
  (ld1 r7.2.1 t70).bind fun t71 =>
  (ixS 1 t4 t71).bind fun t73 =>
  (stN r7.2.1 1 t73 t6).bind fun h9 =>
  (Z01 (ptrTo (256*(c+1)+1)) 0).bind fun t75 =>
  (ld1 h9 t75).bind fun t76 =>
  (Z5d [(.int .i64 0)] [(0,1,t76)]).bind fun r10 =>
  (Z67 (newB h9 (256*(r7.2.2+1)+3) r10) (256*(r7.2.2+1)+4) 1 8 t8 (.slice (some ⟨(256*(r7.2.2+1)+3),0,none⟩) 1 1)).bind fun r11 =>
  some ⟨.normal,[t1,t4,t6,r11.1,t9,t26,t27,t54,t55],r11.2,(r7.2.2+1+1),df⟩)
  (some ⟨.normal,[t1,t4,t6,t8,t9,t26,t27,t54,t55],r7.2.1,r7.2.2,df⟩):Option (Rt H)).bind fun r13 =>
 cond (Z0t r13.e .normal)
  ((Z00 P .add 3 (r13.v 8) (.int .i64 1)).bind fun t79 =>
  some ⟨.normal,[r13.v 0,r13.v 1,r13.v 2,r13.v 3,r13.v 4,r13.v 5,r13.v 6,r13.v 7,t79],r13.h,(r13.c+1),r13.df⟩)
  (none))
 (some ⟨(.exit 6),[t1,t4,t6,t8,t9,t26,t27,t54,t55],h,(c+1),df⟩)
theorem ZaY (o:Orc H) (rd:Option Nat) (t1 t4 t6 t8 t9 t26 t27 t54 t55:Value) (h:H) (c:Nat) (df:List Nat):jx P o 85 rd Z2T (Z0g [1,4,6,8,9,26,27,54,55] [t1,t4,t6,t8,t9,t26,t27,t54,t55]) h c df (Klp [1,4,6,8,9,26,27,54,55])=Z6R o rd t1 t4 t6 t8 t9 t26 t27 t54 t55 h c df:=by kernel_rfl
noncomputable def Z6S (o:Orc H) (rd:Option Nat) (t1 t4 t6 t8 t9 t26 t27:Value) (h:H) (c:Nat) (df:List Nat):Option (Rt H) :=
 (Z1f t8).bind fun t43 =>
 (Z00 P .lss 3 t9 t43).bind fun t44 =>
 Z09 t44
 ((Z01 t1 0).bind fun t47 =>
 (ld1 h t47).bind fun t48 =>
 (ixS 1 t8 t9).bind fun t51 =>
 (ld1 h t51).bind fun t52 =>
 (ixS 20 t48 t52).bind fun t53 =>
 (ldN h 20 t53).bind fun t54 =>
 (o (ZfW rd) [t1,t4,t6,t8,t9,t26,t27,t54,(.int .i64 0)] h (c+1+1) df).bind fun r0 =>
 cond (Z0t r0.e (.exit 6))
  ((Z00 P .add 3 (r0.v 4) (.int .i64 1)).bind fun t46 =>
  some ⟨.normal,[r0.v 0,r0.v 1,r0.v 2,r0.v 3,t46,r0.v 5,r0.v 6],r0.h,(r0.c+1),r0.df⟩)
  (none))
 (some ⟨(.exit 4),[t1,t4,t6,t8,t9,t26,t27],h,(c+1),df⟩)
theorem ZaZ (o:Orc H) (rd:Option Nat) (t1 t4 t6 t8 t9 t26 t27:Value) (h:H) (c:Nat) (df:List Nat):jx P o 85 rd Z2U (Z0g [1,4,6,8,9,26,27] [t1,t4,t6,t8,t9,t26,t27]) h c df (Klp [1,4,6,8,9,26,27])=Z6S o rd t1 t4 t6 t8 t9 t26 t27 h c df:=by kernel_rfl
noncomputable def Z6T (o:Orc H) (rd:Option Nat) (t1 t4 t6 t26 t27:Value) (h:H) (c:Nat) (df:List Nat):Option (Rt H) :=
 (Z00 P .lss 3 t27 t26).bind fun t28 =>
 Z09 t28
 (((ixS 1 t4 t27).bind fun t32 =>
  (ld1 h t32).bind fun t33 =>
  (Z00 P .geq 3 t33 (.int .i64 0)).bind fun t34 =>
  Z09 t34
   (some ⟨.normal,[t1,t4,t6,t26,t27],h,(c+1+1+1),df⟩)
   ((ixS 1 t4 t27).bind fun t38 =>
   (stN h 1 t38 t6).bind fun h1 =>
   (Z5d [(.int .i64 0)] [(0,1,t27)]).bind fun r2 =>
   (o (ZfX rd) [t1,t4,t6,(.slice (some ⟨(256*(c+1+1+1+1)+1),0,none⟩) 1 1),(.int .i64 0),t26,t27] (newB h1 (256*(c+1+1+1+1)+1) r2) (c+1+1+1+1+1+1) df).bind fun r3 =>
   cond (Z0t r3.e (.exit 4))
    ((Z00 P .add 3 (r3.v 2) (.int .i64 1)).bind fun t81 =>
    some ⟨.normal,[r3.v 0,r3.v 1,t81,r3.v 5,r3.v 6],r3.h,(r3.c+1),r3.df⟩)
    (none)):Option (Rt H)).bind fun r5 =>
 cond (Z0t r5.e .normal)
  ((Z00 P .add 3 (r5.v 4) (.int .i64 1)).bind fun t82 =>
  some ⟨.normal,[r5.v 0,r5.v 1,r5.v 2,r5.v 3,t82],r5.h,(r5.c+1),r5.df⟩)
  (none))
 (some ⟨(.exit 2),[t1,t4,t6,t26,t27],h,(c+1),df⟩)
theorem Zb0 (o:Orc H) (rd:Option Nat) (t1 t4 t6 t26 t27:Value) (h:H) (c:Nat) (df:List Nat):jx P o 85 rd Z2V (Z0g [1,4,6,26,27] [t1,t4,t6,t26,t27]) h c df (Klp [1,4,6,26,27])=Z6T o rd t1 t4 t6 t26 t27 h c df:=by kernel_rfl
noncomputable def Znd (o:Orc H) (t0:Value) (h:H) (c:Nat):Option (Rt H) :=
 (bif (t0:Value).cells.toList.all Z08 then
 (Z01 (ptrTo (256*c+0)) 0).bind fun t12 =>
 (ld1 (newB h (256*c+0) (t0:Value).cells.toList) t12).bind fun t13 =>
 (Z1f t13).bind fun t14 =>
 (mkS 1 8 [(.int .i64 0)] t14 t14).bind fun r0 =>
 (Z1f (.slice (some ⟨(256*(c+1)+3),0,none⟩) r0.2.1 r0.2.2)).bind fun t17 =>
 (o (ZfZ none) [(ptrTo (256*c+0)),(.slice (some ⟨(256*(c+1)+3),0,none⟩) r0.2.1 r0.2.2),t17,(.int .i64 0)] (newB (newB h (256*c+0) (t0:Value).cells.toList) (256*(c+1)+3) r0.1) (c+1+1+1) []).bind fun r1 =>
 cond (Z0t r1.e (.exit 0))
 ((Z1f (r1.v 1)).bind fun t26 =>
 (o (ZfY none) [r1.v 0,r1.v 1,(.int .i64 0),t26,(.int .i64 0)] r1.h (r1.c+1+1) r1.df).bind fun r2 =>
 cond (Z0t r2.e (.exit 2))
  ((Z07 r2.h r2.df).bind fun h3 =>
  some ⟨.ret,[.tuple #[r2.v 1,r2.v 2]],h3,(r2.c+1),[]⟩)
  (none))
 (none)
 else none)
theorem ZkS (o:Orc H) (t0:Value) (h:H) (c:Nat):jx P o 85 none f58_c (Z0g (List.range 1) [t0]) h c [] (Kfn P Try.f58.results.toList)=Znd o t0 h c:=by kernel_rfl
noncomputable def Z6Q (o:Orc H) (rd:Option Nat) (t0 t4:Value) (h:H) (c:Nat) (df:List Nat):Option (Rt H) :=
 (Z00 P .lss 3 t4 (.int .i64 256)).bind fun t5 =>
 Z09 t5
 ((Z00 P .shr 3 t4 (.int .u64 6)).bind fun t8 =>
 (Z00 P .shr 3 t4 (.int .u64 4)).bind fun t10 =>
 (Z00 P .and 3 t10 (.int .i64 3)).bind fun t11 =>
 (Z00 P .shr 3 t4 (.int .u64 2)).bind fun t13 =>
 (Z00 P .and 3 t13 (.int .i64 3)).bind fun t14 =>
 (Z00 P .and 3 t4 (.int .i64 3)).bind fun t16 =>
 (Z1v [(.int .i64 0),(.int .i64 0),(.int .i64 0),(.int .i64 0)] [(0,1,t8),(1,1,t11),(2,1,t14),(3,1,t16)]).bind fun t17 =>
 (stN (newB h (256*(c+1+1)+11) [(.int .i64 0),(.int .i64 0),(.int .i64 0),(.int .i64 0)]) 4 (ptrTo (256*(c+1+1)+11)) t17).bind fun h1 =>
 (ldN h1 4 (ptrTo (256*(c+1+1)+11))).bind fun t18 =>
 (callF o 60 [t18] h1 (c+1+1+1+1)).bind fun r2 =>
 (gd r2.1 true r2.2.1 r2.2.2 (some t0)).bind fun r3 =>
 (gd r2.1 true r3.2.1 r3.2.2 (ldN r3.2.1 4 (ptrTo (256*(c+1+1)+11)))).bind fun r4 =>
 (gg r2.1 true r4.2.1 r4.2.2 (Z1S o r4.2.1 r4.2.2 r3.1 [r4.1])).bind fun r5 =>
 (gd r2.1 true r5.2.1 r5.2.2 (Z10 .not r5.1)).bind fun r6 =>
 (Z0v r2.1 r6.1 (.bool false)).bind fun t25 =>
 Z09 t25
  (some ⟨.ret,[t0,t4],r6.2.1,r6.2.2,df⟩)
  ((Z00 P .add 3 t4 (.int .i64 1)).bind fun t26 =>
  some ⟨.normal,[t0,t26],r6.2.1,(r6.2.2+1),df⟩))
 (some ⟨(.exit 0),[t0,t4],h,(c+1),df⟩)
theorem ZaX (o:Orc H) (rd:Option Nat) (t0 t4:Value) (h:H) (c:Nat) (df:List Nat):jx P o 27 rd Z2S (Z0g [0,4] [t0,t4]) h c df (Klp [0,4])=Z6Q o rd t0 t4 h c df:=by kernel_rfl
noncomputable def Znc (o:Orc H) (t0:Value) (h:H) (c:Nat):Option (Rt H) :=
 (o (ZfU none) [t0,(.int .i64 0)] h (c+1) []).bind fun r0 =>
 cond (Z0t r0.e (.exit 0))
 ((Z07 r0.h r0.df).bind fun h2 =>
 some ⟨.ret,[.tuple #[]],h2,r0.c,[]⟩)
 (cond (Z0t r0.e .ret)
  ((Z07 r0.h r0.df).bind fun h1 =>
  some ⟨.ret,[.tuple #[]],h1,r0.c,[]⟩)
  (none))
theorem ZkR (o:Orc H) (t0:Value) (h:H) (c:Nat):jx P o 27 none f59_c (Z0g (List.range 1) [t0]) h c [] (Kfn P Try.f59.results.toList)=Znc o t0 h c:=by kernel_rfl

variable {H:Type} [HeapC H]
noncomputable def Z0E (o:Orc H) (rd:Option Nat) (t2 t3 t6 t7:Value) (h:H) (c:Nat) (df:List Nat):Option (Rt H) :=
 (Z00 P .lss 3 t7 (.int .i64 4)).bind fun t8 =>
 Z09 t8
 ((ixV 4 false 1 t6 t7).bind fun t9 =>
 (Z00 P .lss 3 t9 (.int .i64 0)).bind fun t11 =>
 (gd t11 false h (c+1+1+1) (some t9)).bind fun r0 =>
 (gd t11 false r0.2.1 r0.2.2 (Z00 P .gtr 3 r0.1 (.int .i64 3))).bind fun r1 =>
 (Z0v t11 (.bool true) r1.1).bind fun t15 =>
 Z09 t15
  (some ⟨.ret,[(.bool false),t3,t6,t7],r1.2.1,(r1.2.2+1),df⟩)
  ((Z00 P .shl 3 (.int .i64 1) t9).bind fun t18 =>
  (Z00 P .or 3 t3 t18).bind fun t19 =>
  (Z00 P .add 3 t7 (.int .i64 1)).bind fun t20 =>
  some ⟨.normal,[t2,t19,t6,t20],r1.2.1,(r1.2.2+1+1),df⟩))
 (some ⟨(.exit 0),[t2,t3,t6,t7],h,(c+1),df⟩)
theorem Z1n (o:Orc H) (rd:Option Nat) (t2 t3 t6 t7:Value) (h:H) (c:Nat) (df:List Nat):jx P o 23 rd Z1c (Z0g [2,3,6,7] [t2,t3,t6,t7]) h c df (Klp [2,3,6,7])=Z0E o rd t2 t3 t6 t7 h c df:=by kernel_rfl
noncomputable def ZaW (o:Orc H) (t0:Value) (h:H) (c:Nat):Option (Rt H) :=
 (bif (t0:Value).cells.toList.all Z08 then
 (ldN (newB h (256*c+0) (t0:Value).cells.toList) 4 (ptrTo (256*c+0))).bind fun t6 =>
 (o (Z13 none) [(.bool false),(.int .i64 0),t6,(.int .i64 0)] (newB h (256*c+0) (t0:Value).cells.toList) (c+1+1+1) []).bind fun r0 =>
 cond (Z0t r0.e (.exit 0))
 ((Z00 P .eql 3 (r0.v 1) (.int .i64 15)).bind fun t22 =>
 (Z07 r0.h r0.df).bind fun h2 =>
 some ⟨.ret,[t22],h2,(r0.c+1),[]⟩)
 (cond (Z0t r0.e .ret)
  ((Z07 r0.h r0.df).bind fun h1 =>
  some ⟨.ret,[r0.v 0],h1,r0.c,[]⟩)
  (none))
 else none)
theorem Z7X (o:Orc H) (t0:Value) (h:H) (c:Nat):jx P o 23 none ZhQ (Z0g (List.range 1) [t0]) h c [] (Kfn P Try.f60.results.toList)=ZaW o t0 h c:=by kernel_rfl
theorem ZhP {t0:Value} {h:FH} {c:Nat} {df:List Nat} {r:Rt FH} (e:ZaW G t0 h c=some r):G (.fn 60) [t0] h c df=some (gcR h c [] r):=Z0p (a:=Z7M) ZlD rfl (fun args h c=>by cases args <;> rfl) rfl ((Z7X G t0 h c).trans e)
theorem Z6P {rd:Option Nat} {t2 t3 t6 t7:Value} {h:FH} {c:Nat} {df:List Nat} {q r:Rt FH} (e:Z0E G rd t2 t3 t6 t7 h c df=some q) (hq:q.e = .normal) (k:G (Z13 rd) q.vs (gcR h c df q).h (gcR h c df q).c q.df=some r):G (Z13 rd) [t2,t3,t6,t7] h c df=some r:=Z0y ((Z1n G rd t2 t3 t6 t7 h c df).trans e) hq k
theorem Z3Q {rd:Option Nat} {t2 t3 t6 t7:Value} {h:FH} {c:Nat} {df:List Nat} {q:Rt FH} (e:Z0E G rd t2 t3 t6 t7 h c df=some q) (hq:q.e ≠ .normal):G (Z13 rd) [t2,t3,t6,t7] h c df=some (gcR h c df q):=Z0z ((Z1n G rd t2 t3 t6 t7 h c df).trans e) hq
noncomputable def ZhO (o:Orc H) (t0 t1:Value) (h:H) (c:Nat):Option (Rt H) :=
 (bif (t0:Value).cells.toList.all Z08 then
 (bif (t1:Value).cells.toList.all Z08 then
 (ldN (newB (newB (newB h (256*c+0) (t0:Value).cells.toList) (256*c+1) (t1:Value).cells.toList) (256*c+2) [(.int .i64 0),(.int .i64 0),(.int .i64 0),(.int .i64 0)]) 4 (ptrTo (256*c+0))).bind fun t5 =>
 (callF o 60 [t5] (newB (newB (newB h (256*c+0) (t0:Value).cells.toList) (256*c+1) (t1:Value).cells.toList) (256*c+2) [(.int .i64 0),(.int .i64 0),(.int .i64 0),(.int .i64 0)]) (c+1+1)).bind fun r0 =>
 (Z10 .not r0.1).bind fun t7 =>
 (gd t7 false r0.2.1 r0.2.2 (ldN r0.2.1 4 (ptrTo (256*c+1)))).bind fun r1 =>
 (gg t7 false r1.2.1 r1.2.2 (callF o 60 [r1.1] r1.2.1 r1.2.2)).bind fun r2 =>
 (gd t7 false r2.2.1 r2.2.2 (Z10 .not r2.1)).bind fun r3 =>
 (Z0v t7 (.bool true) r3.1).bind fun t12 =>
 Z09 t12
 ((Z1v [(.int .i64 0),(.int .i64 0),(.int .i64 0),(.int .i64 0)] []).bind fun t13 =>
 (stN r3.2.1 4 (ptrTo (256*c+2)) t13).bind fun h5 =>
 (ldN h5 4 (ptrTo (256*c+2))).bind fun v6 =>
 some ⟨.ret,[v6],h5,(r3.2.2+1),[]⟩)
 ((ldN r3.2.1 4 (ptrTo (256*c+0))).bind fun t14 =>
 (ldN r3.2.1 4 (ptrTo (256*c+1))).bind fun t15 =>
 (callF o 65 [t14,t15] r3.2.1 (r3.2.2+1)).bind fun r7 =>
 (stN r7.2.1 4 (ptrTo (256*c+2)) r7.1).bind fun h9 =>
 (ldN h9 4 (ptrTo (256*c+2))).bind fun v10 =>
 some ⟨.ret,[v10],h9,r7.2.2,[]⟩)
 else none)
 else none)
theorem ZeG (o:Orc H) (t0 t1:Value) (h:H) (c:Nat):jx P o 17 none f61_c (Z0g (List.range 2) [t0,t1]) h c [] (Kfn P Try.f61.results.toList)=ZhO o t0 t1 h c:=by kernel_rfl
theorem f61_go {t0 t1:Value} {h:FH} {c:Nat} {df:List Nat} {r:Rt FH} (e:ZhO G t0 t1 h c=some r):G (.fn 61) [t0,t1] h c df=some (gcR h c [] r):=Z0p (a:=ZcQ) bk_61 rfl (fun args h c=>by cases args <;> rfl) rfl ((ZeG G t0 t1 h c).trans e)
noncomputable def ZhM (o:Orc H) (t0:Value) (h:H) (c:Nat):Option (Rt H) :=
 (bif (t0:Value).cells.toList.all Z08 then
 (ldN (newB (newB h (256*c+0) (t0:Value).cells.toList) (256*c+1) [(.int .i64 0),(.int .i64 0),(.int .i64 0),(.int .i64 0)]) 4 (ptrTo (256*c+0))).bind fun t3 =>
 (callF o 60 [t3] (newB (newB h (256*c+0) (t0:Value).cells.toList) (256*c+1) [(.int .i64 0),(.int .i64 0),(.int .i64 0),(.int .i64 0)]) (c+1+1)).bind fun r0 =>
 (Z10 .not r0.1).bind fun t5 =>
 Z09 t5
 ((Z1v [(.int .i64 0),(.int .i64 0),(.int .i64 0),(.int .i64 0)] []).bind fun t6 =>
 (stN r0.2.1 4 (ptrTo (256*c+1)) t6).bind fun h2 =>
 (ldN h2 4 (ptrTo (256*c+1))).bind fun v3 =>
 some ⟨.ret,[v3],h2,(r0.2.2+1),[]⟩)
 ((ldN r0.2.1 4 (ptrTo (256*c+0))).bind fun t7 =>
 (callF o 66 [t7] r0.2.1 (r0.2.2+1)).bind fun r4 =>
 (stN r4.2.1 4 (ptrTo (256*c+1)) r4.1).bind fun h6 =>
 (ldN h6 4 (ptrTo (256*c+1))).bind fun v7 =>
 some ⟨.ret,[v7],h6,r4.2.2,[]⟩)
 else none)
theorem ZeF (o:Orc H) (t0:Value) (h:H) (c:Nat):jx P o 9 none f62_c (Z0g (List.range 1) [t0]) h c [] (Kfn P Try.f62.results.toList)=ZhM o t0 h c:=by kernel_rfl
theorem f62_go {t0:Value} {h:FH} {c:Nat} {df:List Nat} {r:Rt FH} (e:ZhM G t0 h c=some r):G (.fn 62) [t0] h c df=some (gcR h c [] r):=Z0p (a:=ZcP) bk_62 rfl (fun args h c=>by cases args <;> rfl) rfl ((ZeF G t0 h c).trans e)
noncomputable def ZhK (o:Orc H) (t0 t1:Value) (h:H) (c:Nat):Option (Rt H) :=
 (callF o 72 [t0,t1] h (c+1+1)).bind fun r0 =>
 (Z00 P .geq 3 r0.1 (.int .i64 0)).bind fun t8 =>
 some ⟨.ret,[t8],r0.2.1,r0.2.2,[]⟩
theorem ZeE (o:Orc H) (t0 t1:Value) (h:H) (c:Nat):jx P o 9 none f63_c (Z0g (List.range 2) [t0,t1]) h c [] (Kfn P Try.f63.results.toList)=ZhK o t0 t1 h c:=by kernel_rfl
theorem f63_go {t0 t1:Value} {h:FH} {c:Nat} {df:List Nat} {r:Rt FH} (e:ZhK G t0 t1 h c=some r):G (.fn 63) [t0,t1] h c df=some (gcR h c [] r):=Z0p (a:=ZcO) bk_63 rfl (fun args h c=>by cases args <;> rfl) rfl ((ZeE G t0 t1 h c).trans e)
noncomputable def ZhJ (o:Orc H) (t0:Value) (h:H) (c:Nat):Option (Rt H) :=
 (bif (t0:Value).cells.toList.all Z08 then
 (ldN (newB h (256*c+0) (t0:Value).cells.toList) 4 (ptrTo (256*c+0))).bind fun t3 =>
 (callF o 60 [t3] (newB h (256*c+0) (t0:Value).cells.toList) (c+1+1)).bind fun r0 =>
 (Z10 .not r0.1).bind fun t5 =>
 some ⟨.ret,[t5],r0.2.1,r0.2.2,[]⟩
 else none)
theorem ZeD (o:Orc H) (t0:Value) (h:H) (c:Nat):jx P o 6 none f64_c (Z0g (List.range 1) [t0]) h c [] (Kfn P Try.f64.results.toList)=ZhJ o t0 h c:=by kernel_rfl
theorem f64_go {t0:Value} {h:FH} {c:Nat} {df:List Nat} {r:Rt FH} (e:ZhJ G t0 h c=some r):G (.fn 64) [t0] h c df=some (gcR h c [] r):=Z0p (a:=ZcN) bk_64 rfl (fun args h c=>by cases args <;> rfl) rfl ((ZeD G t0 h c).trans e)
noncomputable def ZaV (o:Orc H) (t0 t1:Value) (h:H) (c:Nat):Option (Rt H) :=
 (bif (t0:Value).cells.toList.all Z08 then
 (bif (t1:Value).cells.toList.all Z08 then
 (ixA 4 1 (ptrTo (256*c+1)) (.int .i64 0)).bind fun t5 =>
 (ld1 (newB (newB (newB h (256*c+0) (t0:Value).cells.toList) (256*c+1) (t1:Value).cells.toList) (256*c+2) [(.int .i64 0),(.int .i64 0),(.int .i64 0),(.int .i64 0)]) t5).bind fun t6 =>
 (ixA 4 1 (ptrTo (256*c+0)) t6).bind fun t7 =>
 (ld1 (newB (newB (newB h (256*c+0) (t0:Value).cells.toList) (256*c+1) (t1:Value).cells.toList) (256*c+2) [(.int .i64 0),(.int .i64 0),(.int .i64 0),(.int .i64 0)]) t7).bind fun t8 =>
 (ixA 4 1 (ptrTo (256*c+1)) (.int .i64 1)).bind fun t9 =>
 (ld1 (newB (newB (newB h (256*c+0) (t0:Value).cells.toList) (256*c+1) (t1:Value).cells.toList) (256*c+2) [(.int .i64 0),(.int .i64 0),(.int .i64 0),(.int .i64 0)]) t9).bind fun t10 =>
 (ixA 4 1 (ptrTo (256*c+0)) t10).bind fun t11 =>
 (ld1 (newB (newB (newB h (256*c+0) (t0:Value).cells.toList) (256*c+1) (t1:Value).cells.toList) (256*c+2) [(.int .i64 0),(.int .i64 0),(.int .i64 0),(.int .i64 0)]) t11).bind fun t12 =>
 (ixA 4 1 (ptrTo (256*c+1)) (.int .i64 2)).bind fun t13 =>
 (ld1 (newB (newB (newB h (256*c+0) (t0:Value).cells.toList) (256*c+1) (t1:Value).cells.toList) (256*c+2) [(.int .i64 0),(.int .i64 0),(.int .i64 0),(.int .i64 0)]) t13).bind fun t14 =>
 (ixA 4 1 (ptrTo (256*c+0)) t14).bind fun t15 =>
 (ld1 (newB (newB (newB h (256*c+0) (t0:Value).cells.toList) (256*c+1) (t1:Value).cells.toList) (256*c+2) [(.int .i64 0),(.int .i64 0),(.int .i64 0),(.int .i64 0)]) t15).bind fun t16 =>
 (ixA 4 1 (ptrTo (256*c+1)) (.int .i64 3)).bind fun t17 =>
 (ld1 (newB (newB (newB h (256*c+0) (t0:Value).cells.toList) (256*c+1) (t1:Value).cells.toList) (256*c+2) [(.int .i64 0),(.int .i64 0),(.int .i64 0),(.int .i64 0)]) t17).bind fun t18 =>
 (ixA 4 1 (ptrTo (256*c+0)) t18).bind fun t19 =>
 (ld1 (newB (newB (newB h (256*c+0) (t0:Value).cells.toList) (256*c+1) (t1:Value).cells.toList) (256*c+2) [(.int .i64 0),(.int .i64 0),(.int .i64 0),(.int .i64 0)]) t19).bind fun t20 =>
 (Z1v [(.int .i64 0),(.int .i64 0),(.int .i64 0),(.int .i64 0)] [(0,1,t8),(1,1,t12),(2,1,t16),(3,1,t20)]).bind fun t21 =>
 (stN (newB (newB (newB h (256*c+0) (t0:Value).cells.toList) (256*c+1) (t1:Value).cells.toList) (256*c+2) [(.int .i64 0),(.int .i64 0),(.int .i64 0),(.int .i64 0)]) 4 (ptrTo (256*c+2)) t21).bind fun h1 =>
 (ldN h1 4 (ptrTo (256*c+2))).bind fun v2 =>
 some ⟨.ret,[v2],h1,(c+1+1),[]⟩
 else none)
 else none)
theorem Z7W (o:Orc H) (t0 t1:Value) (h:H) (c:Nat):jx P o 22 none ZhI (Z0g (List.range 2) [t0,t1]) h c [] (Kfn P Try.f65.results.toList)=ZaV o t0 t1 h c:=by kernel_rfl
theorem ZhH {t0 t1:Value} {h:FH} {c:Nat} {df:List Nat} {r:Rt FH} (e:ZaV G t0 t1 h c=some r):G (.fn 65) [t0,t1] h c df=some (gcR h c [] r):=Z0p (a:=Z7L) ZlC rfl (fun args h c=>by cases args <;> rfl) rfl ((Z7W G t0 t1 h c).trans e)
noncomputable def Z0L (o:Orc H) (rd:Option Nat) (t2 t3 t6 t7:Value) (h:H) (c:Nat) (df:List Nat):Option (Rt H) :=
 (Z00 P .lss 3 t7 (.int .i64 4)).bind fun t8 =>
 Z09 t8
 ((ixV 4 false 1 t6 t7).bind fun t10 =>
 (ixA 4 1 t3 t10).bind fun t13 =>
 (stN h 1 t13 t7).bind fun h1 =>
 (Z00 P .add 3 t7 (.int .i64 1)).bind fun t14 =>
 some ⟨.normal,[t2,t3,t6,t14],h1,(c+1+1+1+1),df⟩)
 (some ⟨(.exit 0),[t2,t3,t6,t7],h,(c+1),df⟩)
theorem Z1m (o:Orc H) (rd:Option Nat) (t2 t3 t6 t7:Value) (h:H) (c:Nat) (df:List Nat):jx P o 16 rd Z1b (Z0g [2,3,6,7] [t2,t3,t6,t7]) h c df (Klp [2,3,6,7])=Z0L o rd t2 t3 t6 t7 h c df:=by kernel_rfl
noncomputable def ZaU (o:Orc H) (t0:Value) (h:H) (c:Nat):Option (Rt H) :=
 (bif (t0:Value).cells.toList.all Z08 then
 (ldN (newB (newB (newB h (256*c+0) (t0:Value).cells.toList) (256*c+1) [(.int .i64 0),(.int .i64 0),(.int .i64 0),(.int .i64 0)]) (256*(c+1)+0) [(.int .i64 0),(.int .i64 0),(.int .i64 0),(.int .i64 0)]) 4 (ptrTo (256*c+0))).bind fun t6 =>
 (o (Z12 none) [(ptrTo (256*c+1)),(ptrTo (256*(c+1)+0)),t6,(.int .i64 0)] (newB (newB (newB h (256*c+0) (t0:Value).cells.toList) (256*c+1) [(.int .i64 0),(.int .i64 0),(.int .i64 0),(.int .i64 0)]) (256*(c+1)+0) [(.int .i64 0),(.int .i64 0),(.int .i64 0),(.int .i64 0)]) (c+1+1+1) []).bind fun r0 =>
 cond (Z0t r0.e (.exit 0))
 ((ldN r0.h 4 (r0.v 1)).bind fun t15 =>
 (stN r0.h 4 (r0.v 0) t15).bind fun h2 =>
 (Z07 h2 r0.df).bind fun h3 =>
 (ldN h3 4 (r0.v 0)).bind fun v4 =>
 some ⟨.ret,[v4],h3,(r0.c+1),[]⟩)
 (none)
 else none)
theorem Z7V (o:Orc H) (t0:Value) (h:H) (c:Nat):jx P o 16 none ZhG (Z0g (List.range 1) [t0]) h c [] (Kfn P Try.f66.results.toList)=ZaU o t0 h c:=by kernel_rfl
theorem ZhF {t0:Value} {h:FH} {c:Nat} {df:List Nat} {r:Rt FH} (e:ZaU G t0 h c=some r):G (.fn 66) [t0] h c df=some (gcR h c [] r):=Z0p (a:=Z7K) ZlB rfl (fun args h c=>by cases args <;> rfl) rfl ((Z7V G t0 h c).trans e)
theorem Z6O {rd:Option Nat} {t2 t3 t6 t7:Value} {h:FH} {c:Nat} {df:List Nat} {q r:Rt FH} (e:Z0L G rd t2 t3 t6 t7 h c df=some q) (hq:q.e = .normal) (k:G (Z12 rd) q.vs (gcR h c df q).h (gcR h c df q).c q.df=some r):G (Z12 rd) [t2,t3,t6,t7] h c df=some r:=Z0y ((Z1m G rd t2 t3 t6 t7 h c df).trans e) hq k
theorem Z6N {rd:Option Nat} {t2 t3 t6 t7:Value} {h:FH} {c:Nat} {df:List Nat} {q:Rt FH} (e:Z0L G rd t2 t3 t6 t7 h c df=some q) (hq:q.e ≠ .normal):G (Z12 rd) [t2,t3,t6,t7] h c df=some (gcR h c df q):=Z0z ((Z1m G rd t2 t3 t6 t7 h c df).trans e) hq
noncomputable def Z3P (o:Orc H) (rd:Option Nat) (t0 t1 t4 t12 t13:Value) (h:H) (c:Nat) (df:List Nat):Option (Rt H) :=
 (Z00 P .lss 3 t13 t12).bind fun t14 =>
 Z09 t14
 ((ixS 20 t0 t13).bind fun t18 =>
 (ldN h 20 t18).bind fun t19 =>
 (ixS 20 t1 t13).bind fun t22 =>
 (ldN h 20 t22).bind fun t23 =>
 (Z00 P .neq 73 t19 t23).bind fun t24 =>
 Z09 t24
  (some ⟨.ret,[t0,t1,(.bool false),t12,t13],h,(c+1+1+1+1),df⟩)
  ((Z00 P .add 3 t13 (.int .i64 1)).bind fun t25 =>
  some ⟨.normal,[t0,t1,t4,t12,t25],h,(c+1+1+1+1),df⟩))
 (some ⟨(.exit 0),[t0,t1,t4,t12,t13],h,(c+1),df⟩)
theorem Z4i (o:Orc H) (rd:Option Nat) (t0 t1 t4 t12 t13:Value) (h:H) (c:Nat) (df:List Nat):jx P o 26 rd Z2R (Z0g [0,1,4,12,13] [t0,t1,t4,t12,t13]) h c df (Klp [0,1,4,12,13])=Z3P o rd t0 t1 t4 t12 t13 h c df:=by kernel_rfl
noncomputable def ZhE (o:Orc H) (t0 t1:Value) (h:H) (c:Nat):Option (Rt H) :=
 (Z1f t0).bind fun t7 =>
 (Z1f t1).bind fun t9 =>
 (Z00 P .neq 3 t7 t9).bind fun t10 =>
 Z09 t10
 (some ⟨.ret,[(.bool false)],h,(c+1+1+1),[]⟩)
 ((Z1f t0).bind fun t12 =>
 (o (Z9J none) [t0,t1,(.bool false),t12,(.int .i64 0)] h (c+1+1+1) []).bind fun r0 =>
 cond (Z0t r0.e (.exit 0))
  ((Z07 r0.h r0.df).bind fun h2 =>
  some ⟨.ret,[(.bool true)],h2,(r0.c+1),[]⟩)
  (cond (Z0t r0.e .ret)
   ((Z07 r0.h r0.df).bind fun h1 =>
   some ⟨.ret,[r0.v 2],h1,r0.c,[]⟩)
   (none)))
theorem ZeC (o:Orc H) (t0 t1:Value) (h:H) (c:Nat):jx P o 26 none f67_c (Z0g (List.range 2) [t0,t1]) h c [] (Kfn P Try.f67.results.toList)=ZhE o t0 t1 h c:=by kernel_rfl
theorem f67_go {t0 t1:Value} {h:FH} {c:Nat} {df:List Nat} {r:Rt FH} (e:ZhE G t0 t1 h c=some r):G (.fn 67) [t0,t1] h c df=some (gcR h c [] r):=Z0p (a:=ZcL) bk_67 rfl (fun args h c=>by cases args <;> rfl) rfl ((ZeC G t0 t1 h c).trans e)
noncomputable def Z6L (o:Orc H) (l:Nat) (t30 t1 t5 t6 t7:Value) (h:H) (c:Nat):Option (Rt H) :=
 (stN (newB h (256*c+0) [(.int .i64 0),(.int .i64 0),(.int .i64 0),(.int .i64 0)]) 4 (ptrTo (256*c+0)) t30).bind fun h1 =>
 (Z2m h1 l).bind fun h2 =>
 (ldN h2 1 t1).bind fun t31 =>
 (ld1 h2 t6).bind fun t32 =>
 (ldN h2 4 (ptrTo (256*c+0))).bind fun t33 =>
 (ld1 h2 t5).bind fun t34 =>
 (ld1 h2 t7).bind fun t35 =>
 (ixS 1 t34 t35).bind fun t36 =>
 (ld1 h2 t36).bind fun t37 =>
 (callF o 73 [t31,t32,t33,t37] h2 (c+1+1)).bind fun r3 =>
 (Z00 P .neq 97 r3.1 (.pointer none)).bind fun t40 =>
 (Z09 t40
  ((ld1 r3.2.1 t5).bind fun t41 =>
  (ld1 r3.2.1 t7).bind fun t42 =>
  (ixS 1 t41 t42).bind fun t44 =>
  (stN r3.2.1 1 t44 r3.1).bind fun h5 =>
  some ⟨.normal,[],h5,(r3.2.2+1+1),[]⟩)
  (some ⟨.normal,[],r3.2.1,(r3.2.2+1),[]⟩):Option (Rt H)).bind fun r6 =>
 cond (Z0t r6.e .normal)
 ((Z0I r6.h l .ready none).bind fun h7 =>
 cond (List.isEmpty (r6.df:List Nat)) (some ⟨.ret,[.bool true],h7,r6.c,[]⟩) none)
 (none)
theorem ZaS (o:Orc H) (l:Nat) (t30 t1 t5 t6 t7:Value) (h:H) (c:Nat):jx P o 49 (some l) Z2Q (Z0g ([30]++[1,5,6,7]) [t30,t1,t5,t6,t7]) h c [] (ZlO P o 49 l Z2O)=Z6L o l t30 t1 t5 t6 t7 h c:=by kernel_rfl
noncomputable def Z6M (o:Orc H) (rd:Option Nat) (t1 t5 t15 t16 t17:Value) (h:H) (c:Nat) (df:List Nat):Option (Rt H) :=
 (Z00 P .lss 3 t17 t16).bind fun t18 =>
 Z09 t18
 ((ixS 1 t15 t17).bind fun t20 =>
 (ld1 h t20).bind fun t21 =>
 (stN (newB (newB h (256*(c+1)+3) [(.int .i64 0)]) (256*(c+1)+4) [(.int .i64 0)]) 1 (ptrTo (256*(c+1)+3)) t17).bind fun h1 =>
 (stN h1 1 (ptrTo (256*(c+1)+4)) t21).bind fun h3 =>
 (ld1 h3 (ptrTo (256*(c+1)+4))).bind fun t22 =>
 (ld1 h3 t5).bind fun t23 =>
 (Z1f t23).bind fun t24 =>
 (Z00 P .eql 3 t22 t24).bind fun t25 =>
 (Z09 t25
  ((ld1 h3 t5).bind fun t26 =>
  (Z5d [(.pointer none)] [(0,1,(.pointer none))]).bind fun r4 =>
  (Z67 (newB h3 (256*(c+1+1+1)+1) r4) (256*(c+1+1+1)+2) 1 8 t26 (.slice (some ⟨(256*(c+1+1+1)+1),0,none⟩) 1 1)).bind fun r5 =>
  (stN r5.2 1 t5 r5.1).bind fun h7 =>
  some ⟨.normal,[t1,t5,(ptrTo (256*(c+1)+3)),(ptrTo (256*(c+1)+4)),t15,t16,t17],h7,(c+1+1+1+1),df⟩)
  (some ⟨.normal,[t1,t5,(ptrTo (256*(c+1)+3)),(ptrTo (256*(c+1)+4)),t15,t16,t17],h3,(c+1+1+1),df⟩):Option (Rt H)).bind fun r8 =>
 cond (Z0t r8.e .normal)
  ((callF o 34 [] r8.h (r8.c+1)).bind fun r9 =>
  (Z4N o 49 rd [1,5,6,7] [] #[30] Z2Q Z2O r9.1 [r8.v 0,r8.v 1,r8.v 2,r8.v 3] r9.2.1 r9.2.2 r8.df).bind fun q10 =>
  cond (Z0t q10.1 .normal)
   ((Z00 P .add 3 (r8.v 6) (.int .i64 1)).bind fun t45 =>
   some ⟨.normal,[r8.v 0,r8.v 1,r8.v 4,r8.v 5,t45],q10.2.1,(q10.2.2.1+1),q10.2.2.2⟩)
   (none))
  (none))
 (some ⟨(.exit 0),[t1,t5,t15,t16,t17],h,(c+1),df⟩)
theorem ZaT (o:Orc H) (rd:Option Nat) (t1 t5 t15 t16 t17:Value) (h:H) (c:Nat) (df:List Nat):jx P o 49 rd Z2P (Z0g [1,5,15,16,17] [t1,t5,t15,t16,t17]) h c df (Klp [1,5,15,16,17])=Z6M o rd t1 t5 t15 t16 t17 h c df:=by kernel_rfl
noncomputable def Zn8 (o:Orc H) (t0:Value) (h:H) (c:Nat):Option (Rt H) :=
 (bif (t0:Value).cells.toList.all Z08 then
 (ldN (newB h (256*c+0) (t0:Value).cells.toList) 1 (ptrTo (256*c+0))).bind fun t11 =>
 (callF o 32 [t11] (newB h (256*c+0) (t0:Value).cells.toList) (c+1+1)).bind fun r0 =>
 (Z2f r0.1 0).bind fun t13 =>
 (Z2f r0.1 1).bind fun t14 =>
 (Z1f t13).bind fun t16 =>
 (o (ZfS none) [(ptrTo (256*c+0)),(ptrTo (256*r0.2.2+0)),t13,t16,(.int .i64 0)] (newB r0.2.1 (256*r0.2.2+0) [(.slice none 0 0)]) (r0.2.2+1+1) []).bind fun r1 =>
 cond (Z0t r1.e (.exit 0))
 ((ld1 r1.h (r1.v 1)).bind fun t46 =>
 (callF o 74 [t46,(.func (.func 75) #[] #[])] r1.h (r1.c+1)).bind fun r2 =>
 (ld1 r2.2.1 (r1.v 1)).bind fun t48 =>
 (Z07 r2.2.1 r1.df).bind fun h3 =>
 some ⟨.ret,[t48],h3,(r2.2.2+1),[]⟩)
 (none)
 else none)
theorem ZkQ (o:Orc H) (t0:Value) (h:H) (c:Nat):jx P o 49 none f68_c (Z0g (List.range 1) [t0]) h c [] (Kfn P Try.f68.results.toList)=Zn8 o t0 h c:=by kernel_rfl
noncomputable def ZhD (o:Orc H) (t0:Value) (h:H) (c:Nat):Option (Rt H) :=
 (bif (t0:Value).cells.toList.all Z08 then
 some ⟨.ret,[(.func (.func 78) [].toArray [(ptrTo (256*c+0))].toArray)],(newB h (256*c+0) (t0:Value).cells.toList),(c+1+1),[]⟩
 else none)
theorem ZeB (o:Orc H) (t0:Value) (h:H) (c:Nat):jx P o 4 none f71_c (Z0g (List.range 1) [t0]) h c [] (Kfn P Try.f71.results.toList)=ZhD o t0 h c:=by kernel_rfl
theorem f71_go {t0:Value} {h:FH} {c:Nat} {df:List Nat} {r:Rt FH} (e:ZhD G t0 h c=some r):G (.fn 71) [t0] h c df=some r:=Z0p (a:=ZcK) bk_71 rfl (fun args h c=>by cases args <;> rfl) rfl ((ZeB G t0 h c).trans e)
noncomputable def Z3O (o:Orc H) (rd:Option Nat) (t0 t1 t4 t7 t8:Value) (h:H) (c:Nat) (df:List Nat):Option (Rt H) :=
 (Z00 P .lss 3 t8 t7).bind fun t9 =>
 Z09 t9
 ((ixS 4 t0 t8).bind fun t14 =>
 (ldN h 4 t14).bind fun t15 =>
 (Z1S o h (c+1+1+1) t1 [t15]).bind fun r0 =>
 Z09 r0.1
  (some ⟨.ret,[t0,t1,t8,t7,t8],r0.2.1,(r0.2.2+1),df⟩)
  ((Z00 P .add 3 t8 (.int .i64 1)).bind fun t18 =>
  some ⟨.normal,[t0,t1,t4,t7,t18],r0.2.1,(r0.2.2+1),df⟩))
 (some ⟨(.exit 0),[t0,t1,t4,t7,t8],h,(c+1),df⟩)
theorem Z4h (o:Orc H) (rd:Option Nat) (t0 t1 t4 t7 t8:Value) (h:H) (c:Nat) (df:List Nat):jx P o 19 rd Z2N (Z0g [0,1,4,7,8] [t0,t1,t4,t7,t8]) h c df (Klp [0,1,4,7,8])=Z3O o rd t0 t1 t4 t7 t8 h c df:=by kernel_rfl
noncomputable def ZfR (o:Orc H) (t0 t1:Value) (h:H) (c:Nat):Option (Rt H) :=
 (Z1f t0).bind fun t7 =>
 (o (Z9I none) [t0,t1,(.int .i64 0),t7,(.int .i64 0)] h (c+1+1) []).bind fun r0 =>
 cond (Z0t r0.e (.exit 0))
 ((Z07 r0.h r0.df).bind fun h2 =>
 some ⟨.ret,[(.int .i64 (-1))],h2,(r0.c+1),[]⟩)
 (cond (Z0t r0.e .ret)
  ((Z07 r0.h r0.df).bind fun h1 =>
  some ⟨.ret,[r0.v 2],h1,r0.c,[]⟩)
  (none))
theorem ZeA (o:Orc H) (t0 t1:Value) (h:H) (c:Nat):jx P o 19 none f72_c (Z0g (List.range 2) [t0,t1]) h c [] (Kfn P Try.f72.results.toList)=ZfR o t0 t1 h c:=by kernel_rfl
theorem Zm1 {t0 t1:Value} {h:FH} {c:Nat} {df:List Nat} {r:Rt FH} (e:ZfR G t0 t1 h c=some r):G (.fn 72) [t0,t1] h c df=some (gcR h c [] r):=Z0p (a:=ZcJ) bk_72 rfl (fun args h c=>by cases args <;> rfl) rfl ((ZeA G t0 t1 h c).trans e)
noncomputable def Z6K (o:Orc H) (rd:Option Nat) (t3 t8 t9 t10 t11:Value) (h:H) (c:Nat) (df:List Nat):Option (Rt H) :=
 (Z0d t9).bind fun t26 =>
 (Z01 t26 1).bind fun t27 =>
 (Z01 t27 0).bind fun t28 =>
 (ld1 h t28).bind fun t29 =>
 (Z1f t29).bind fun t30 =>
 (Z00 P .lss 3 t11 t30).bind fun t31 =>
 Z09 t31
 ((callF o 80 [t9,t11] h (c+1+1)).bind fun r0 =>
 (stN (newB r0.2.1 (256*(c+1)+3) [(.int .i64 0),(.int .i64 0),(.int .i64 0),(.int .i64 0),(.int .i64 0),(.int .i64 0),(.int .i64 0),(.int .i64 0),(.int .i64 0),(.int .i64 0),(.int .i64 0),(.int .i64 0),(.int .i64 0),(.int .i64 0),(.int .i64 0),(.int .i64 0),(.int .i64 0),(.int .i64 0),(.int .i64 0),(.int .i64 0)]) 20 (ptrTo (256*(c+1)+3)) r0.1).bind fun h2 =>
 (Z10 .not t10).bind fun t38 =>
 (Z09 t38
  ((ldN h2 20 (ptrTo (256*(c+1)+3))).bind fun t39 =>
  (Z0d t3).bind fun t41 =>
  (Z01 t41 4).bind fun t42 =>
  (ld1 h2 t42).bind fun t43 =>
  (ixS 20 t43 t11).bind fun t45 =>
  (ldN h2 20 t45).bind fun t46 =>
  (callF o 77 [t39,t46] h2 (r0.2.2+1+1)).bind fun r3 =>
  (Z00 P .gtr 3 r3.1 (.int .i64 0)).bind fun t50 =>
  Z09 t50
   (some ⟨.ret,[t3,(.pointer none),t9,t10,t11],r3.2.1,(r3.2.2+1+1),df⟩)
   ((Z00 P .lss 3 r3.1 (.int .i64 0)).bind fun t53 =>
   (Z09 t53
    (some ⟨.normal,[t3,t8,t9,(.bool true),t11,(ptrTo (256*(c+1)+3))],r3.2.1,(r3.2.2+1+1+1),df⟩)
    (some ⟨.normal,[t3,t8,t9,t10,t11,(ptrTo (256*(c+1)+3))],r3.2.1,(r3.2.2+1+1),df⟩):Option (Rt H)).bind fun r6 =>
   cond (Z0t r6.e .normal)
    (some ⟨.normal,[r6.v 0,r6.v 1,r6.v 2,r6.v 3,r6.v 4,r6.v 5],r6.h,r6.c,r6.df⟩)
    (none)))
  (some ⟨.normal,[t3,t8,t9,t10,t11,(ptrTo (256*(c+1)+3))],h2,(r0.2.2+1),df⟩):Option (Rt H)).bind fun r7 =>
 cond (Z0t r7.e .ret)
  (some ⟨.ret,[r7.v 0,r7.v 1,r7.v 2,r7.v 3,r7.v 4],r7.h,r7.c,r7.df⟩)
  (cond (Z0t r7.e .normal)
   ((Z0d (r7.v 2)).bind fun t56 =>
   (Z01 t56 4).bind fun t57 =>
   (ld1 r7.h t57).bind fun t58 =>
   (ldN r7.h 20 (r7.v 5)).bind fun t59 =>
   (Z5d [(.int .i64 0),(.int .i64 0),(.int .i64 0),(.int .i64 0),(.int .i64 0),(.int .i64 0),(.int .i64 0),(.int .i64 0),(.int .i64 0),(.int .i64 0),(.int .i64 0),(.int .i64 0),(.int .i64 0),(.int .i64 0),(.int .i64 0),(.int .i64 0),(.int .i64 0),(.int .i64 0),(.int .i64 0),(.int .i64 0)] [(0,20,t59)]).bind fun r8 =>
   (Z67 (newB r7.h (256*r7.c+6) r8) (256*r7.c+7) 20 160 t58 (.slice (some ⟨(256*r7.c+6),0,none⟩) 1 1)).bind fun r9 =>
   (Z0d (r7.v 2)).bind fun t62 =>
   (Z01 t62 4).bind fun t63 =>
   (stN r9.2 1 t63 r9.1).bind fun h11 =>
   (Z00 P .add 3 (r7.v 4) (.int .i64 1)).bind fun t33 =>
   some ⟨.normal,[r7.v 0,r7.v 1,r7.v 2,r7.v 3,t33],h11,(r7.c+1+1),r7.df⟩)
   (none)))
 (some ⟨(.exit 0),[t3,t8,t9,t10,t11],h,(c+1),df⟩)
theorem ZaQ (o:Orc H) (rd:Option Nat) (t3 t8 t9 t10 t11:Value) (h:H) (c:Nat) (df:List Nat):jx P o 67 rd Z2M (Z0g [3,8,9,10,11] [t3,t8,t9,t10,t11]) h c df (Klp [3,8,9,10,11])=Z6K o rd t3 t8 t9 t10 t11 h c df:=by kernel_rfl
noncomputable def Zn6 (o:Orc H) (t0 t1 t2 t3:Value) (h:H) (c:Nat):Option (Rt H) :=
 (bif (t0:Value).cells.toList.all Z08 then
 (bif (t2:Value).cells.toList.all Z08 then
 (ldN (newB (newB h (256*c+0) (t0:Value).cells.toList) (256*c+1) (t2:Value).cells.toList) 1 (ptrTo (256*c+0))).bind fun t14 =>
 (Z1v [(.slice none 0 0),(.slice none 0 0),(.slice none 0 0),(.map none),(.slice none 0 0)] [(0,1,t14),(3,1,(.map (some (256*(c+1)+1))))]).bind fun t16 =>
 (bif (t16:Value).cells.toList.all Z08 then
 (ldN (newB (HeapC.set (newB (newB h (256*c+0) (t0:Value).cells.toList) (256*c+1) (t2:Value).cells.toList) (256*(c+1)+1) (.map [])) (256*(c+1)+3) (t16:Value).cells.toList) 4 (ptrTo (256*c+1))).bind fun t20 =>
 (callF o 79 [(ptrTo (256*(c+1)+3)),t1,t20] (newB (HeapC.set (newB (newB h (256*c+0) (t0:Value).cells.toList) (256*c+1) (t2:Value).cells.toList) (256*(c+1)+1) (.map [])) (256*(c+1)+3) (t16:Value).cells.toList) (c+1+1+1)).bind fun r0 =>
 (Z00 P .eql 97 t3 (.pointer none)).bind fun t23 =>
 (o (ZfP none) [t3,(.pointer none),(ptrTo (256*(c+1)+3)),t23,(.int .i64 0)] r0.2.1 (r0.2.2+1+1) []).bind fun r1 =>
 cond (Z0t r1.e (.exit 0))
 ((Z10 .not (r1.v 3)).bind fun t65 =>
 Z09 t65
  ((Z07 r1.h r1.df).bind fun h3 =>
  some ⟨.ret,[(.pointer none)],h3,(r1.c+1+1),[]⟩)
  ((Z07 r1.h r1.df).bind fun h4 =>
  some ⟨.ret,[r1.v 2],h4,(r1.c+1+1),[]⟩))
 (cond (Z0t r1.e .ret)
  ((Z07 r1.h r1.df).bind fun h2 =>
  some ⟨.ret,[r1.v 1],h2,r1.c,[]⟩)
  (none))
 else none)
 else none)
 else none)
theorem ZkP (o:Orc H) (t0 t1 t2 t3:Value) (h:H) (c:Nat):jx P o 67 none f73_c (Z0g (List.range 4) [t0,t1,t2,t3]) h c [] (Kfn P Try.f73.results.toList)=Zn6 o t0 t1 t2 t3 h c:=by kernel_rfl
noncomputable def Zn5 (o:Orc H) (t0 t1:Value) (h:H) (c:Nat):Option (Rt H) :=
 (Z1f t0).bind fun t6 =>
 (callF o 81 [t0,t6,t1] h (c+1)).bind fun r0 =>
 some ⟨.ret,[.tuple #[]],r0.2.1,r0.2.2,[]⟩
theorem ZkO (o:Orc H) (t0 t1:Value) (h:H) (c:Nat):jx P o 9 none f74_c (Z0g (List.range 2) [t0,t1]) h c [] (Kfn P Try.f74.results.toList)=Zn5 o t0 t1 h c:=by kernel_rfl
noncomputable def Zn4 (o:Orc H) (t0 t1:Value) (h:H) (c:Nat):Option (Rt H) :=
 (Z0d t0).bind fun t6 =>
 (Z01 t6 4).bind fun t7 =>
 (ld1 h t7).bind fun t8 =>
 (Z1f t8).bind fun t9 =>
 (Z0d t1).bind fun t11 =>
 (Z01 t11 4).bind fun t12 =>
 (ld1 h t12).bind fun t13 =>
 (Z1f t13).bind fun t14 =>
 (Z00 P .neq 3 t9 t14).bind fun t15 =>
 Z09 t15
 ((Z0d t0).bind fun t17 =>
 (Z01 t17 4).bind fun t18 =>
 (ld1 h t18).bind fun t19 =>
 (Z1f t19).bind fun t20 =>
 (Z0d t1).bind fun t22 =>
 (Z01 t22 4).bind fun t23 =>
 (ld1 h t23).bind fun t24 =>
 (Z1f t24).bind fun t25 =>
 (Z00 P .sub 3 t20 t25).bind fun t26 =>
 some ⟨.ret,[t26],h,(c+1+1+1),[]⟩)
 ((Z0d t0).bind fun t28 =>
 (Z01 t28 4).bind fun t29 =>
 (ld1 h t29).bind fun t30 =>
 (Z0d t1).bind fun t32 =>
 (Z01 t32 4).bind fun t33 =>
 (ld1 h t33).bind fun t34 =>
 (callF o 76 [t30,t34,(.func (.func 77) #[] #[])] h (c+1+1+1)).bind fun r0 =>
 some ⟨.ret,[r0.1],r0.2.1,r0.2.2,[]⟩)
theorem ZkN (o:Orc H) (t0 t1:Value) (h:H) (c:Nat):jx P o 36 none f75_c (Z0g (List.range 2) [t0,t1]) h c [] (Kfn P Try.f75.results.toList)=Zn4 o t0 t1 h c:=by kernel_rfl
end Go.Proofs.Ytemkjcpfgmbibaa
