/- Parts of a proof: S9 S10. Conditions: none. -/
import Derived.Test.YtcnndelmnobigaaM9
set_option linter.all false
set_option maxRecDepth 100000
namespace Go.Proofs.Ytcnndelmnobigaa
open Go Go.Ab Go.Proofs
variable {H:Type} [HeapC H]
noncomputable def Z2s (o:Orc H) (rd:Option Nat) (t0 t3 t5 t6 t9 t10 t11 t16 t17 t44:Value) (h:H) (c:Nat) (df:List Nat):Option (Rt H) :=
 (Z00 P .lss 3 t44 (.int .i64 4)).bind fun t45 =>
 Z07 t45
 ((Z00 P .neq 3 t44 t5).bind fun t49 =>
 (gd t49 true h (c+1+1+1) (some t0)).bind fun r0 =>
 (gd t49 true r0.2.1 r0.2.2 (some t3)).bind fun r1 =>
 (gd t49 true r1.2.1 r1.2.2 (some t5)).bind fun r2 =>
 (gd t49 true r2.2.1 r2.2.2 (some t44)).bind fun r3 =>
 (gd t49 true r3.2.1 r3.2.2 (Z06 t6 0)).bind fun r4 =>
 (gd t49 true r4.2.1 r4.2.2 (ld1 r4.2.1 r4.1)).bind fun r5 =>
 (gd t49 true r5.2.1 r5.2.2 (some t5)).bind fun r6 =>
 (gd t49 true r6.2.1 r6.2.2 (Z06 t6 1)).bind fun r7 =>
 (gd t49 true r7.2.1 r7.2.2 (ixA 4 1 r7.1 r6.1)).bind fun r8 =>
 (gd t49 true r8.2.1 r8.2.2 (ld1 r8.2.1 r8.1)).bind fun r9 =>
 (gd t49 true r9.2.1 r9.2.2 (some t44)).bind fun r10 =>
 (gd t49 true r10.2.1 r10.2.2 (Z06 t6 1)).bind fun r11 =>
 (gd t49 true r11.2.1 r11.2.2 (ixA 4 1 r11.1 r10.1)).bind fun r12 =>
 (gd t49 true r12.2.1 r12.2.2 (ld1 r12.2.1 r12.1)).bind fun r13 =>
 (gd t49 true r13.2.1 r13.2.2 (Z4w [(.int .i64 0),(.int .i64 0),(.int .i64 0),(.int .i64 0),(.int .i64 0),(.int .i64 0)] [(0,1,r1.1),(1,1,r2.1),(2,1,r3.1),(3,1,r5.1),(4,1,r9.1),(5,1,r13.1)])).bind fun r14 =>
 (gg t49 true r14.2.1 r14.2.2 (Z2A o r14.2.1 r14.2.2 r0.1 [r14.1])).bind fun r15 =>
 (gd t49 true r15.2.1 r15.2.2 (Z1i .not r15.1)).bind fun r16 =>
 (Z0D t49 r16.1 (.bool false)).bind fun t68 =>
 Z07 t68
  (some ⟨.ret,[t0,t3,t5,t6,t9,t10,t11,t16,t17,t44],r16.2.1,r16.2.2,df⟩)
  ((Z00 P .add 3 t44 (.int .i64 1)).bind fun t69 =>
  some ⟨.normal,[t0,t3,t5,t6,t9,t10,t11,t16,t17,t69],r16.2.1,(r16.2.2+1),df⟩))
 (some ⟨(.exit 4),[t0,t3,t5,t6,t9,t10,t11,t16,t17,t44],h,(c+1),df⟩)
theorem Z2a (o:Orc H) (rd:Option Nat) (t0 t3 t5 t6 t9 t10 t11 t16 t17 t44:Value) (h:H) (c:Nat) (df:List Nat):jx P o 72 rd Z3h (Z0f [0,3,5,6,9,10,11,16,17,44] [t0,t3,t5,t6,t9,t10,t11,t16,t17,t44]) h c df (Klp [0,3,5,6,9,10,11,16,17,44])=Z2s o rd t0 t3 t5 t6 t9 t10 t11 t16 t17 t44 h c df:=by kernel_rfl
noncomputable def Z4N (o:Orc H) (rd:Option Nat) (t0 t3 t9 t10 t11 t16 t17:Value) (h:H) (c:Nat) (df:List Nat):Option (Rt H) :=
 (Z00 P .lss 3 t17 (.int .i64 4)).bind fun t18 =>
 Z07 t18
 (((ixV 4 true 5 t16 t17).bind fun t20 =>
  (stN (newB h (256*(c+1)+2) [(.int .i64 0),(.int .i64 0),(.int .i64 0),(.int .i64 0),(.int .i64 0)]) 5 (ptrTo (256*(c+1)+2)) t20).bind fun h1 =>
  (Z06 (ptrTo (256*(c+1)+2)) 0).bind fun t21 =>
  (ld1 h1 t21).bind fun t22 =>
  (Z00 P .lss 3 t22 (.int .i64 0)).bind fun t23 =>
  (gd t23 false h1 (c+1+1+1) (Z06 (ptrTo (256*(c+1)+2)) 0)).bind fun r2 =>
  (gd t23 false r2.2.1 r2.2.2 (ld1 r2.2.1 r2.1)).bind fun r3 =>
  (gd t23 false r3.2.1 r3.2.2 (some t3)).bind fun r4 =>
  (gd t23 false r4.2.1 r4.2.2 (Z00 P .lss 3 r3.1 r4.1)).bind fun r5 =>
  (Z0D t23 (.bool true) r5.1).bind fun t29 =>
  (gd t29 false r5.2.1 r5.2.2 (Z06 (ptrTo (256*(c+1)+2)) 0)).bind fun r6 =>
  (gd t29 false r6.2.1 r6.2.2 (ld1 r6.2.1 r6.1)).bind fun r7 =>
  (gd t29 false r7.2.1 r7.2.2 (some t3)).bind fun r8 =>
  (gd t29 false r8.2.1 r8.2.2 (Z00 P .eql 3 r7.1 r8.1)).bind fun r9 =>
  (gd t29 false r9.2.1 r9.2.2 (some r9.1)).bind fun r10 =>
  (gd r10.1 true r10.2.1 r10.2.2 (some t17)).bind fun r11 =>
  (gd r10.1 true r11.2.1 r11.2.2 (Z06 (ptrTo (256*(c+1)+2)) 1)).bind fun r12 =>
  (gd r10.1 true r12.2.1 r12.2.2 (ixA 4 1 r12.1 r11.1)).bind fun r13 =>
  (gd r10.1 true r13.2.1 r13.2.2 (ld1 r13.2.1 r13.1)).bind fun r14 =>
  (gd r10.1 true r14.2.1 r14.2.2 (some t17)).bind fun r15 =>
  (gd r10.1 true r15.2.1 r15.2.2 (Z00 P .lss 3 r14.1 r15.1)).bind fun r16 =>
  (gg t29 false r16.2.1 r16.2.2 (Zej r16.2.1 r16.2.2 r10.1 r16.1 (.bool false))).bind fun r17 =>
  (Z0D t29 (.bool true) r17.1).bind fun t43 =>
  Z07 t43
   (some ⟨.normal,[t0,t3,t9,t10,t11,t16,t17],r17.2.1,r17.2.2,df⟩)
   ((o (Z8B rd) [t0,t3,t17,(ptrTo (256*(c+1)+2)),t9,t10,t11,t16,t17,(.int .i64 0)] r17.2.1 (r17.2.2+1) df).bind fun r18 =>
   cond (Z0q r18.e (.exit 4))
    (some ⟨.normal,[r18.v 0,r18.v 1,r18.v 4,r18.v 5,r18.v 6,r18.v 7,r18.v 8],r18.h,r18.c,r18.df⟩)
    (cond (Z0q r18.e .ret)
     (some ⟨.ret,[r18.v 0,r18.v 1,r18.v 4,r18.v 5,r18.v 6,r18.v 7,r18.v 8],r18.h,r18.c,r18.df⟩)
     (none))):Option (Rt H)).bind fun r19 =>
 cond (Z0q r19.e .normal)
  ((Z00 P .add 3 (r19.v 6) (.int .i64 1)).bind fun t70 =>
  some ⟨.normal,[r19.v 0,r19.v 1,r19.v 2,r19.v 3,r19.v 4,r19.v 5,t70],r19.h,(r19.c+1),r19.df⟩)
  (cond (Z0q r19.e .ret)
   (some ⟨.ret,[r19.v 0,r19.v 1,r19.v 2,r19.v 3,r19.v 4,r19.v 5,r19.v 6],r19.h,r19.c,r19.df⟩)
   (none)))
 (some ⟨(.exit 2),[t0,t3,t9,t10,t11,t16,t17],h,(c+1),df⟩)
theorem Z5w (o:Orc H) (rd:Option Nat) (t0 t3 t9 t10 t11 t16 t17:Value) (h:H) (c:Nat) (df:List Nat):jx P o 72 rd Z3i (Z0f [0,3,9,10,11,16,17] [t0,t3,t9,t10,t11,t16,t17]) h c df (Klp [0,3,9,10,11,16,17])=Z4N o rd t0 t3 t9 t10 t11 t16 t17 h c df:=by kernel_rfl
noncomputable def Z4O (o:Orc H) (rd:Option Nat) (t0 t9 t10 t11:Value) (h:H) (c:Nat) (df:List Nat):Option (Rt H) :=
 (Z00 P .lss 3 t11 t10).bind fun t12 =>
 Z07 t12
 ((ixS 20 t9 t11).bind fun t14 =>
 (ldN h 20 t14).bind fun t15 =>
 (stN (newB h (256*(c+1)+3) [(.int .i64 0),(.int .i64 0),(.int .i64 0),(.int .i64 0),(.int .i64 0),(.int .i64 0),(.int .i64 0),(.int .i64 0),(.int .i64 0),(.int .i64 0),(.int .i64 0),(.int .i64 0),(.int .i64 0),(.int .i64 0),(.int .i64 0),(.int .i64 0),(.int .i64 0),(.int .i64 0),(.int .i64 0),(.int .i64 0)]) 20 (ptrTo (256*(c+1)+3)) t15).bind fun h1 =>
 (ldN h1 20 (ptrTo (256*(c+1)+3))).bind fun t16 =>
 (o (Z8C rd) [t0,t11,t9,t10,t11,t16,(.int .i64 0)] h1 (c+1+1+1) df).bind fun r2 =>
 cond (Z0q r2.e (.exit 2))
  ((Z00 P .add 3 (r2.v 4) (.int .i64 1)).bind fun t71 =>
  some ⟨.normal,[r2.v 0,r2.v 2,r2.v 3,t71],r2.h,(r2.c+1),r2.df⟩)
  (cond (Z0q r2.e .ret)
   (some ⟨.ret,[r2.v 0,r2.v 2,r2.v 3,r2.v 4],r2.h,r2.c,r2.df⟩)
   (none)))
 (some ⟨(.exit 0),[t0,t9,t10,t11],h,(c+1),df⟩)
theorem Z5x (o:Orc H) (rd:Option Nat) (t0 t9 t10 t11:Value) (h:H) (c:Nat) (df:List Nat):jx P o 72 rd Z3j (Z0f [0,9,10,11] [t0,t9,t10,t11]) h c df (Klp [0,9,10,11])=Z4O o rd t0 t9 t10 t11 h c df:=by kernel_rfl
noncomputable def Zl1 (o:Orc H) (t0 t1:Value) (h:H) (c:Nat):Option (Rt H) :=
 (Z06 t1 0).bind fun t8 =>
 (ld1 h t8).bind fun t9 =>
 (Z0X t9).bind fun t10 =>
 (o (Zc2 none) [t0,t9,t10,(.int .i64 0)] h (c+1) []).bind fun r0 =>
 cond (Z0q r0.e (.exit 0))
 ((Z0a r0.h r0.df).bind fun h2 =>
 some ⟨.ret,[.tuple #[]],h2,r0.c,[]⟩)
 (cond (Z0q r0.e .ret)
  ((Z0a r0.h r0.df).bind fun h1 =>
  some ⟨.ret,[.tuple #[]],h1,r0.c,[]⟩)
  (none))
theorem ZhO (o:Orc H) (t0 t1:Value) (h:H) (c:Nat):jx P o 72 none f77_c (Z0f (List.range 2) [t0,t1]) h c [] (Kfn P Try.f77.results.toList)=Zl1 o t0 t1 h c:=by kernel_rfl
theorem f77_go {t0 t1:Value} {h:FH} {c:Nat} {df:List Nat} {r:Rt FH} (e:Zl1 G t0 t1 h c=some r):G (.fn 77) [t0,t1] h c df=some r:=Z0d (a:=ZfE) bk_77 rfl (fun args h c=>by cases args <;> rfl) rfl ((ZhO G t0 t1 h c).trans e)
noncomputable def Z8A (o:Orc H) (rd:Option Nat) (t0 t3 t4:Value) (h:H) (c:Nat) (df:List Nat):Option (Rt H) :=
 (Z00 P .lss 3 t4 t0).bind fun t9 =>
 Z07 t9
 ((ixS 1 t3 t4).bind fun t15 =>
 (stN h 1 t15 t4).bind fun h1 =>
 (Z00 P .add 3 t4 (.int .i64 1)).bind fun t11 =>
 some ⟨.normal,[t0,t3,t11],h1,(c+1+1+1),df⟩)
 (some ⟨(.exit 0),[t0,t3,t4],h,(c+1),df⟩)
theorem Z7M (o:Orc H) (rd:Option Nat) (t0 t3 t4:Value) (h:H) (c:Nat) (df:List Nat):jx P o 17 rd Z8z (Z0f [0,3,4] [t0,t3,t4]) h c df (Klp [0,3,4])=Z8A o rd t0 t3 t4 h c df:=by kernel_rfl
noncomputable def Zr3 (o:Orc H) (t0:Value) (h:H) (c:Nat):Option (Rt H) :=
 (mkS 1 8 [(.int .i64 0)] t0 t0).bind fun r0 =>
 (o (Zc1 none) [t0,(.slice (some ⟨(256*(c+1)+1),0,none⟩) r0.2.1 r0.2.2),(.int .i64 0)] (newB h (256*(c+1)+1) r0.1) (c+1+1+1) []).bind fun r1 =>
 cond (Z0q r1.e (.exit 0))
 ((Z0a r1.h r1.df).bind fun h2 =>
 some ⟨.ret,[r1.v 1],h2,(r1.c+1),[]⟩)
 (none)
theorem Zom (o:Orc H) (t0:Value) (h:H) (c:Nat):jx P o 17 none f78_c (Z0f (List.range 1) [t0]) h c [] (Kfn P Try.f78.results.toList)=Zr3 o t0 h c:=by kernel_rfl
theorem f78_go {t0:Value} {h:FH} {c:Nat} {df:List Nat} {r:Rt FH} (e:Zr3 G t0 h c=some r):G (.fn 78) [t0] h c df=some r:=Z0d (a:=Zol) bk_78 rfl (fun args h c=>by cases args <;> rfl) rfl ((Zom G t0 h c).trans e)
noncomputable def Z6E (o:Orc H) (rd:Option Nat) (t0 t7 t8 t9:Value) (h:H) (c:Nat) (df:List Nat):Option (Rt H) :=
 (Z0X t0).bind fun t30 =>
 (Z00 P .lss 3 t9 t30).bind fun t31 =>
 Z07 t31
 ((ixS 1 t0 t9).bind fun t36 =>
 (ld1 h t36).bind fun t37 =>
 (Z00 P .eql 3 t37 t8).bind fun t39 =>
 (Z07 t39
  ((ixS 1 t0 t9).bind fun t43 =>
  (stN h 1 t43 t7).bind fun h1 =>
  some ⟨.normal,[t0,t7,t8,t9],h1,(c+1+1+1),df⟩)
  (some ⟨.normal,[t0,t7,t8,t9],h,(c+1+1),df⟩):Option (Rt H)).bind fun r2 =>
 cond (Z0q r2.e .normal)
  ((Z00 P .add 3 (r2.v 3) (.int .i64 1)).bind fun t33 =>
  some ⟨.normal,[r2.v 0,r2.v 1,r2.v 2,t33],r2.h,(r2.c+1),r2.df⟩)
  (none))
 (some ⟨(.exit 0),[t0,t7,t8,t9],h,(c+1),df⟩)
theorem Z5v (o:Orc H) (rd:Option Nat) (t0 t7 t8 t9:Value) (h:H) (c:Nat) (df:List Nat):jx P o 45 rd Z8y (Z0f [0,7,8,9] [t0,t7,t8,t9]) h c df (Klp [0,7,8,9])=Z6E o rd t0 t7 t8 t9 h c df:=by kernel_rfl
noncomputable def Zok (o:Orc H) (t0 t1 t2:Value) (h:H) (c:Nat):Option (Rt H) :=
 (ixS 1 t0 t1).bind fun t12 =>
 (ld1 h t12).bind fun t13 =>
 (ixS 1 t0 t2).bind fun t16 =>
 (ld1 h t16).bind fun t17 =>
 (Z28 min2 [t13,t17]).bind fun t18 =>
 (ixS 1 t0 t1).bind fun t21 =>
 (ld1 h t21).bind fun t22 =>
 (ixS 1 t0 t2).bind fun t25 =>
 (ld1 h t25).bind fun t26 =>
 (Z28 max2 [t22,t26]).bind fun t27 =>
 (o (Zc0 none) [t0,t18,t27,(.int .i64 0)] h (c+1+1+1+1) []).bind fun r0 =>
 cond (Z0q r0.e (.exit 0))
 ((Z0a r0.h r0.df).bind fun h1 =>
 some ⟨.ret,[r0.v 0],h1,(r0.c+1),[]⟩)
 (none)
theorem Zoj (o:Orc H) (t0 t1 t2:Value) (h:H) (c:Nat):jx P o 45 none f79_c (Z0f (List.range 3) [t0,t1,t2]) h c [] (Kfn P Try.f79.results.toList)=Zok o t0 t1 t2 h c:=by kernel_rfl
theorem f79_go {t0 t1 t2:Value} {h:FH} {c:Nat} {df:List Nat} {r:Rt FH} (e:Zok G t0 t1 t2 h c=some r):G (.fn 79) [t0,t1,t2] h c df=some (gcR h c [] r):=Z0d (a:=Zoi) bk_79 rfl (fun args h c=>by cases args <;> rfl) rfl ((Zoj G t0 t1 t2 h c).trans e)
noncomputable def Z3g (o:Orc H) (rd:Option Nat) (t0 t3 t4 t5 t6:Value) (h:H) (c:Nat) (df:List Nat):Option (Rt H) :=
 (Z00 P .lss 3 t6 t5).bind fun t21 =>
 (gd t21 true h (c+1) (some t3)).bind fun r0 =>
 (gd t21 true r0.2.1 r0.2.2 (some t5)).bind fun r1 =>
 (gd t21 true r1.2.1 r1.2.2 (ixS 1 r0.1 r1.1)).bind fun r2 =>
 (gd t21 true r2.2.1 r2.2.2 (ld1 r2.2.1 r2.1)).bind fun r3 =>
 (gd t21 true r3.2.1 r3.2.2 (Z00 P .lss 3 r3.1 (.int .i64 0))).bind fun r4 =>
 (Z0D t21 r4.1 (.bool false)).bind fun t28 =>
 Z07 t28
 ((ixS 1 t0 t6).bind fun t33 =>
 (ld1 r4.2.1 t33).bind fun t34 =>
 (ixS 1 t0 t5).bind fun t37 =>
 (ld1 r4.2.1 t37).bind fun t38 =>
 (Z00 P .eql 3 t34 t38).bind fun t39 =>
 (Z07 t39
  ((ixS 1 t3 t6).bind fun t44 =>
  (ld1 r4.2.1 t44).bind fun t45 =>
  (ixS 1 t3 t5).bind fun t46 =>
  (stN r4.2.1 1 t46 t45).bind fun h6 =>
  some ⟨.normal,[t0,t3,t4,t5,t6],h6,(r4.2.2+1+1),df⟩)
  (some ⟨.normal,[t0,t3,t4,t5,t6],r4.2.1,(r4.2.2+1),df⟩):Option (Rt H)).bind fun r7 =>
 cond (Z0q r7.e .normal)
  ((Z00 P .add 3 (r7.v 4) (.int .i64 1)).bind fun t30 =>
  some ⟨.normal,[r7.v 0,r7.v 1,r7.v 2,r7.v 3,t30],r7.h,(r7.c+1),r7.df⟩)
  (none))
 (some ⟨(.exit 2),[t0,t3,t4,t5,t6],r4.2.1,r4.2.2,df⟩)
theorem Z29 (o:Orc H) (rd:Option Nat) (t0 t3 t4 t5 t6:Value) (h:H) (c:Nat) (df:List Nat):jx P o 59 rd Z8w (Z0f [0,3,4,5,6] [t0,t3,t4,t5,t6]) h c df (Klp [0,3,4,5,6])=Z3g o rd t0 t3 t4 t5 t6 h c df:=by kernel_rfl
noncomputable def Z6D (o:Orc H) (rd:Option Nat) (t0 t3 t4 t5:Value) (h:H) (c:Nat) (df:List Nat):Option (Rt H) :=
 (Z0X t0).bind fun t12 =>
 (Z00 P .lss 3 t5 t12).bind fun t13 =>
 Z07 t13
 ((ixS 1 t3 t5).bind fun t18 =>
 (stN h 1 t18 (.int .i64 (-1))).bind fun h1 =>
 (o (ZbY rd) [t0,t3,t4,t5,(.int .i64 0)] h1 (c+1+1+1) df).bind fun r2 =>
 cond (Z0q r2.e (.exit 2))
  ((ixS 1 (r2.v 1) (r2.v 3)).bind fun t49 =>
  (ld1 r2.h t49).bind fun t50 =>
  (Z00 P .lss 3 t50 (.int .i64 0)).bind fun t51 =>
  (Z07 t51
   ((ixS 1 (r2.v 1) (r2.v 3)).bind fun t55 =>
   (stN r2.h 1 t55 (r2.v 2)).bind fun h4 =>
   (Z00 P .add 3 (r2.v 2) (.int .i64 1)).bind fun t57 =>
   some ⟨.normal,[r2.v 0,r2.v 1,t57,r2.v 3],h4,(r2.c+1+1+1),r2.df⟩)
   (some ⟨.normal,[r2.v 0,r2.v 1,r2.v 2,r2.v 3],r2.h,(r2.c+1),r2.df⟩):Option (Rt H)).bind fun r6 =>
  cond (Z0q r6.e .normal)
   ((Z00 P .add 3 (r6.v 3) (.int .i64 1)).bind fun t15 =>
   some ⟨.normal,[r6.v 0,r6.v 1,r6.v 2,t15],r6.h,(r6.c+1),r6.df⟩)
   (none))
  (none))
 (some ⟨(.exit 0),[t0,t3,t4,t5],h,(c+1),df⟩)
theorem Z5u (o:Orc H) (rd:Option Nat) (t0 t3 t4 t5:Value) (h:H) (c:Nat) (df:List Nat):jx P o 59 rd Z8x (Z0f [0,3,4,5] [t0,t3,t4,t5]) h c df (Klp [0,3,4,5])=Z6D o rd t0 t3 t4 t5 h c df:=by kernel_rfl
noncomputable def Zr2 (o:Orc H) (t0:Value) (h:H) (c:Nat):Option (Rt H) :=
 (Z0X t0).bind fun t8 =>
 (mkS 1 8 [(.int .i64 0)] t8 t8).bind fun r0 =>
 (o (ZbZ none) [t0,(.slice (some ⟨(256*(c+1)+2),0,none⟩) r0.2.1 r0.2.2),(.int .i64 0),(.int .i64 0)] (newB h (256*(c+1)+2) r0.1) (c+1+1+1+1) []).bind fun r1 =>
 cond (Z0q r1.e (.exit 0))
 ((Z0a r1.h r1.df).bind fun h2 =>
 some ⟨.ret,[r1.v 1],h2,(r1.c+1),[]⟩)
 (none)
theorem Zoh (o:Orc H) (t0:Value) (h:H) (c:Nat):jx P o 59 none f80_c (Z0f (List.range 1) [t0]) h c [] (Kfn P Try.f80.results.toList)=Zr2 o t0 h c:=by kernel_rfl
theorem f80_go {t0:Value} {h:FH} {c:Nat} {df:List Nat} {r:Rt FH} (e:Zr2 G t0 h c=some r):G (.fn 80) [t0] h c df=some r:=Z0d (a:=Zog) bk_80 rfl (fun args h c=>by cases args <;> rfl) rfl ((Zoh G t0 h c).trans e)
noncomputable def Zl0 (o:Orc H) (t0:Value) (h:H) (c:Nat):Option (Rt H) :=
 (bif (t0:Value).cells.toList.all Z0c then
 some ⟨.ret,[(.func (.func 91) [].toArray [(ptrTo (256*c+0))].toArray)],(newB h (256*c+0) (t0:Value).cells.toList),(c+1+1),[]⟩
 else none)
theorem ZhN (o:Orc H) (t0:Value) (h:H) (c:Nat):jx P o 4 none f83_c (Z0f (List.range 1) [t0]) h c [] (Kfn P Try.f83.results.toList)=Zl0 o t0 h c:=by kernel_rfl
theorem f83_go {t0:Value} {h:FH} {c:Nat} {df:List Nat} {r:Rt FH} (e:Zl0 G t0 h c=some r):G (.fn 83) [t0] h c df=some r:=Z0d (a:=ZfD) bk_83 rfl (fun args h c=>by cases args <;> rfl) rfl ((ZhN G t0 h c).trans e)
noncomputable def Z1Z (o:Orc H) (rd:Option Nat) (t2 t3 t6 t7:Value) (h:H) (c:Nat) (df:List Nat):Option (Rt H) :=
 (Z00 P .lss 3 t7 (.int .i64 4)).bind fun t8 =>
 Z07 t8
 ((ixV 4 false 1 t6 t7).bind fun t9 =>
 (Z00 P .lss 3 t9 (.int .i64 0)).bind fun t11 =>
 (gd t11 false h (c+1+1+1) (some t9)).bind fun r0 =>
 (gd t11 false r0.2.1 r0.2.2 (Z00 P .gtr 3 r0.1 (.int .i64 3))).bind fun r1 =>
 (Z0D t11 (.bool true) r1.1).bind fun t15 =>
 Z07 t15
  (some ⟨.ret,[(.bool false),t3,t6,t7],r1.2.1,(r1.2.2+1),df⟩)
  ((Z00 P .shl 3 (.int .i64 1) t9).bind fun t18 =>
  (Z00 P .or 3 t3 t18).bind fun t19 =>
  (Z00 P .add 3 t7 (.int .i64 1)).bind fun t20 =>
  some ⟨.normal,[t2,t19,t6,t20],r1.2.1,(r1.2.2+1+1),df⟩))
 (some ⟨(.exit 0),[t2,t3,t6,t7],h,(c+1),df⟩)
theorem Z5t (o:Orc H) (rd:Option Nat) (t2 t3 t6 t7:Value) (h:H) (c:Nat) (df:List Nat):jx P o 23 rd Z3f (Z0f [2,3,6,7] [t2,t3,t6,t7]) h c df (Klp [2,3,6,7])=Z1Z o rd t2 t3 t6 t7 h c df:=by kernel_rfl
noncomputable def ZkZ (o:Orc H) (t0:Value) (h:H) (c:Nat):Option (Rt H) :=
 (bif (t0:Value).cells.toList.all Z0c then
 (ldN (newB h (256*c+0) (t0:Value).cells.toList) 4 (ptrTo (256*c+0))).bind fun t6 =>
 (o (Z4M none) [(.bool false),(.int .i64 0),t6,(.int .i64 0)] (newB h (256*c+0) (t0:Value).cells.toList) (c+1+1+1) []).bind fun r0 =>
 cond (Z0q r0.e (.exit 0))
 ((Z00 P .eql 3 (r0.v 1) (.int .i64 15)).bind fun t22 =>
 (Z0a r0.h r0.df).bind fun h2 =>
 some ⟨.ret,[t22],h2,(r0.c+1),[]⟩)
 (cond (Z0q r0.e .ret)
  ((Z0a r0.h r0.df).bind fun h1 =>
  some ⟨.ret,[r0.v 0],h1,r0.c,[]⟩)
  (none))
 else none)
theorem ZhM (o:Orc H) (t0:Value) (h:H) (c:Nat):jx P o 23 none f84_c (Z0f (List.range 1) [t0]) h c [] (Kfn P Try.f84.results.toList)=ZkZ o t0 h c:=by kernel_rfl
theorem f84_go {t0:Value} {h:FH} {c:Nat} {df:List Nat} {r:Rt FH} (e:ZkZ G t0 h c=some r):G (.fn 84) [t0] h c df=some (gcR h c [] r):=Z0d (a:=ZfC) bk_84 rfl (fun args h c=>by cases args <;> rfl) rfl ((ZhM G t0 h c).trans e)
theorem Zj0 {rd:Option Nat} {t2 t3 t6 t7:Value} {h:FH} {c:Nat} {df:List Nat} {q r:Rt FH} (e:Z1Z G rd t2 t3 t6 t7 h c df=some q) (hq:q.e = .normal) (k:G (Z4M rd) q.vs (gcR h c df q).h (gcR h c df q).c q.df=some r):G (Z4M rd) [t2,t3,t6,t7] h c df=some r:=Z0R ((Z5t G rd t2 t3 t6 t7 h c df).trans e) hq k
theorem ZbX {rd:Option Nat} {t2 t3 t6 t7:Value} {h:FH} {c:Nat} {df:List Nat} {q:Rt FH} (e:Z1Z G rd t2 t3 t6 t7 h c df=some q) (hq:q.e ≠ .normal):G (Z4M rd) [t2,t3,t6,t7] h c df=some (gcR h c df q):=Z0S ((Z5t G rd t2 t3 t6 t7 h c df).trans e) hq
noncomputable def Z2r (o:Orc H) (rd:Option Nat) (t2 t3 t6 t7:Value) (h:H) (c:Nat) (df:List Nat):Option (Rt H) :=
 (Z00 P .lss 3 t7 (.int .i64 4)).bind fun t8 =>
 Z07 t8
 ((ixV 4 false 1 t6 t7).bind fun t10 =>
 (ixA 4 1 t3 t10).bind fun t13 =>
 (stN h 1 t13 t7).bind fun h1 =>
 (Z00 P .add 3 t7 (.int .i64 1)).bind fun t14 =>
 some ⟨.normal,[t2,t3,t6,t14],h1,(c+1+1+1+1),df⟩)
 (some ⟨(.exit 0),[t2,t3,t6,t7],h,(c+1),df⟩)
theorem Z5s (o:Orc H) (rd:Option Nat) (t2 t3 t6 t7:Value) (h:H) (c:Nat) (df:List Nat):jx P o 16 rd Z3e (Z0f [2,3,6,7] [t2,t3,t6,t7]) h c df (Klp [2,3,6,7])=Z2r o rd t2 t3 t6 t7 h c df:=by kernel_rfl
noncomputable def ZkY (o:Orc H) (t0:Value) (h:H) (c:Nat):Option (Rt H) :=
 (bif (t0:Value).cells.toList.all Z0c then
 (ldN (newB (newB (newB h (256*c+0) (t0:Value).cells.toList) (256*c+1) [(.int .i64 0),(.int .i64 0),(.int .i64 0),(.int .i64 0)]) (256*(c+1)+0) [(.int .i64 0),(.int .i64 0),(.int .i64 0),(.int .i64 0)]) 4 (ptrTo (256*c+0))).bind fun t6 =>
 (o (Z4L none) [(ptrTo (256*c+1)),(ptrTo (256*(c+1)+0)),t6,(.int .i64 0)] (newB (newB (newB h (256*c+0) (t0:Value).cells.toList) (256*c+1) [(.int .i64 0),(.int .i64 0),(.int .i64 0),(.int .i64 0)]) (256*(c+1)+0) [(.int .i64 0),(.int .i64 0),(.int .i64 0),(.int .i64 0)]) (c+1+1+1) []).bind fun r0 =>
 cond (Z0q r0.e (.exit 0))
 ((ldN r0.h 4 (r0.v 1)).bind fun t15 =>
 (stN r0.h 4 (r0.v 0) t15).bind fun h2 =>
 (Z0a h2 r0.df).bind fun h3 =>
 (ldN h3 4 (r0.v 0)).bind fun v4 =>
 some ⟨.ret,[v4],h3,(r0.c+1),[]⟩)
 (none)
 else none)
theorem ZhL (o:Orc H) (t0:Value) (h:H) (c:Nat):jx P o 16 none f85_c (Z0f (List.range 1) [t0]) h c [] (Kfn P Try.f85.results.toList)=ZkY o t0 h c:=by kernel_rfl
theorem f85_go {t0:Value} {h:FH} {c:Nat} {df:List Nat} {r:Rt FH} (e:ZkY G t0 h c=some r):G (.fn 85) [t0] h c df=some (gcR h c [] r):=Z0d (a:=ZfB) bk_85 rfl (fun args h c=>by cases args <;> rfl) rfl ((ZhL G t0 h c).trans e)
theorem ZiZ {rd:Option Nat} {t2 t3 t6 t7:Value} {h:FH} {c:Nat} {df:List Nat} {q r:Rt FH} (e:Z2r G rd t2 t3 t6 t7 h c df=some q) (hq:q.e = .normal) (k:G (Z4L rd) q.vs (gcR h c df q).h (gcR h c df q).c q.df=some r):G (Z4L rd) [t2,t3,t6,t7] h c df=some r:=Z0R ((Z5s G rd t2 t3 t6 t7 h c df).trans e) hq k
theorem ZiY {rd:Option Nat} {t2 t3 t6 t7:Value} {h:FH} {c:Nat} {df:List Nat} {q:Rt FH} (e:Z2r G rd t2 t3 t6 t7 h c df=some q) (hq:q.e ≠ .normal):G (Z4L rd) [t2,t3,t6,t7] h c df=some (gcR h c df q):=Z0S ((Z5s G rd t2 t3 t6 t7 h c df).trans e) hq
noncomputable def Z4K (o:Orc H) (rd:Option Nat) (t0 t1 t4 t7 t8:Value) (h:H) (c:Nat) (df:List Nat):Option (Rt H) :=
 (Z00 P .lss 3 t8 t7).bind fun t9 =>
 Z07 t9
 ((ixS 2 t0 t8).bind fun t14 =>
 (ldN h 2 t14).bind fun t15 =>
 (Z2A o h (c+1+1+1) t1 [t15]).bind fun r0 =>
 Z07 r0.1
  (some ⟨.ret,[t0,t1,t8,t7,t8],r0.2.1,(r0.2.2+1),df⟩)
  ((Z00 P .add 3 t8 (.int .i64 1)).bind fun t18 =>
  some ⟨.normal,[t0,t1,t4,t7,t18],r0.2.1,(r0.2.2+1),df⟩))
 (some ⟨(.exit 0),[t0,t1,t4,t7,t8],h,(c+1),df⟩)
theorem Z5r (o:Orc H) (rd:Option Nat) (t0 t1 t4 t7 t8:Value) (h:H) (c:Nat) (df:List Nat):jx P o 19 rd Z3d (Z0f [0,1,4,7,8] [t0,t1,t4,t7,t8]) h c df (Klp [0,1,4,7,8])=Z4K o rd t0 t1 t4 t7 t8 h c df:=by kernel_rfl
noncomputable def ZkX (o:Orc H) (t0 t1:Value) (h:H) (c:Nat):Option (Rt H) :=
 (Z0X t0).bind fun t7 =>
 (o (ZbW none) [t0,t1,(.int .i64 0),t7,(.int .i64 0)] h (c+1+1) []).bind fun r0 =>
 cond (Z0q r0.e (.exit 0))
 ((Z0a r0.h r0.df).bind fun h2 =>
 some ⟨.ret,[(.int .i64 (-1))],h2,(r0.c+1),[]⟩)
 (cond (Z0q r0.e .ret)
  ((Z0a r0.h r0.df).bind fun h1 =>
  some ⟨.ret,[r0.v 2],h1,r0.c,[]⟩)
  (none))
theorem ZhK (o:Orc H) (t0 t1:Value) (h:H) (c:Nat):jx P o 19 none f86_c (Z0f (List.range 2) [t0,t1]) h c [] (Kfn P Try.f86.results.toList)=ZkX o t0 t1 h c:=by kernel_rfl
theorem f86_go {t0 t1:Value} {h:FH} {c:Nat} {df:List Nat} {r:Rt FH} (e:ZkX G t0 t1 h c=some r):G (.fn 86) [t0,t1] h c df=some (gcR h c [] r):=Z0d (a:=ZfA) bk_86 rfl (fun args h c=>by cases args <;> rfl) rfl ((ZhK G t0 t1 h c).trans e)
noncomputable def ZkW (o:Orc H) (h:H) (c:Nat):Option (Rt H) :=
 (callF o 89 [] h (c+1+1)).bind fun r0 =>
 (stN (newB r0.2.1 (256*(c+1)+1) [(.int .i64 0),(.int .i64 0),(.int .i64 0),(.int .i64 0),(.int .i64 0),(.int .i64 0),(.int .i64 0),(.int .i64 0),(.int .i64 0),(.int .i64 0),(.int .i64 0),(.int .i64 0)]) 12 (ptrTo (256*(c+1)+1)) r0.1).bind fun h2 =>
 (slA 6 2 (ptrTo (256*(c+1)+1)) none none none).bind fun t3 =>
 some ⟨.ret,[t3],h2,(r0.2.2+1),[]⟩
theorem ZhJ (o:Orc H) (h:H) (c:Nat):jx P o 4 none f87_c (Z0f (List.range 0) []) h c [] (Kfn P Try.f87.results.toList)=ZkW o h c:=by kernel_rfl
theorem f87_go {h:FH} {c:Nat} {df:List Nat} {r:Rt FH} (e:ZkW G h c=some r):G (.fn 87) [] h c df=some r:=Z0d (a:=Zfz) bk_87 rfl (fun args h c=>by cases args <;> rfl) rfl ((ZhJ G h c).trans e)
noncomputable def ZkV (o:Orc H) (t0 t1 t2:Value) (h:H) (c:Nat):Option (Rt H) :=
 (bif (t0:Value).cells.toList.all Z0c then
 (ldN (newB h (256*c+0) (t0:Value).cells.toList) 2 (ptrTo (256*c+0))).bind fun t5 =>
 (ld1 (newB h (256*c+0) (t0:Value).cells.toList) t1).bind fun t6 =>
 (ld1 (newB h (256*c+0) (t0:Value).cells.toList) t2).bind fun t7 =>
 (Z4w [(.int .i64 0),(.int .i64 0)] [(0,1,t6),(1,1,t7)]).bind fun t8 =>
 (Z00 P .eql 115 t5 t8).bind fun t9 =>
 (gd t9 false (newB h (256*c+0) (t0:Value).cells.toList) (c+1+1) (ldN (newB h (256*c+0) (t0:Value).cells.toList) 2 (ptrTo (256*c+0)))).bind fun r0 =>
 (gd t9 false r0.2.1 r0.2.2 (ld1 r0.2.1 t2)).bind fun r1 =>
 (gd t9 false r1.2.1 r1.2.2 (ld1 r1.2.1 t1)).bind fun r2 =>
 (gd t9 false r2.2.1 r2.2.2 (Z4w [(.int .i64 0),(.int .i64 0)] [(0,1,r1.1),(1,1,r2.1)])).bind fun r3 =>
 (gd t9 false r3.2.1 r3.2.2 (Z00 P .eql 115 r0.1 r3.1)).bind fun r4 =>
 (Z0D t9 (.bool true) r4.1).bind fun t16 =>
 some ⟨.ret,[t16],r4.2.1,r4.2.2,[]⟩
 else none)
theorem ZhI (o:Orc H) (t0 t1 t2:Value) (h:H) (c:Nat):jx P o 17 none f88_c (Z0f (List.range 3) [t0,t1,t2]) h c [] (Kfn P Try.f88.results.toList)=ZkV o t0 t1 t2 h c:=by kernel_rfl
theorem f88_go {t0 t1 t2:Value} {h:FH} {c:Nat} {df:List Nat} {r:Rt FH} (e:ZkV G t0 t1 t2 h c=some r):G (.fn 88) [t0,t1,t2] h c df=some (gcR h c [] r):=Z0d (a:=Zfy) bk_88 rfl (fun args h c=>by cases args <;> rfl) rfl ((ZhI G t0 t1 t2 h c).trans e)
noncomputable def ZkU (o:Orc H) (h:H) (c:Nat):Option (Rt H) :=
 (Z4w [(.int .i64 0),(.int .i64 0)] [(0,1,(.int .i64 0)),(1,1,(.int .i64 1))]).bind fun t1 =>
 (Z4w [(.int .i64 0),(.int .i64 0)] [(0,1,(.int .i64 0)),(1,1,(.int .i64 2))]).bind fun t2 =>
 (Z4w [(.int .i64 0),(.int .i64 0)] [(0,1,(.int .i64 0)),(1,1,(.int .i64 3))]).bind fun t3 =>
 (Z4w [(.int .i64 0),(.int .i64 0)] [(0,1,(.int .i64 1)),(1,1,(.int .i64 2))]).bind fun t4 =>
 (Z4w [(.int .i64 0),(.int .i64 0)] [(0,1,(.int .i64 1)),(1,1,(.int .i64 3))]).bind fun t5 =>
 (Z4w [(.int .i64 0),(.int .i64 0)] [(0,1,(.int .i64 2)),(1,1,(.int .i64 3))]).bind fun t6 =>
 (Z4w [(.int .i64 0),(.int .i64 0),(.int .i64 0),(.int .i64 0),(.int .i64 0),(.int .i64 0),(.int .i64 0),(.int .i64 0),(.int .i64 0),(.int .i64 0),(.int .i64 0),(.int .i64 0)] [(0,2,t1),(2,2,t2),(4,2,t3),(6,2,t4),(8,2,t5),(10,2,t6)]).bind fun t7 =>
 (stN (newB h (256*c+0) [(.int .i64 0),(.int .i64 0),(.int .i64 0),(.int .i64 0),(.int .i64 0),(.int .i64 0),(.int .i64 0),(.int .i64 0),(.int .i64 0),(.int .i64 0),(.int .i64 0),(.int .i64 0)]) 12 (ptrTo (256*c+0)) t7).bind fun h1 =>
 (ldN h1 12 (ptrTo (256*c+0))).bind fun v2 =>
 some ⟨.ret,[v2],h1,(c+1+1),[]⟩
theorem ZhH (o:Orc H) (h:H) (c:Nat):jx P o 8 none f89_c (Z0f (List.range 0) []) h c [] (Kfn P Try.f89.results.toList)=ZkU o h c:=by kernel_rfl
theorem f89_go {h:FH} {c:Nat} {df:List Nat} {r:Rt FH} (e:ZkU G h c=some r):G (.fn 89) [] h c df=some (gcR h c [] r):=Z0d (a:=Zfx) bk_89 rfl (fun args h c=>by cases args <;> rfl) rfl ((ZhH G h c).trans e)
noncomputable def Z4J (o:Orc H) (rd:Option Nat) (t0 t1 t4 t7 t8:Value) (h:H) (c:Nat) (df:List Nat):Option (Rt H) :=
 (Z00 P .lss 3 t8 t7).bind fun t9 =>
 Z07 t9
 ((ixS 1 t0 t8).bind fun t14 =>
 (ld1 h t14).bind fun t15 =>
 (Z2A o h (c+1+1+1) t1 [t15]).bind fun r0 =>
 Z07 r0.1
  (some ⟨.ret,[t0,t1,t8,t7,t8],r0.2.1,(r0.2.2+1),df⟩)
  ((Z00 P .add 3 t8 (.int .i64 1)).bind fun t18 =>
  some ⟨.normal,[t0,t1,t4,t7,t18],r0.2.1,(r0.2.2+1),df⟩))
 (some ⟨(.exit 0),[t0,t1,t4,t7,t8],h,(c+1),df⟩)
theorem Z5q (o:Orc H) (rd:Option Nat) (t0 t1 t4 t7 t8:Value) (h:H) (c:Nat) (df:List Nat):jx P o 19 rd Z3c (Z0f [0,1,4,7,8] [t0,t1,t4,t7,t8]) h c df (Klp [0,1,4,7,8])=Z4J o rd t0 t1 t4 t7 t8 h c df:=by kernel_rfl
noncomputable def ZiX (o:Orc H) (t0 t1:Value) (h:H) (c:Nat):Option (Rt H) :=
 (Z0X t0).bind fun t7 =>
 (o (ZbV none) [t0,t1,(.int .i64 0),t7,(.int .i64 0)] h (c+1+1) []).bind fun r0 =>
 cond (Z0q r0.e (.exit 0))
 ((Z0a r0.h r0.df).bind fun h2 =>
 some ⟨.ret,[(.int .i64 (-1))],h2,(r0.c+1),[]⟩)
 (cond (Z0q r0.e .ret)
  ((Z0a r0.h r0.df).bind fun h1 =>
  some ⟨.ret,[r0.v 2],h1,r0.c,[]⟩)
  (none))
theorem ZhG (o:Orc H) (t0 t1:Value) (h:H) (c:Nat):jx P o 19 none f90_c (Z0f (List.range 2) [t0,t1]) h c [] (Kfn P Try.f90.results.toList)=ZiX o t0 t1 h c:=by kernel_rfl
theorem ZpX {t0 t1:Value} {h:FH} {c:Nat} {df:List Nat} {r:Rt FH} (e:ZiX G t0 t1 h c=some r):G (.fn 90) [t0,t1] h c df=some (gcR h c [] r):=Z0d (a:=Zfw) bk_90 rfl (fun args h c=>by cases args <;> rfl) rfl ((ZhG G t0 t1 h c).trans e)

variable {H:Type} [HeapC H]
noncomputable def Z1X (o:Orc H) (rd:Option Nat) (t0 t1 t3 t8 t9 t16 t17:Value) (h:H) (c:Nat) (df:List Nat):Option (Rt H) :=
 (Z00 P .lss 3 t17 (.int .i64 4)).bind fun t18 =>
 Z07 t18
 ((ixV 4 true 5 t16 t17).bind fun t20 =>
 (stN (newB h (256*(c+1)+2) [(.int .i64 0),(.int .i64 0),(.int .i64 0),(.int .i64 0),(.int .i64 0)]) 5 (ptrTo (256*(c+1)+2)) t20).bind fun h1 =>
 (Z4w [(.int .i64 0),(.int .i64 0)] [(0,1,t3),(1,1,t17)]).bind fun t24 =>
 (ldN h1 5 (ptrTo (256*(c+1)+2))).bind fun t25 =>
 (Z2A o h1 (c+1+1+1) t0 [t24,t25]).bind fun r2 =>
 (Z1i .not r2.1).bind fun t27 =>
 Z07 t27
  (some ⟨.ret,[t0,t1,t3,t8,t9,t16,t17],r2.2.1,r2.2.2,df⟩)
  ((Z00 P .add 3 t17 (.int .i64 1)).bind fun t28 =>
  some ⟨.normal,[t0,t1,t3,t8,t9,t16,t28],r2.2.1,(r2.2.2+1),df⟩))
 (some ⟨(.exit 2),[t0,t1,t3,t8,t9,t16,t17],h,(c+1),df⟩)
theorem Z5o (o:Orc H) (rd:Option Nat) (t0 t1 t3 t8 t9 t16 t17:Value) (h:H) (c:Nat) (df:List Nat):jx P o 30 rd Z3a (Z0f [0,1,3,8,9,16,17] [t0,t1,t3,t8,t9,t16,t17]) h c df (Klp [0,1,3,8,9,16,17])=Z1X o rd t0 t1 t3 t8 t9 t16 t17 h c df:=by kernel_rfl
noncomputable def Z1Y (o:Orc H) (rd:Option Nat) (t0 t1 t8 t9:Value) (h:H) (c:Nat) (df:List Nat):Option (Rt H) :=
 (Z00 P .lss 3 t9 t8).bind fun t10 =>
 Z07 t10
 ((Z06 t1 0).bind fun t12 =>
 (ld1 h t12).bind fun t13 =>
 (ixS 20 t13 t9).bind fun t15 =>
 (ldN h 20 t15).bind fun t16 =>
 (o (Z4H rd) [t0,t1,t9,t8,t9,t16,(.int .i64 0)] h (c+1+1+1) df).bind fun r0 =>
 cond (Z0q r0.e (.exit 2))
  ((Z00 P .add 3 (r0.v 4) (.int .i64 1)).bind fun t29 =>
  some ⟨.normal,[r0.v 0,r0.v 1,r0.v 3,t29],r0.h,(r0.c+1),r0.df⟩)
  (cond (Z0q r0.e .ret)
   (some ⟨.ret,[r0.v 0,r0.v 1,r0.v 3,r0.v 4],r0.h,r0.c,r0.df⟩)
   (none)))
 (some ⟨(.exit 0),[t0,t1,t8,t9],h,(c+1),df⟩)
theorem Z5p (o:Orc H) (rd:Option Nat) (t0 t1 t8 t9:Value) (h:H) (c:Nat) (df:List Nat):jx P o 30 rd Z3b (Z0f [0,1,8,9] [t0,t1,t8,t9]) h c df (Klp [0,1,8,9])=Z1Y o rd t0 t1 t8 t9 h c df:=by kernel_rfl
noncomputable def ZiU (o:Orc H) (t0 t1:Value) (h:H) (c:Nat):Option (Rt H) :=
 (Z06 t1 0).bind fun t6 =>
 (ld1 h t6).bind fun t7 =>
 (Z0X t7).bind fun t8 =>
 (o (Z4I none) [t0,t1,t8,(.int .i64 0)] h (c+1) []).bind fun r0 =>
 cond (Z0q r0.e (.exit 0))
 ((Z0a r0.h r0.df).bind fun h2 =>
 some ⟨.ret,[.tuple #[]],h2,r0.c,[]⟩)
 (cond (Z0q r0.e .ret)
  ((Z0a r0.h r0.df).bind fun h1 =>
  some ⟨.ret,[.tuple #[]],h1,r0.c,[]⟩)
  (none))
theorem ZhF (o:Orc H) (t0 t1:Value) (h:H) (c:Nat):jx P o 30 none f91_c (Z0f (List.range 2) [t0,t1]) h c [] (Kfn P Try.f91.results.toList)=ZiU o t0 t1 h c:=by kernel_rfl
theorem ZpW {t0 t1:Value} {h:FH} {c:Nat} {df:List Nat} {r:Rt FH} (e:ZiU G t0 t1 h c=some r):G (.fn 91) [t0,t1] h c df=some r:=Z0d (a:=Zfv) bk_91 rfl (fun args h c=>by cases args <;> rfl) rfl ((ZhF G t0 t1 h c).trans e)
theorem ZiV {rd:Option Nat} {t0 t1 t3 t8 t9 t16 t17:Value} {h:FH} {c:Nat} {df:List Nat} {q r:Rt FH} (e:Z1X G rd t0 t1 t3 t8 t9 t16 t17 h c df=some q) (hq:q.e = .normal) (k:G (Z4H rd) q.vs q.h q.c q.df=some r):G (Z4H rd) [t0,t1,t3,t8,t9,t16,t17] h c df=some r:=Z0R ((Z5o G rd t0 t1 t3 t8 t9 t16 t17 h c df).trans e) hq k
theorem ZbT {rd:Option Nat} {t0 t1 t3 t8 t9 t16 t17:Value} {h:FH} {c:Nat} {df:List Nat} {q:Rt FH} (e:Z1X G rd t0 t1 t3 t8 t9 t16 t17 h c df=some q) (hq:q.e ≠ .normal):G (Z4H rd) [t0,t1,t3,t8,t9,t16,t17] h c df=some q:=Z0S ((Z5o G rd t0 t1 t3 t8 t9 t16 t17 h c df).trans e) hq
theorem ZiW {rd:Option Nat} {t0 t1 t8 t9:Value} {h:FH} {c:Nat} {df:List Nat} {q r:Rt FH} (e:Z1Y G rd t0 t1 t8 t9 h c df=some q) (hq:q.e = .normal) (k:G (Z4I rd) q.vs q.h q.c q.df=some r):G (Z4I rd) [t0,t1,t8,t9] h c df=some r:=Z0R ((Z5p G rd t0 t1 t8 t9 h c df).trans e) hq k
theorem ZbU {rd:Option Nat} {t0 t1 t8 t9:Value} {h:FH} {c:Nat} {df:List Nat} {q:Rt FH} (e:Z1Y G rd t0 t1 t8 t9 h c df=some q) (hq:q.e ≠ .normal):G (Z4I rd) [t0,t1,t8,t9] h c df=some q:=Z0S ((Z5p G rd t0 t1 t8 t9 h c df).trans e) hq
end Go.Proofs.Ytcnndelmnobigaa
