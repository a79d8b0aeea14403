/- Parts of a proof: S3 S4 S5. Conditions: none. -/
import Derived.Test.YtcnndelmnobigaaM9
set_option linter.all false
set_option maxRecDepth 100000
namespace Go.Proofs.Ytcnndelmnobigaa
open Go Go.Ab Go.Proofs
variable {H:Type} [HeapC H]
noncomputable def Z52 (o:Orc H) (rd:Option Nat) (t1 t2 t3 t6 t7 t9 t10 t11:Value) (h:H) (c:Nat) (df:List Nat):Option (Rt H) :=
 (Z0X t1).bind fun t32 =>
 (Z00 P .lss 3 t11 t32).bind fun t33 =>
 Z07 t33
 ((ixS 1 t1 t11).bind fun t40 =>
 (ld1 h t40).bind fun t41 =>
 (ixS 1 t2 t11).bind fun t44 =>
 (ld1 h t44).bind fun t45 =>
 (Z00 P .add 3 t41 t45).bind fun t46 =>
 (ixS 1 t9 t11).bind fun t47 =>
 (stN h 1 t47 t46).bind fun h1 =>
 (gd t10 false h1 (c+1+1+1) (some t9)).bind fun r2 =>
 (gd t10 false r2.2.1 r2.2.2 (some t11)).bind fun r3 =>
 (gd t10 false r3.2.1 r3.2.2 (ixS 1 r2.1 r3.1)).bind fun r4 =>
 (gd t10 false r4.2.1 r4.2.2 (ld1 r4.2.1 r4.1)).bind fun r5 =>
 (gd t10 false r5.2.1 r5.2.2 (Z00 P .gtr 3 r5.1 (.int .i64 1000000))).bind fun r6 =>
 (Z0D t10 (.bool true) r6.1).bind fun t55 =>
 (Z00 P .add 3 t11 (.int .i64 1)).bind fun t35 =>
 some ⟨.normal,[t1,t2,t3,t6,t7,t9,t55,t35],r6.2.1,(r6.2.2+1),df⟩)
 (some ⟨(.exit 0),[t1,t2,t3,t6,t7,t9,t10,t11],h,(c+1),df⟩)
theorem Z33 (o:Orc H) (rd:Option Nat) (t1 t2 t3 t6 t7 t9 t10 t11:Value) (h:H) (c:Nat) (df:List Nat):jx P o 82 rd Z9r (Z0f [1,2,3,6,7,9,10,11] [t1,t2,t3,t6,t7,t9,t10,t11]) h c df (Klp [1,2,3,6,7,9,10,11])=Z52 o rd t1 t2 t3 t6 t7 t9 t10 t11 h c df:=by kernel_rfl
noncomputable def Z6N (o:Orc H) (rd:Option Nat) (t3 t6 t7 t9 t10 t12 t13 t14:Value) (h:H) (c:Nat) (df:List Nat):Option (Rt H) :=
 (Z00 P .lss 3 t14 (.int .i64 3)).bind fun t64 =>
 Z07 t64
 ((Z00 P .mul 3 (.int .i64 7) t12).bind fun t69 =>
 (Z00 P .add 3 t69 (.int .i64 4)).bind fun t70 =>
 (Z00 P .add 3 t70 t14).bind fun t72 =>
 (ixS 1 t9 t72).bind fun t73 =>
 (ld1 h t73).bind fun t74 =>
 (Z00 P .neq 3 t74 (.int .i64 0)).bind fun t75 =>
 (Z07 t75
  ((Z00 P .add 3 t13 (.int .i64 1)).bind fun t77 =>
  some ⟨.normal,[t3,t6,t7,t9,t10,t12,t77,t14],h,(c+1+1+1),df⟩)
  (some ⟨.normal,[t3,t6,t7,t9,t10,t12,t13,t14],h,(c+1+1),df⟩):Option (Rt H)).bind fun r1 =>
 cond (Z0q r1.e .normal)
  ((Z00 P .add 3 (r1.v 7) (.int .i64 1)).bind fun t66 =>
  some ⟨.normal,[r1.v 0,r1.v 1,r1.v 2,r1.v 3,r1.v 4,r1.v 5,r1.v 6,t66],r1.h,(r1.c+1),r1.df⟩)
  (none))
 (some ⟨(.exit 4),[t3,t6,t7,t9,t10,t12,t13,t14],h,(c+1),df⟩)
theorem Z5N (o:Orc H) (rd:Option Nat) (t3 t6 t7 t9 t10 t12 t13 t14:Value) (h:H) (c:Nat) (df:List Nat):jx P o 82 rd Z9p (Z0f [3,6,7,9,10,12,13,14] [t3,t6,t7,t9,t10,t12,t13,t14]) h c df (Klp [3,6,7,9,10,12,13,14])=Z6N o rd t3 t6 t7 t9 t10 t12 t13 t14 h c df:=by kernel_rfl
noncomputable def Z6O (o:Orc H) (rd:Option Nat) (t3 t6 t7 t9 t10 t12:Value) (h:H) (c:Nat) (df:List Nat):Option (Rt H) :=
 (Z06 t3 0).bind fun t57 =>
 (ld1 h t57).bind fun t58 =>
 (Z0X t58).bind fun t59 =>
 (Z00 P .lss 3 t12 t59).bind fun t60 =>
 Z07 t60
 ((o (Zcw rd) [t3,t6,t7,t9,t10,t12,(.int .i64 0),(.int .i64 0)] h (c+1+1+1) df).bind fun r0 =>
 cond (Z0q r0.e (.exit 4))
  ((Z00 P .gtr 3 (r0.v 6) (.int .i64 1)).bind fun t79 =>
  Z07 t79
   (some ⟨.ret,[r0.v 0,(.slice none 0 0),(.int .i64 1),r0.v 3,r0.v 4,r0.v 5],r0.h,(r0.c+1+1),r0.df⟩)
   ((Z00 P .add 3 (r0.v 5) (.int .i64 1)).bind fun t62 =>
   some ⟨.normal,[r0.v 0,r0.v 1,r0.v 2,r0.v 3,r0.v 4,t62],r0.h,(r0.c+1+1),r0.df⟩))
  (none))
 (some ⟨(.exit 2),[t3,t6,t7,t9,t10,t12],h,(c+1),df⟩)
theorem Z5O (o:Orc H) (rd:Option Nat) (t3 t6 t7 t9 t10 t12:Value) (h:H) (c:Nat) (df:List Nat):jx P o 82 rd Z9q (Z0f [3,6,7,9,10,12] [t3,t6,t7,t9,t10,t12]) h c df (Klp [3,6,7,9,10,12])=Z6O o rd t3 t6 t7 t9 t10 t12 h c df:=by kernel_rfl
noncomputable def Zrr (o:Orc H) (t0 t1 t2:Value) (h:H) (c:Nat):Option (Rt H) :=
 (bif (t0:Value).cells.toList.all Z0c then
 (ldN (newB h (256*c+0) (t0:Value).cells.toList) 1 (ptrTo (256*c+0))).bind fun t15 =>
 (callF o 28 [t15,t1] (newB h (256*c+0) (t0:Value).cells.toList) (c+1+1)).bind fun r0 =>
 (Z00 P .neq 27 r0.1 (.int .i64 0)).bind fun t19 =>
 Z07 t19
 (some ⟨.ret,[.tuple #[(.slice none 0 0),r0.1]],r0.2.1,(r0.2.2+1+1),[]⟩)
 ((ldN r0.2.1 1 (ptrTo (256*c+0))).bind fun t21 =>
 (callF o 28 [t21,t2] r0.2.1 (r0.2.2+1+1)).bind fun r1 =>
 (Z00 P .neq 27 r1.1 (.int .i64 0)).bind fun t25 =>
 Z07 t25
  (some ⟨.ret,[.tuple #[(.slice none 0 0),r1.1]],r1.2.1,(r1.2.2+1+1),[]⟩)
  ((Z0X t1).bind fun t28 =>
  (mkS 1 8 [(.int .i64 0)] t28 t28).bind fun r2 =>
  (o (Zcy none) [t1,t2,(ptrTo (256*c+0)),(.slice none 0 0),(.int .i64 0),(.slice (some ⟨(256*(r1.2.2+1)+2),0,none⟩) r2.2.1 r2.2.2),(.bool false),(.int .i64 0)] (newB r1.2.1 (256*(r1.2.2+1)+2) r2.1) (r1.2.2+1+1+1+1) []).bind fun r3 =>
  cond (Z0q r3.e (.exit 0))
   ((o (Zcx none) [r3.v 2,r3.v 3,r3.v 4,r3.v 5,r3.v 6,(.int .i64 0)] r3.h (r3.c+1) r3.df).bind fun r4 =>
   cond (Z0q r4.e (.exit 2))
    (Z07 (r4.v 4)
     ((Z0a r4.h r4.df).bind fun h6 =>
     some ⟨.ret,[.tuple #[(.slice none 0 0),(.int .i64 2)]],h6,(r4.c+1+1),[]⟩)
     ((Z0a r4.h r4.df).bind fun h7 =>
     some ⟨.ret,[.tuple #[r4.v 3,(.int .i64 0)]],h7,(r4.c+1+1),[]⟩))
    (cond (Z0q r4.e .ret)
     ((Z0a r4.h r4.df).bind fun h5 =>
     some ⟨.ret,[.tuple #[r4.v 1,r4.v 2]],h5,r4.c,[]⟩)
     (none)))
   (none)))
 else none)
theorem ZoM (o:Orc H) (t0 t1 t2:Value) (h:H) (c:Nat):jx P o 82 none f35_c (Z0f (List.range 3) [t0,t1,t2]) h c [] (Kfn P Try.f35.results.toList)=Zrr o t0 t1 t2 h c:=by kernel_rfl
theorem f35_go {t0 t1 t2:Value} {h:FH} {c:Nat} {df:List Nat} {r:Rt FH} (e:Zrr G t0 t1 t2 h c=some r):G (.fn 35) [t0,t1,t2] h c df=some r:=Z0d (a:=ZoL) bk_35 rfl (fun args h c=>by cases args <;> rfl) rfl ((ZoM G t0 t1 t2 h c).trans e)
noncomputable def Z9o (o:Orc H) (rd:Option Nat) (t1 t2 t7 t8:Value) (h:H) (c:Nat) (df:List Nat):Option (Rt H) :=
 (Z06 t2 0).bind fun t16 =>
 (ld1 h t16).bind fun t17 =>
 (Z0X t17).bind fun t18 =>
 (Z00 P .lss 3 t8 t18).bind fun t19 =>
 Z07 t19
 ((Z00 P .mul 3 (.int .i64 7) t8).bind fun t25 =>
 (Z00 P .add 3 t25 (.int .i64 4)).bind fun t26 =>
 (Z00 P .mul 3 (.int .i64 7) t8).bind fun t28 =>
 (Z00 P .add 3 t28 (.int .i64 7)).bind fun t29 =>
 (slS h 1 t1 (some t26) (some t29) none).bind fun t30 =>
 (Z7q h (256*(c+1)+9) 1 8 t7 t30).bind fun r0 =>
 (Z00 P .add 3 t8 (.int .i64 1)).bind fun t21 =>
 some ⟨.normal,[t1,t2,r0.1,t21],r0.2,(c+1+1+1),df⟩)
 (some ⟨(.exit 0),[t1,t2,t7,t8],h,(c+1),df⟩)
theorem Z83 (o:Orc H) (rd:Option Nat) (t1 t2 t7 t8:Value) (h:H) (c:Nat) (df:List Nat):jx P o 33 rd Z9n (Z0f [1,2,7,8] [t1,t2,t7,t8]) h c df (Klp [1,2,7,8])=Z9o o rd t1 t2 t7 t8 h c df:=by kernel_rfl
noncomputable def Zrq (o:Orc H) (t0 t1:Value) (h:H) (c:Nat):Option (Rt H) :=
 (bif (t0:Value).cells.toList.all Z0c then
 (ldN (newB h (256*c+0) (t0:Value).cells.toList) 1 (ptrTo (256*c+0))).bind fun t9 =>
 (callF o 28 [t9,t1] (newB h (256*c+0) (t0:Value).cells.toList) (c+1+1)).bind fun r0 =>
 (Z00 P .neq 27 r0.1 (.int .i64 0)).bind fun t13 =>
 Z07 t13
 (some ⟨.ret,[.tuple #[(.slice none 0 0),r0.1]],r0.2.1,(r0.2.2+1+1),[]⟩)
 ((o (Zcv none) [t1,(ptrTo (256*c+0)),(.slice none 0 0),(.int .i64 0)] r0.2.1 (r0.2.2+1+1+1) []).bind fun r1 =>
 cond (Z0q r1.e (.exit 0))
  ((Z0a r1.h r1.df).bind fun h2 =>
  some ⟨.ret,[.tuple #[r1.v 2,(.int .i64 0)]],h2,(r1.c+1),[]⟩)
  (none))
 else none)
theorem ZoK (o:Orc H) (t0 t1:Value) (h:H) (c:Nat):jx P o 33 none f36_c (Z0f (List.range 2) [t0,t1]) h c [] (Kfn P Try.f36.results.toList)=Zrq o t0 t1 h c:=by kernel_rfl
theorem f36_go {t0 t1:Value} {h:FH} {c:Nat} {df:List Nat} {r:Rt FH} (e:Zrq G t0 t1 h c=some r):G (.fn 36) [t0,t1] h c df=some r:=Z0d (a:=ZoJ) bk_36 rfl (fun args h c=>by cases args <;> rfl) rfl ((ZoK G t0 t1 h c).trans e)

variable {H:Type} [HeapC H]
noncomputable def Z3M (o:Orc H) (rd:Option Nat) (t1 t2 t4 t5 t7 t8 t9 t10:Value) (h:H) (c:Nat) (df:List Nat):Option (Rt H) :=
 (Z00 P .lss 3 t10 (.int .i64 3)).bind fun t46 =>
 Z07 t46
 ((Z00 P .mul 3 (.int .i64 3) t8).bind fun t51 =>
 (Z00 P .add 3 t51 t10).bind fun t53 =>
 (ixS 1 t1 t53).bind fun t54 =>
 (ld1 h t54).bind fun t55 =>
 (Z00 P .lss 3 t55 (.int .i64 0)).bind fun t56 =>
 (gd t56 false h (c+1+1) (some t1)).bind fun r0 =>
 (gd t56 false r0.2.1 r0.2.2 (some t8)).bind fun r1 =>
 (gd t56 false r1.2.1 r1.2.2 (Z00 P .mul 3 (.int .i64 3) r1.1)).bind fun r2 =>
 (gd t56 false r2.2.1 r2.2.2 (some t10)).bind fun r3 =>
 (gd t56 false r3.2.1 r3.2.2 (Z00 P .add 3 r2.1 r3.1)).bind fun r4 =>
 (gd t56 false r4.2.1 r4.2.2 (ixS 1 r0.1 r4.1)).bind fun r5 =>
 (gd t56 false r5.2.1 r5.2.2 (ld1 r5.2.1 r5.1)).bind fun r6 =>
 (gd t56 false r6.2.1 r6.2.2 (Z00 P .gtr 3 r6.1 (.int .i64 1000000))).bind fun r7 =>
 (Z0D t56 (.bool true) r7.1).bind fun t66 =>
 Z07 t66
  (some ⟨.ret,[t1,t2,(.slice none 0 0),(.int .i64 1),t7,t8,t9,t10],r7.2.1,(r7.2.2+1),df⟩)
  ((Z00 P .mul 3 (.int .i64 3) t8).bind fun t69 =>
  (Z00 P .add 3 t69 t10).bind fun t71 =>
  (ixS 1 t1 t71).bind fun t72 =>
  (ld1 r7.2.1 t72).bind fun t73 =>
  (Z00 P .neq 3 t73 (.int .i64 0)).bind fun t74 =>
  (Z07 t74
   ((Z00 P .add 3 t9 (.int .i64 1)).bind fun t76 =>
   some ⟨.normal,[t1,t2,t4,t5,t7,t8,t76,t10],r7.2.1,(r7.2.2+1+1),df⟩)
   (some ⟨.normal,[t1,t2,t4,t5,t7,t8,t9,t10],r7.2.1,(r7.2.2+1),df⟩):Option (Rt H)).bind fun r11 =>
  cond (Z0q r11.e .normal)
   ((Z00 P .add 3 (r11.v 7) (.int .i64 1)).bind fun t48 =>
   some ⟨.normal,[r11.v 0,r11.v 1,r11.v 2,r11.v 3,r11.v 4,r11.v 5,r11.v 6,t48],r11.h,(r11.c+1),r11.df⟩)
   (none)))
 (some ⟨(.exit 2),[t1,t2,t4,t5,t7,t8,t9,t10],h,(c+1),df⟩)
theorem Z2d (o:Orc H) (rd:Option Nat) (t1 t2 t4 t5 t7 t8 t9 t10:Value) (h:H) (c:Nat) (df:List Nat):jx P o 294 rd Z9h (Z0f [1,2,4,5,7,8,9,10] [t1,t2,t4,t5,t7,t8,t9,t10]) h c df (Klp [1,2,4,5,7,8,9,10])=Z3M o rd t1 t2 t4 t5 t7 t8 t9 t10 h c df:=by kernel_rfl
noncomputable def Z51 (o:Orc H) (rd:Option Nat) (t1 t2 t4 t5 t7 t8:Value) (h:H) (c:Nat) (df:List Nat):Option (Rt H) :=
 (Z00 P .lss 3 t8 t7).bind fun t42 =>
 Z07 t42
 ((o (Zct rd) [t1,t2,t4,t5,t7,t8,(.int .i64 0),(.int .i64 0)] h (c+1+1+1) df).bind fun r0 =>
 cond (Z0q r0.e (.exit 2))
  ((Z00 P .gtr 3 (r0.v 6) (.int .i64 1)).bind fun t78 =>
  Z07 t78
   (some ⟨.ret,[r0.v 0,r0.v 1,(.slice none 0 0),(.int .i64 1),r0.v 4,r0.v 5],r0.h,(r0.c+1+1),r0.df⟩)
   ((Z00 P .add 3 (r0.v 5) (.int .i64 1)).bind fun t44 =>
   some ⟨.normal,[r0.v 0,r0.v 1,r0.v 2,r0.v 3,r0.v 4,t44],r0.h,(r0.c+1+1),r0.df⟩))
  (cond (Z0q r0.e .ret)
   (some ⟨.ret,[r0.v 0,r0.v 1,r0.v 2,r0.v 3,r0.v 4,r0.v 5],r0.h,r0.c,r0.df⟩)
   (none)))
 (some ⟨(.exit 0),[t1,t2,t4,t5,t7,t8],h,(c+1),df⟩)
theorem Z32 (o:Orc H) (rd:Option Nat) (t1 t2 t4 t5 t7 t8:Value) (h:H) (c:Nat) (df:List Nat):jx P o 294 rd Z9i (Z0f [1,2,4,5,7,8] [t1,t2,t4,t5,t7,t8]) h c df (Klp [1,2,4,5,7,8])=Z51 o rd t1 t2 t4 t5 t7 t8 h c df:=by kernel_rfl
noncomputable def Z9m (o:Orc H) (rd:Option Nat) (t1 t2 t7 t11 t12 t13 t14 t15:Value) (h:H) (c:Nat) (df:List Nat):Option (Rt H) :=
 (Z00 P .lss 3 t15 (.int .i64 3)).bind fun t93 =>
 Z07 t93
 ((Z00 P .mul 3 (.int .i64 7) t14).bind fun t98 =>
 (Z00 P .add 3 t98 (.int .i64 4)).bind fun t99 =>
 (Z00 P .add 3 t99 t15).bind fun t101 =>
 (Z00 P .mul 3 (.int .i64 3) t14).bind fun t104 =>
 (Z00 P .add 3 t104 t15).bind fun t106 =>
 (ixS 1 t1 t106).bind fun t107 =>
 (ld1 h t107).bind fun t108 =>
 (ixS 1 t11 t101).bind fun t109 =>
 (stN h 1 t109 t108).bind fun h1 =>
 (Z00 P .add 3 t15 (.int .i64 1)).bind fun t95 =>
 some ⟨.normal,[t1,t2,t7,t11,t12,t13,t14,t95],h1,(c+1+1+1),df⟩)
 (some ⟨(.exit 6),[t1,t2,t7,t11,t12,t13,t14,t15],h,(c+1),df⟩)
theorem Z82 (o:Orc H) (rd:Option Nat) (t1 t2 t7 t11 t12 t13 t14 t15:Value) (h:H) (c:Nat) (df:List Nat):jx P o 294 rd Z9f (Z0f [1,2,7,11,12,13,14,15] [t1,t2,t7,t11,t12,t13,t14,t15]) h c df (Klp [1,2,7,11,12,13,14,15])=Z9m o rd t1 t2 t7 t11 t12 t13 t14 t15 h c df:=by kernel_rfl
noncomputable def Z6M (o:Orc H) (rd:Option Nat) (t1 t2 t7 t11 t12 t13 t14:Value) (h:H) (c:Nat) (df:List Nat):Option (Rt H) :=
 (Z00 P .lss 3 t14 t7).bind fun t89 =>
 Z07 t89
 ((o (Zcs rd) [t1,t2,t7,t11,t12,t13,t14,(.int .i64 0)] h (c+1+1) df).bind fun r0 =>
 cond (Z0q r0.e (.exit 6))
  ((Z00 P .add 3 (r0.v 6) (.int .i64 1)).bind fun t91 =>
  some ⟨.normal,[r0.v 0,r0.v 1,r0.v 2,r0.v 3,r0.v 4,r0.v 5,t91],r0.h,(r0.c+1),r0.df⟩)
  (none))
 (some ⟨(.exit 4),[t1,t2,t7,t11,t12,t13,t14],h,(c+1),df⟩)
theorem Z5M (o:Orc H) (rd:Option Nat) (t1 t2 t7 t11 t12 t13 t14:Value) (h:H) (c:Nat) (df:List Nat):jx P o 294 rd Z9g (Z0f [1,2,7,11,12,13,14] [t1,t2,t7,t11,t12,t13,t14]) h c df (Klp [1,2,7,11,12,13,14])=Z6M o rd t1 t2 t7 t11 t12 t13 t14 h c df:=by kernel_rfl
noncomputable def Z50 (o:Orc H) (rd:Option Nat) (t2 t11 t12 t13 t16 t17 t18:Value) (h:H) (c:Nat) (df:List Nat):Option (Rt H) :=
 (Z0X t13).bind fun t118 =>
 (Z00 P .lss 3 t18 t118).bind fun t119 =>
 (gd t119 true h (c+1) (some t17)).bind fun r0 =>
 (gg t119 true r0.2.1 r0.2.2 (((Z0X r0.1).bind fun v=>some (v,r0.2.1)).bind fun r=>some (r.1,r.2,r0.2.2))).bind fun r1 =>
 (gd t119 true r1.2.1 r1.2.2 (Z00 P .eql 3 r1.1 (.int .i64 0))).bind fun r2 =>
 (Z0D t119 r2.1 (.bool false)).bind fun t124 =>
 Z07 t124
 ((ixS 1 t13 t18).bind fun t129 =>
 (ld1 r2.2.1 t129).bind fun t130 =>
 (Z00 P .eql 3 t130 t16).bind fun t132 =>
 (Z07 t132
  ((Z2T [(.int .i64 0)] [(0,1,t18)]).bind fun r3 =>
  (Z7q (newB r2.2.1 (256*(r2.2.2+1)+2) r3) (256*(r2.2.2+1)+3) 1 8 t17 (.slice (some ⟨(256*(r2.2.2+1)+2),0,none⟩) 1 1)).bind fun r4 =>
  (ixS 1 t12 t18).bind fun t139 =>
  (stN r4.2 1 t139 (.bool true)).bind fun h7 =>
  some ⟨.normal,[t2,t11,t12,t13,t16,r4.1,t18],h7,(r2.2.2+1+1+1),df⟩)
  (some ⟨.normal,[t2,t11,t12,t13,t16,t17,t18],r2.2.1,(r2.2.2+1),df⟩):Option (Rt H)).bind fun r8 =>
 cond (Z0q r8.e .normal)
  ((Z00 P .add 3 (r8.v 6) (.int .i64 1)).bind fun t126 =>
  some ⟨.normal,[r8.v 0,r8.v 1,r8.v 2,r8.v 3,r8.v 4,r8.v 5,t126],r8.h,(r8.c+1),r8.df⟩)
  (none))
 (some ⟨(.exit 10),[t2,t11,t12,t13,t16,t17,t18],r2.2.1,r2.2.2,df⟩)
theorem Z31 (o:Orc H) (rd:Option Nat) (t2 t11 t12 t13 t16 t17 t18:Value) (h:H) (c:Nat) (df:List Nat):jx P o 294 rd Z9d (Z0f [2,11,12,13,16,17,18] [t2,t11,t12,t13,t16,t17,t18]) h c df (Klp [2,11,12,13,16,17,18])=Z50 o rd t2 t11 t12 t13 t16 t17 t18 h c df:=by kernel_rfl
noncomputable def Z3L (o:Orc H) (rd:Option Nat) (t2 t11 t12 t13 t16 t17 t19 t20 t21 t22 t23:Value) (h:H) (c:Nat) (df:List Nat):Option (Rt H) :=
 (Z00 P .lss 3 t23 (.int .i64 4)).bind fun t166 =>
 Z07 t166
 (((Z06 t2 0).bind fun t169 =>
  (ld1 h t169).bind fun t170 =>
  (ixS 20 t170 t21).bind fun t173 =>
  (ixA 4 5 t173 t23).bind fun t174 =>
  (ldN h 5 t174).bind fun t175 =>
  (stN (newB h (256*(c+1)+7) [(.int .i64 0),(.int .i64 0),(.int .i64 0),(.int .i64 0),(.int .i64 0)]) 5 (ptrTo (256*(c+1)+7)) t175).bind fun h1 =>
  (Z00 P .eql 3 t23 t22).bind fun t178 =>
  (gd t178 false h1 (c+1+1+1) (Z06 (ptrTo (256*(c+1)+7)) 0)).bind fun r2 =>
  (gd t178 false r2.2.1 r2.2.2 (ld1 r2.2.1 r2.1)).bind fun r3 =>
  (gd t178 false r3.2.1 r3.2.2 (Z00 P .lss 3 r3.1 (.int .i64 0))).bind fun r4 =>
  (Z0D t178 (.bool true) r4.1).bind fun t183 =>
  Z07 t183
   (some ⟨.normal,[t2,t11,t12,t13,t16,t17,t19,t20,t21,t22,t23],r4.2.1,r4.2.2,df⟩)
   ((Z06 (ptrTo (256*(c+1)+7)) 1).bind fun t185 =>
   (ixA 4 1 t185 t22).bind fun t186 =>
   (ld1 r4.2.1 t186).bind fun t187 =>
   (Z06 (ptrTo (256*(c+1)+7)) 0).bind fun t189 =>
   (ld1 r4.2.1 t189).bind fun t190 =>
   (Z00 P .mul 3 (.int .i64 4) t190).bind fun t191 =>
   (Z00 P .add 3 t191 t187).bind fun t193 =>
   (ixS 1 t12 t193).bind fun t194 =>
   (ld1 r4.2.1 t194).bind fun t195 =>
   (Z1i .not t195).bind fun t196 =>
   (Z07 t196
    ((Z06 (ptrTo (256*(c+1)+7)) 0).bind fun t198 =>
    (ld1 r4.2.1 t198).bind fun t199 =>
    (Z00 P .mul 3 (.int .i64 4) t199).bind fun t200 =>
    (Z00 P .add 3 t200 t187).bind fun t202 =>
    (ixS 1 t12 t202).bind fun t203 =>
    (stN r4.2.1 1 t203 (.bool true)).bind fun h6 =>
    (Z06 (ptrTo (256*(c+1)+7)) 0).bind fun t205 =>
    (ld1 h6 t205).bind fun t206 =>
    (Z00 P .mul 3 (.int .i64 7) t206).bind fun t207 =>
    (Z00 P .add 3 t207 t187).bind fun t209 =>
    (Z00 P .mul 3 (.int .i64 7) t21).bind fun t212 =>
    (Z00 P .add 3 t212 t22).bind fun t214 =>
    (ixS 1 t11 t214).bind fun t215 =>
    (ld1 h6 t215).bind fun t216 =>
    (Z00 P .mul 3 (.int .i64 7) t21).bind fun t219 =>
    (Z00 P .add 3 t219 (.int .i64 4)).bind fun t220 =>
    (callF o 20 [t22,t23] h6 (r4.2.2+1+1+1+1)).bind fun r7 =>
    (Z00 P .add 3 t220 r7.1).bind fun t224 =>
    (ixS 1 t11 t224).bind fun t225 =>
    (ld1 r7.2.1 t225).bind fun t226 =>
    (Z00 P .add 3 t216 t226).bind fun t227 =>
    (Z06 (ptrTo (256*(c+1)+7)) 0).bind fun t229 =>
    (ld1 r7.2.1 t229).bind fun t230 =>
    (Z00 P .mul 3 (.int .i64 7) t230).bind fun t231 =>
    (Z00 P .add 3 t231 (.int .i64 4)).bind fun t232 =>
    (Z06 (ptrTo (256*(c+1)+7)) 1).bind fun t235 =>
    (ixA 4 1 t235 t23).bind fun t236 =>
    (ld1 r7.2.1 t236).bind fun t237 =>
    (callF o 20 [t187,t237] r7.2.1 r7.2.2).bind fun r8 =>
    (Z00 P .add 3 t232 r8.1).bind fun t239 =>
    (ixS 1 t11 t239).bind fun t240 =>
    (ld1 r8.2.1 t240).bind fun t241 =>
    (Z00 P .sub 3 t227 t241).bind fun t242 =>
    (ixS 1 t11 t209).bind fun t243 =>
    (stN r8.2.1 1 t243 t242).bind fun h10 =>
    (bif (Z18 (Z2G t205) h6 r7.2.1 && (Z18 (Z2G t205) r7.2.1 r8.2.1 && (Z18 (Z2G t215) h6 r7.2.1 && (Z18 (Z2G t215) r7.2.1 r8.2.1 && (Z18 (Z2G t225) r7.2.1 r8.2.1 && (Z18 (Z2G t229) h6 r7.2.1 && (Z18 (Z2G t229) r7.2.1 r8.2.1 && (Z18 (Z2G t236) h6 r7.2.1 && true)))))))) then
    (Z06 (ptrTo (256*(c+1)+7)) 0).bind fun t245 =>
    (ld1 h10 t245).bind fun t246 =>
    (Z00 P .mul 3 (.int .i64 4) t246).bind fun t247 =>
    (Z00 P .add 3 t247 t187).bind fun t249 =>
    (Z2T [(.int .i64 0)] [(0,1,t249)]).bind fun r11 =>
    (Z7q (newB h10 (256*r8.2.2+6) r11) (256*r8.2.2+7) 1 8 t17 (.slice (some ⟨(256*r8.2.2+6),0,none⟩) 1 1)).bind fun r12 =>
    some ⟨.normal,[t2,t11,t12,t13,t16,r12.1,t19,t20,t21,t22,t23],r12.2,(r8.2.2+1),df⟩
    else none))
    (some ⟨.normal,[t2,t11,t12,t13,t16,t17,t19,t20,t21,t22,t23],r4.2.1,(r4.2.2+1+1),df⟩):Option (Rt H)).bind fun r14 =>
   cond (Z0q r14.e .normal)
    (some ⟨.normal,[r14.v 0,r14.v 1,r14.v 2,r14.v 3,r14.v 4,r14.v 5,r14.v 6,r14.v 7,r14.v 8,r14.v 9,r14.v 10],r14.h,r14.c,r14.df⟩)
    (none)):Option (Rt H)).bind fun r15 =>
 cond (Z0q r15.e .normal)
  ((Z00 P .add 3 (r15.v 10) (.int .i64 1)).bind fun t168 =>
  some ⟨.normal,[r15.v 0,r15.v 1,r15.v 2,r15.v 3,r15.v 4,r15.v 5,r15.v 6,r15.v 7,r15.v 8,r15.v 9,t168],r15.h,(r15.c+1),r15.df⟩)
  (none))
 (some ⟨(.exit 14),[t2,t11,t12,t13,t16,t17,t19,t20,t21,t22,t23],h,(c+1),df⟩)
theorem Z2c (o:Orc H) (rd:Option Nat) (t2 t11 t12 t13 t16 t17 t19 t20 t21 t22 t23:Value) (h:H) (c:Nat) (df:List Nat):jx P o 294 rd Z9b (Z0f [2,11,12,13,16,17,19,20,21,22,23] [t2,t11,t12,t13,t16,t17,t19,t20,t21,t22,t23]) h c df (Klp [2,11,12,13,16,17,19,20,21,22,23])=Z3L o rd t2 t11 t12 t13 t16 t17 t19 t20 t21 t22 t23 h c df:=by kernel_rfl
noncomputable def Z9k (o:Orc H) (rd:Option Nat) (t2 t11 t12 t13 t16 t17 t19 t20:Value) (h:H) (c:Nat) (df:List Nat):Option (Rt H) :=
 (Z0X t17).bind fun t142 =>
 (Z00 P .lss 3 t20 t142).bind fun t143 =>
 Z07 t143
 ((ixS 1 t17 t20).bind fun t148 =>
 (ld1 h t148).bind fun t149 =>
 (Z00 P .quo 3 t149 (.int .i64 4)).bind fun t150 =>
 (ixS 1 t17 t20).bind fun t153 =>
 (ld1 h t153).bind fun t154 =>
 (Z00 P .rem 3 t154 (.int .i64 4)).bind fun t155 =>
 (Z00 P .mul 3 (.int .i64 7) t150).bind fun t159 =>
 (Z00 P .add 3 t159 t155).bind fun t161 =>
 (ixS 1 t11 t161).bind fun t162 =>
 (ld1 h t162).bind fun t163 =>
 (Z28 min2 [t19,t163]).bind fun t164 =>
 (o (Zcp rd) [t2,t11,t12,t13,t16,t17,t164,t20,t150,t155,(.int .i64 0)] h (c+1+1+1+1+1) df).bind fun r1 =>
 cond (Z0q r1.e (.exit 14))
  ((Z00 P .add 3 (r1.v 7) (.int .i64 1)).bind fun t145 =>
  some ⟨.normal,[r1.v 0,r1.v 1,r1.v 2,r1.v 3,r1.v 4,r1.v 5,r1.v 6,t145],r1.h,(r1.c+1),r1.df⟩)
  (none))
 (some ⟨(.exit 12),[t2,t11,t12,t13,t16,t17,t19,t20],h,(c+1),df⟩)
theorem Z80 (o:Orc H) (rd:Option Nat) (t2 t11 t12 t13 t16 t17 t19 t20:Value) (h:H) (c:Nat) (df:List Nat):jx P o 294 rd Z9c (Z0f [2,11,12,13,16,17,19,20] [t2,t11,t12,t13,t16,t17,t19,t20]) h c df (Klp [2,11,12,13,16,17,19,20])=Z9k o rd t2 t11 t12 t13 t16 t17 t19 t20 h c df:=by kernel_rfl
noncomputable def Z9j (o:Orc H) (rd:Option Nat) (t2 t11 t12 t13 t16 t17 t19 t26:Value) (h:H) (c:Nat) (df:List Nat):Option (Rt H) :=
 (Z0X t17).bind fun t254 =>
 (Z00 P .lss 3 t26 t254).bind fun t255 =>
 Z07 t255
 ((ixS 1 t17 t26).bind fun t261 =>
 (ld1 h t261).bind fun t262 =>
 (Z00 P .quo 3 t262 (.int .i64 4)).bind fun t263 =>
 (Z00 P .mul 3 (.int .i64 7) t263).bind fun t264 =>
 (ixS 1 t17 t26).bind fun t267 =>
 (ld1 h t267).bind fun t268 =>
 (Z00 P .rem 3 t268 (.int .i64 4)).bind fun t269 =>
 (Z00 P .add 3 t264 t269).bind fun t270 =>
 (ixS 1 t17 t26).bind fun t274 =>
 (ld1 h t274).bind fun t275 =>
 (Z00 P .quo 3 t275 (.int .i64 4)).bind fun t276 =>
 (Z00 P .mul 3 (.int .i64 7) t276).bind fun t277 =>
 (ixS 1 t17 t26).bind fun t280 =>
 (ld1 h t280).bind fun t281 =>
 (Z00 P .rem 3 t281 (.int .i64 4)).bind fun t282 =>
 (Z00 P .add 3 t277 t282).bind fun t283 =>
 (ixS 1 t11 t283).bind fun t284 =>
 (ld1 h t284).bind fun t285 =>
 (Z00 P .sub 3 t285 t19).bind fun t287 =>
 (ixS 1 t11 t270).bind fun t288 =>
 (stN h 1 t288 t287).bind fun h1 =>
 (Z00 P .add 3 t26 (.int .i64 1)).bind fun t257 =>
 some ⟨.normal,[t2,t11,t12,t13,t16,t17,t19,t257],h1,(c+1+1+1),df⟩)
 (some ⟨(.exit 16),[t2,t11,t12,t13,t16,t17,t19,t26],h,(c+1),df⟩)
theorem Z7Z (o:Orc H) (rd:Option Nat) (t2 t11 t12 t13 t16 t17 t19 t26:Value) (h:H) (c:Nat) (df:List Nat):jx P o 294 rd Z9a (Z0f [2,11,12,13,16,17,19,26] [t2,t11,t12,t13,t16,t17,t19,t26]) h c df (Klp [2,11,12,13,16,17,19,26])=Z9j o rd t2 t11 t12 t13 t16 t17 t19 t26 h c df:=by kernel_rfl
noncomputable def Z9l (o:Orc H) (rd:Option Nat) (t2 t11 t12 t13 t16:Value) (h:H) (c:Nat) (df:List Nat):Option (Rt H) :=
 (callF o 63 [t13] h (c+1)).bind fun r0 =>
 (Z00 P .lss 3 t16 r0.1).bind fun t113 =>
 Z07 t113
 ((o (Zcq rd) [t2,t11,t12,t13,t16,(.slice none 0 0),(.int .i64 0)] r0.2.1 (r0.2.2+1+1) df).bind fun r1 =>
 cond (Z0q r1.e (.exit 10))
  ((o (Z98 rd) [r1.v 0,r1.v 1,r1.v 2,r1.v 3,r1.v 4,r1.v 5,(.int .i64 0),(.int .i64 0)] r1.h (r1.c+1+1) r1.df).bind fun r2 =>
  cond (Z0q r2.e (.exit 12))
   ((o (Zco rd) [r2.v 0,r2.v 1,r2.v 2,r2.v 3,r2.v 4,r2.v 5,r2.v 6,(.int .i64 0)] r2.h (r2.c+1) r2.df).bind fun r3 =>
   cond (Z0q r3.e (.exit 16))
    ((Z00 P .add 3 (r3.v 4) (.int .i64 1)).bind fun t115 =>
    some ⟨.normal,[r3.v 0,r3.v 1,r3.v 2,r3.v 3,t115],r3.h,(r3.c+1),r3.df⟩)
    (none))
   (none))
  (none))
 (some ⟨(.exit 8),[t2,t11,t12,t13,t16],r0.2.1,r0.2.2,df⟩)
theorem Z81 (o:Orc H) (rd:Option Nat) (t2 t11 t12 t13 t16:Value) (h:H) (c:Nat) (df:List Nat):jx P o 294 rd Z9e (Z0f [2,11,12,13,16] [t2,t11,t12,t13,t16]) h c df (Klp [2,11,12,13,16])=Z9l o rd t2 t11 t12 t13 t16 h c df:=by kernel_rfl
noncomputable def Zrp (o:Orc H) (t0 t1:Value) (h:H) (c:Nat):Option (Rt H) :=
 (bif (t0:Value).cells.toList.all Z0c then
 (ldN (newB h (256*c+0) (t0:Value).cells.toList) 1 (ptrTo (256*c+0))).bind fun t27 =>
 (callF o 58 [t27] (newB h (256*c+0) (t0:Value).cells.toList) (c+1+1)).bind fun r0 =>
 (Z00 P .neq 27 r0.1 (.int .i64 0)).bind fun t30 =>
 Z07 t30
 (some ⟨.ret,[.tuple #[(.slice none 0 0),r0.1]],r0.2.1,(r0.2.2+1+1),[]⟩)
 ((Z06 (ptrTo (256*c+0)) 0).bind fun t32 =>
 (ld1 r0.2.1 t32).bind fun t33 =>
 (Z0X t33).bind fun t34 =>
 (Z0X t1).bind fun t36 =>
 (Z00 P .mul 3 (.int .i64 3) t34).bind fun t38 =>
 (Z00 P .neq 3 t36 t38).bind fun t39 =>
 Z07 t39
  (some ⟨.ret,[.tuple #[(.slice none 0 0),(.int .i64 1)]],r0.2.1,(r0.2.2+1+1+1+1),[]⟩)
  ((o (Zcu none) [t1,(ptrTo (256*c+0)),(.slice none 0 0),(.int .i64 0),t34,(.int .i64 0)] r0.2.1 (r0.2.2+1+1+1+1) []).bind fun r1 =>
  cond (Z0q r1.e (.exit 0))
   ((Z00 P .mul 3 (.int .i64 7) (r1.v 4)).bind fun t80 =>
   (mkS 1 8 [(.int .i64 0)] t80 t80).bind fun r3 =>
   (Z00 P .mul 3 (.int .i64 4) (r1.v 4)).bind fun t83 =>
   (mkS 1 1 [(.bool false)] t83 t83).bind fun r4 =>
   (ldN (newB (newB r1.h (256*r1.c+2) r3.1) (256*(r1.c+1)+2) r4.1) 1 (r1.v 1)).bind fun t85 =>
   (callF o 62 [t85] (newB (newB r1.h (256*r1.c+2) r3.1) (256*(r1.c+1)+2) r4.1) (r1.c+1+1+1)).bind fun r5 =>
   (o (Z99 none) [r1.v 0,r1.v 1,r1.v 4,(.slice (some ⟨(256*r1.c+2),0,none⟩) r3.2.1 r3.2.2),(.slice (some ⟨(256*(r1.c+1)+2),0,none⟩) r4.2.1 r4.2.2),r5.1,(.int .i64 0)] r5.2.1 (r5.2.2+1) r1.df).bind fun r6 =>
   cond (Z0q r6.e (.exit 4))
    ((o (Zcr none) [r6.v 1,r6.v 3,r6.v 4,r6.v 5,(.int .i64 0)] r6.h (r6.c+1) r6.df).bind fun r7 =>
    cond (Z0q r7.e (.exit 8))
     ((ldN r7.h 1 (r7.v 0)).bind fun t289 =>
     (callF o 61 [t289,r7.v 1] r7.h (r7.c+1)).bind fun r8 =>
     (Z1i .not r8.1).bind fun t292 =>
     Z07 t292
      ((Z0a r8.2.1 r7.df).bind fun h9 =>
      some ⟨.ret,[.tuple #[(.slice none 0 0),(.int .i64 3)]],h9,(r8.2.2+1),[]⟩)
      ((Z0a r8.2.1 r7.df).bind fun h10 =>
      some ⟨.ret,[.tuple #[r7.v 1,(.int .i64 0)]],h10,(r8.2.2+1),[]⟩))
     (none))
    (none))
   (cond (Z0q r1.e .ret)
    ((Z0a r1.h r1.df).bind fun h2 =>
    some ⟨.ret,[.tuple #[r1.v 2,r1.v 3]],h2,r1.c,[]⟩)
    (none))))
 else none)
theorem ZoI (o:Orc H) (t0 t1:Value) (h:H) (c:Nat):jx P o 294 none f37_c (Z0f (List.range 2) [t0,t1]) h c [] (Kfn P Try.f37.results.toList)=Zrp o t0 t1 h c:=by kernel_rfl
theorem f37_go {t0 t1:Value} {h:FH} {c:Nat} {df:List Nat} {r:Rt FH} (e:Zrp G t0 t1 h c=some r):G (.fn 37) [t0,t1] h c df=some r:=Z0d (a:=ZoH) bk_37 rfl (fun args h c=>by cases args <;> rfl) rfl ((ZoI G t0 t1 h c).trans e)
noncomputable def Z97 (o:Orc H) (rd:Option Nat) (t1 t8 t9 t10:Value) (h:H) (c:Nat) (df:List Nat):Option (Rt H) :=
 (Z0X t9).bind fun t27 =>
 (Z00 P .lss 3 t10 t27).bind fun t28 =>
 Z07 t28
 ((ixS 1 t9 t10).bind fun t33 =>
 (stN h 1 t33 (.int .i64 1000000)).bind fun h1 =>
 (Z00 P .add 3 t10 (.int .i64 1)).bind fun t30 =>
 some ⟨.normal,[t1,t8,t9,t30],h1,(c+1+1+1),df⟩)
 (some ⟨(.exit 0),[t1,t8,t9,t10],h,(c+1),df⟩)
theorem Z7Y (o:Orc H) (rd:Option Nat) (t1 t8 t9 t10:Value) (h:H) (c:Nat) (df:List Nat):jx P o 99 rd Z95 (Z0f [1,8,9,10] [t1,t8,t9,t10]) h c df (Klp [1,8,9,10])=Z97 o rd t1 t8 t9 t10 h c df:=by kernel_rfl
noncomputable def Z96 (o:Orc H) (rd:Option Nat) (t1 t8 t9 t11:Value) (h:H) (c:Nat) (df:List Nat):Option (Rt H) :=
 (Z0X t8).bind fun t36 =>
 (Z00 P .lss 3 t11 t36).bind fun t37 =>
 Z07 t37
 ((ixS 1 t8 t11).bind fun t43 =>
 (ld1 h t43).bind fun t44 =>
 (ixS 1 t8 t11).bind fun t48 =>
 (ld1 h t48).bind fun t49 =>
 (ixS 1 t9 t49).bind fun t50 =>
 (ld1 h t50).bind fun t51 =>
 (Z00 P .quo 3 t11 (.int .i64 4)).bind fun t54 =>
 (Z00 P .mul 3 (.int .i64 7) t54).bind fun t55 =>
 (Z00 P .rem 3 t11 (.int .i64 4)).bind fun t57 =>
 (Z00 P .add 3 t55 t57).bind fun t58 =>
 (ixS 1 t1 t58).bind fun t59 =>
 (ld1 h t59).bind fun t60 =>
 (Z28 min2 [t51,t60]).bind fun t61 =>
 (ixS 1 t9 t44).bind fun t62 =>
 (stN h 1 t62 t61).bind fun h1 =>
 (Z00 P .add 3 t11 (.int .i64 1)).bind fun t39 =>
 some ⟨.normal,[t1,t8,t9,t39],h1,(c+1+1+1),df⟩)
 (some ⟨(.exit 2),[t1,t8,t9,t11],h,(c+1),df⟩)
theorem Z7X (o:Orc H) (rd:Option Nat) (t1 t8 t9 t11:Value) (h:H) (c:Nat) (df:List Nat):jx P o 99 rd Z94 (Z0f [1,8,9,11] [t1,t8,t9,t11]) h c df (Klp [1,8,9,11])=Z96 o rd t1 t8 t9 t11 h c df:=by kernel_rfl
noncomputable def Z6L (o:Orc H) (rd:Option Nat) (t8 t9 t12 t13:Value) (h:H) (c:Nat) (df:List Nat):Option (Rt H) :=
 (Z0X t8).bind fun t68 =>
 (Z00 P .lss 3 t13 t68).bind fun t69 =>
 Z07 t69
 ((Z00 P .quo 3 t13 (.int .i64 4)).bind fun t74 =>
 (Z00 P .mul 3 (.int .i64 7) t74).bind fun t75 =>
 (Z00 P .rem 3 t13 (.int .i64 4)).bind fun t77 =>
 (Z00 P .add 3 t75 t77).bind fun t78 =>
 (Z00 P .quo 3 t13 (.int .i64 4)).bind fun t81 =>
 (Z00 P .mul 3 (.int .i64 7) t81).bind fun t82 =>
 (Z00 P .rem 3 t13 (.int .i64 4)).bind fun t84 =>
 (Z00 P .add 3 t82 t84).bind fun t85 =>
 (ixS 1 t12 t85).bind fun t86 =>
 (ld1 h t86).bind fun t87 =>
 (ixS 1 t8 t13).bind fun t91 =>
 (ld1 h t91).bind fun t92 =>
 (ixS 1 t9 t92).bind fun t93 =>
 (ld1 h t93).bind fun t94 =>
 (Z00 P .sub 3 t87 t94).bind fun t95 =>
 (ixS 1 t12 t78).bind fun t96 =>
 (stN h 1 t96 t95).bind fun h1 =>
 (Z00 P .add 3 t13 (.int .i64 1)).bind fun t71 =>
 some ⟨.normal,[t8,t9,t12,t71],h1,(c+1+1+1),df⟩)
 (some ⟨(.exit 4),[t8,t9,t12,t13],h,(c+1),df⟩)
theorem Z5L (o:Orc H) (rd:Option Nat) (t8 t9 t12 t13:Value) (h:H) (c:Nat) (df:List Nat):jx P o 99 rd Z93 (Z0f [8,9,12,13] [t8,t9,t12,t13]) h c df (Klp [8,9,12,13])=Z6L o rd t8 t9 t12 t13 h c df:=by kernel_rfl
noncomputable def Zro (o:Orc H) (t0 t1:Value) (h:H) (c:Nat):Option (Rt H) :=
 (bif (t0:Value).cells.toList.all Z0c then
 (ldN (newB h (256*c+0) (t0:Value).cells.toList) 1 (ptrTo (256*c+0))).bind fun t14 =>
 (callF o 28 [t14,t1] (newB h (256*c+0) (t0:Value).cells.toList) (c+1+1)).bind fun r0 =>
 (Z00 P .neq 27 r0.1 (.int .i64 0)).bind fun t18 =>
 Z07 t18
 (some ⟨.ret,[.tuple #[(.slice none 0 0),(.slice none 0 0),r0.1]],r0.2.1,(r0.2.2+1+1),[]⟩)
 ((ldN r0.2.1 1 (ptrTo (256*c+0))).bind fun t20 =>
 (callF o 62 [t20] r0.2.1 (r0.2.2+1+1)).bind fun r1 =>
 (callF o 63 [r1.1] r1.2.1 (r1.2.2+1)).bind fun r2 =>
 (mkS 1 8 [(.int .i64 0)] r2.1 r2.1).bind fun r3 =>
 (o (Zcn none) [t1,r1.1,(.slice (some ⟨(256*r1.2.2+2),0,none⟩) r3.2.1 r3.2.2),(.int .i64 0)] (newB r2.2.1 (256*r1.2.2+2) r3.1) (r2.2.2+1) []).bind fun r4 =>
 cond (Z0q r4.e (.exit 0))
  ((o (Zcm none) [r4.v 0,r4.v 1,r4.v 2,(.int .i64 0)] r4.h (r4.c+1) r4.df).bind fun r5 =>
  cond (Z0q r5.e (.exit 2))
   ((Z2T [] []).bind fun r6 =>
   (Z7q (newB r5.h (256*r5.c+0) r6) (256*r5.c+2) 1 8 (.slice (some ⟨(256*r5.c+0),0,none⟩) 0 0) (r5.v 0)).bind fun r7 =>
   (o (Z92 none) [r5.v 1,r5.v 2,r7.1,(.int .i64 0)] r7.2 (r5.c+1+1) r5.df).bind fun r8 =>
   cond (Z0q r8.e (.exit 4))
    ((Z0a r8.h r8.df).bind fun h9 =>
    some ⟨.ret,[.tuple #[r8.v 1,r8.v 2,(.int .i64 0)]],h9,(r8.c+1),[]⟩)
    (none))
   (none))
  (none))
 else none)
theorem ZoG (o:Orc H) (t0 t1:Value) (h:H) (c:Nat):jx P o 99 none f38_c (Z0f (List.range 2) [t0,t1]) h c [] (Kfn P Try.f38.results.toList)=Zro o t0 t1 h c:=by kernel_rfl
theorem f38_go {t0 t1:Value} {h:FH} {c:Nat} {df:List Nat} {r:Rt FH} (e:Zro G t0 t1 h c=some r):G (.fn 38) [t0,t1] h c df=some r:=Z0d (a:=ZoF) bk_38 rfl (fun args h c=>by cases args <;> rfl) rfl ((ZoG G t0 t1 h c).trans e)

variable {H:Type} [HeapC H]
noncomputable def Z8Z (o:Orc H) (rd:Option Nat) (t2 t3 t4 t5 t7 t8 t9 t10 t11 t14:Value) (h:H) (c:Nat) (df:List Nat):Option (Rt H) :=
 (Z00 P .lss 3 t14 (.int .i64 4)).bind fun t92 =>
 Z07 t92
 ((Z00 P .add 3 t8 (.int .i64 1)).bind fun t97 =>
 (ixS 1 t4 t97).bind fun t98 =>
 (ld1 h t98).bind fun t99 =>
 (ZiN t99 t14).bind fun t101 =>
 (Z00 P .lss 5 t101 (.int .u8 48)).bind fun t103 =>
 (gd t103 false h (c+1+1+1) (some t101)).bind fun r0 =>
 (gd t103 false r0.2.1 r0.2.2 (Z00 P .gtr 5 r0.1 (.int .u8 57))).bind fun r1 =>
 (Z0D t103 (.bool true) r1.1).bind fun t107 =>
 Z07 t107
  ((Z4w [(.slice none 0 0)] []).bind fun t108 =>
  (stN r1.2.1 1 t2 t108).bind fun h3 =>
  some ⟨.ret,[t2,(.int .i64 4),t4,t5,t7,t8,t9,t10,t11,t14],h3,(r1.2.2+1),df⟩)
  ((Z00 P .sub 5 t101 (.int .u8 48)).bind fun t112 =>
  (cnvI .i64 t112).bind fun t113 =>
  (ixA 4 5 t10 t11).bind fun t114 =>
  (Z06 t114 1).bind fun t115 =>
  (ixA 4 1 t115 t14).bind fun t116 =>
  (stN r1.2.1 1 t116 t113).bind fun h6 =>
  (Z00 P .add 3 t14 (.int .i64 1)).bind fun t94 =>
  some ⟨.normal,[t2,t3,t4,t5,t7,t8,t9,t10,t11,t94],h6,(r1.2.2+1+1),df⟩))
 (some ⟨(.exit 4),[t2,t3,t4,t5,t7,t8,t9,t10,t11,t14],h,(c+1),df⟩)
theorem ZdJ (o:Orc H) (rd:Option Nat) (t2 t3 t4 t5 t7 t8 t9 t10 t11 t14:Value) (h:H) (c:Nat) (df:List Nat):jx P o 135 rd Z3I (Z0f [2,3,4,5,7,8,9,10,11,14] [t2,t3,t4,t5,t7,t8,t9,t10,t11,t14]) h c df (Klp [2,3,4,5,7,8,9,10,11,14])=Z8Z o rd t2 t3 t4 t5 t7 t8 t9 t10 t11 t14 h c df:=by kernel_rfl
noncomputable def Z90 (o:Orc H) (rd:Option Nat) (t2 t3 t4 t5 t7 t8 t9 t10 t11:Value) (h:H) (c:Nat) (df:List Nat):Option (Rt H) :=
 (Z00 P .lss 3 t11 (.int .i64 4)).bind fun t42 =>
 Z07 t42
 (((Z0X t4).bind fun t47 =>
  (Z00 P .geq 3 t8 t47).bind fun t48 =>
  Z07 t48
   ((Z4w [(.slice none 0 0)] []).bind fun t49 =>
   (stN h 1 t2 t49).bind fun h1 =>
   some ⟨.ret,[t2,(.int .i64 4),t4,t5,t7,t8,t9,t10,t11],h1,(c+1+1+1),df⟩)
   ((ixS 1 t4 t8).bind fun t52 =>
   (ld1 h t52).bind fun t53 =>
   (Z00 P .eql 9 t53 (.string (ByteArray.mk #[45]))).bind fun t54 =>
   Z07 t54
    ((ixA 4 5 t10 t11).bind fun t56 =>
    (Z06 t56 0).bind fun t57 =>
    (stN h 1 t57 (.int .i64 (-1))).bind fun h4 =>
    (Z00 P .add 3 t8 (.int .i64 1)).bind fun t59 =>
    some ⟨.normal,[t2,t3,t4,t5,t7,t59,t9,t10,t11],h4,(c+1+1+1+1+1),df⟩)
    ((ixS 1 t4 t8).bind fun t63 =>
    (ld1 h t63).bind fun t64 =>
    (callF o 69 [t64] h (c+1+1+1+1)).bind fun r6 =>
    (Z23 r6.1 0).bind fun t66 =>
    (Z23 r6.1 1).bind fun t67 =>
    (Z1i .not t67).bind fun t69 =>
    (gd t69 false r6.2.1 (r6.2.2+1) (some t8)).bind fun r7 =>
    (gd t69 false r7.2.1 r7.2.2 (Z00 P .add 3 r7.1 (.int .i64 1))).bind fun r8 =>
    (gd t69 false r8.2.1 r8.2.2 (some t4)).bind fun r9 =>
    (gg t69 false r9.2.1 r9.2.2 (((Z0X r9.1).bind fun v=>some (v,r9.2.1)).bind fun r=>some (r.1,r.2,r9.2.2))).bind fun r10 =>
    (gd t69 false r10.2.1 r10.2.2 (Z00 P .geq 3 r8.1 r10.1)).bind fun r11 =>
    (Z0D t69 (.bool true) r11.1).bind fun t76 =>
    (gd t76 false r11.2.1 r11.2.2 (some t4)).bind fun r12 =>
    (gd t76 false r12.2.1 r12.2.2 (some t8)).bind fun r13 =>
    (gd t76 false r13.2.1 r13.2.2 (Z00 P .add 3 r13.1 (.int .i64 1))).bind fun r14 =>
    (gd t76 false r14.2.1 r14.2.2 (ixS 1 r12.1 r14.1)).bind fun r15 =>
    (gd t76 false r15.2.1 r15.2.2 (ld1 r15.2.1 r15.1)).bind fun r16 =>
    (gg t76 false r16.2.1 r16.2.2 (((ZjJ P r16.2.1 9 r16.1).bind fun v=>some (v,r16.2.1)).bind fun r=>some (r.1,r.2,r16.2.2))).bind fun r17 =>
    (gd t76 false r17.2.1 r17.2.2 (Z00 P .neq 3 r17.1 (.int .i64 4))).bind fun r18 =>
    (Z0D t76 (.bool true) r18.1).bind fun t85 =>
    Z07 t85
     ((Z4w [(.slice none 0 0)] []).bind fun t86 =>
     (stN r18.2.1 1 t2 t86).bind fun h20 =>
     some ⟨.ret,[t2,(.int .i64 4),t4,t5,t7,t8,t9,t10,t11],h20,(r18.2.2+1),df⟩)
     ((ixA 4 5 t10 t11).bind fun t89 =>
     (Z06 t89 0).bind fun t90 =>
     (stN r18.2.1 1 t90 t66).bind fun h23 =>
     (o (Zjj rd) [t2,t3,t4,t5,t7,t8,t9,t10,t11,(.int .i64 0)] h23 (r18.2.2+1+1) df).bind fun r24 =>
     cond (Z0q r24.e (.exit 4))
      ((Z00 P .add 3 (r24.v 5) (.int .i64 2)).bind fun t118 =>
      some ⟨.normal,[r24.v 0,r24.v 1,r24.v 2,r24.v 3,r24.v 4,t118,r24.v 6,r24.v 7,r24.v 8],r24.h,(r24.c+1),r24.df⟩)
      (cond (Z0q r24.e .ret)
       (some ⟨.ret,[r24.v 0,r24.v 1,r24.v 2,r24.v 3,r24.v 4,r24.v 5,r24.v 6,r24.v 7,r24.v 8],r24.h,r24.c,r24.df⟩)
       (none))))):Option (Rt H)).bind fun r26 =>
 cond (Z0q r26.e .ret)
  (some ⟨.ret,[r26.v 0,r26.v 1,r26.v 2,r26.v 3,r26.v 4,r26.v 5,r26.v 6,r26.v 7,r26.v 8],r26.h,r26.c,r26.df⟩)
  (cond (Z0q r26.e .normal)
   ((Z00 P .add 3 (r26.v 8) (.int .i64 1)).bind fun t44 =>
   some ⟨.normal,[r26.v 0,r26.v 1,r26.v 2,r26.v 3,r26.v 4,r26.v 5,r26.v 6,r26.v 7,t44],r26.h,(r26.c+1),r26.df⟩)
   (none)))
 (some ⟨(.exit 2),[t2,t3,t4,t5,t7,t8,t9,t10,t11],h,(c+1),df⟩)
theorem ZdK (o:Orc H) (rd:Option Nat) (t2 t3 t4 t5 t7 t8 t9 t10 t11:Value) (h:H) (c:Nat) (df:List Nat):jx P o 135 rd Z3J (Z0f [2,3,4,5,7,8,9,10,11] [t2,t3,t4,t5,t7,t8,t9,t10,t11]) h c df (Klp [2,3,4,5,7,8,9,10,11])=Z90 o rd t2 t3 t4 t5 t7 t8 t9 t10 t11 h c df:=by kernel_rfl
noncomputable def Z91 (o:Orc H) (rd:Option Nat) (t2 t3 t4 t5 t7 t8 t9:Value) (h:H) (c:Nat) (df:List Nat):Option (Rt H) :=
 (Z00 P .lss 3 t9 t5).bind fun t38 =>
 Z07 t38
 ((o (Zjk rd) [t2,t3,t4,t5,t7,t8,t9,(ptrTo (256*(c+1)+0)),(.int .i64 0)] (newB h (256*(c+1)+0) [(.int .i64 0),(.int .i64 0),(.int .i64 0),(.int .i64 0),(.int .i64 0),(.int .i64 0),(.int .i64 0),(.int .i64 0),(.int .i64 0),(.int .i64 0),(.int .i64 0),(.int .i64 0),(.int .i64 0),(.int .i64 0),(.int .i64 0),(.int .i64 0),(.int .i64 0),(.int .i64 0),(.int .i64 0),(.int .i64 0)]) (c+1+1+1) df).bind fun r0 =>
 cond (Z0q r0.e (.exit 2))
  ((Z06 (r0.v 4) 0).bind fun t119 =>
  (ld1 r0.h t119).bind fun t120 =>
  (ldN r0.h 20 (r0.v 7)).bind fun t121 =>
  (Z2T [(.int .i64 0),(.int .i64 0),(.int .i64 0),(.int .i64 0),(.int .i64 0),(.int .i64 0),(.int .i64 0),(.int .i64 0),(.int .i64 0),(.int .i64 0),(.int .i64 0),(.int .i64 0),(.int .i64 0),(.int .i64 0),(.int .i64 0),(.int .i64 0),(.int .i64 0),(.int .i64 0),(.int .i64 0),(.int .i64 0)] [(0,20,t121)]).bind fun r1 =>
  (Z7q (newB r0.h (256*r0.c+3) r1) (256*r0.c+4) 20 160 t120 (.slice (some ⟨(256*r0.c+3),0,none⟩) 1 1)).bind fun r2 =>
  (Z06 (r0.v 4) 0).bind fun t124 =>
  (stN r2.2 1 t124 r2.1).bind fun h4 =>
  (Z00 P .add 3 (r0.v 6) (.int .i64 1)).bind fun t40 =>
  some ⟨.normal,[r0.v 0,r0.v 1,r0.v 2,r0.v 3,r0.v 4,r0.v 5,t40],h4,(r0.c+1+1),r0.df⟩)
  (cond (Z0q r0.e .ret)
   (some ⟨.ret,[r0.v 0,r0.v 1,r0.v 2,r0.v 3,r0.v 4,r0.v 5,r0.v 6],r0.h,r0.c,r0.df⟩)
   (none)))
 (some ⟨(.exit 0),[t2,t3,t4,t5,t7,t8,t9],h,(c+1),df⟩)
theorem ZdL (o:Orc H) (rd:Option Nat) (t2 t3 t4 t5 t7 t8 t9:Value) (h:H) (c:Nat) (df:List Nat):jx P o 135 rd Z3K (Z0f [2,3,4,5,7,8,9] [t2,t3,t4,t5,t7,t8,t9]) h c df (Klp [2,3,4,5,7,8,9])=Z91 o rd t2 t3 t4 t5 t7 t8 t9 h c df:=by kernel_rfl
noncomputable def Zrn (o:Orc H) (t0:Value) (h:H) (c:Nat):Option (Rt H) :=
 (ZjJ P (newB h (256*c+0) [(.slice none 0 0)]) 9 t0).bind fun t17 =>
 (Z00 P .gtr 3 t17 (.int .i64 200000)).bind fun t18 =>
 Z07 t18
 ((Z4w [(.slice none 0 0)] []).bind fun t19 =>
 (stN (newB h (256*c+0) [(.slice none 0 0)]) 1 (ptrTo (256*c+0)) t19).bind fun h1 =>
 (ldN h1 1 (ptrTo (256*c+0))).bind fun v2 =>
 some ⟨.ret,[.tuple #[v2,(.int .i64 2)]],h1,(c+1+1+1),[]⟩)
 ((callF o 68 [t0] (newB h (256*c+0) [(.slice none 0 0)]) (c+1+1+1)).bind fun r3 =>
 (Z0X r3.1).bind fun t23 =>
 (Z00 P .eql 3 t23 (.int .i64 0)).bind fun t24 =>
 Z07 t24
  ((Z4w [(.slice none 0 0)] []).bind fun t25 =>
  (stN r3.2.1 1 (ptrTo (256*c+0)) t25).bind fun h5 =>
  (ldN h5 1 (ptrTo (256*c+0))).bind fun v6 =>
  some ⟨.ret,[.tuple #[v6,(.int .i64 4)]],h5,(r3.2.2+1+1),[]⟩)
  ((ixS 1 r3.1 (.int .i64 0)).bind fun t28 =>
  (ld1 r3.2.1 t28).bind fun t29 =>
  (callF o 69 [t29] r3.2.1 (r3.2.2+1+1)).bind fun r7 =>
  (Z23 r7.1 0).bind fun t31 =>
  (Z23 r7.1 1).bind fun t32 =>
  (Z1i .not t32).bind fun t34 =>
  Z07 t34
   ((Z4w [(.slice none 0 0)] []).bind fun t35 =>
   (stN r7.2.1 1 (ptrTo (256*c+0)) t35).bind fun h9 =>
   (ldN h9 1 (ptrTo (256*c+0))).bind fun v10 =>
   some ⟨.ret,[.tuple #[v10,(.int .i64 4)]],h9,(r7.2.2+1+1),[]⟩)
   ((o (Zjl none) [(ptrTo (256*c+0)),(.int .i64 0),r3.1,t31,(ptrTo (256*(r7.2.2+1)+0)),(.int .i64 1),(.int .i64 0)] (newB r7.2.1 (256*(r7.2.2+1)+0) [(.slice none 0 0)]) (r7.2.2+1+1+1+1) []).bind fun r11 =>
   cond (Z0q r11.e (.exit 0))
    ((Z0X (r11.v 2)).bind fun t127 =>
    (Z00 P .neq 3 (r11.v 5) t127).bind fun t128 =>
    Z07 t128
     ((Z4w [(.slice none 0 0)] []).bind fun t129 =>
     (stN r11.h 1 (r11.v 0) t129).bind fun h15 =>
     (Z0a h15 r11.df).bind fun h16 =>
     (ldN h16 1 (r11.v 0)).bind fun v17 =>
     some ⟨.ret,[.tuple #[v17,(.int .i64 4)]],h16,(r11.c+1+1),[]⟩)
     ((ldN r11.h 1 (r11.v 4)).bind fun t130 =>
     (callF o 13 [t130] r11.h (r11.c+1+1)).bind fun r18 =>
     (Z00 P .neq 27 r18.1 (.int .i64 0)).bind fun t132 =>
     Z07 t132
      ((Z4w [(.slice none 0 0)] []).bind fun t133 =>
      (stN r18.2.1 1 (r11.v 0) t133).bind fun h20 =>
      (Z0a h20 r11.df).bind fun h21 =>
      (ldN h21 1 (r11.v 0)).bind fun v22 =>
      some ⟨.ret,[.tuple #[v22,(.int .i64 7)]],h21,(r18.2.2+1),[]⟩)
      ((ldN r18.2.1 1 (r11.v 4)).bind fun t134 =>
      (stN r18.2.1 1 (r11.v 0) t134).bind fun h24 =>
      (Z0a h24 r11.df).bind fun h25 =>
      (ldN h25 1 (r11.v 0)).bind fun v26 =>
      some ⟨.ret,[.tuple #[v26,(.int .i64 0)]],h25,(r18.2.2+1),[]⟩)))
    (cond (Z0q r11.e .ret)
     ((Z0a r11.h r11.df).bind fun h12 =>
     (ldN h12 1 (r11.v 0)).bind fun v13 =>
     some ⟨.ret,[.tuple #[v13,r11.v 1]],h12,r11.c,[]⟩)
     (none)))))
theorem ZoE (o:Orc H) (t0:Value) (h:H) (c:Nat):jx P o 135 none f40_c (Z0f (List.range 1) [t0]) h c [] (Kfn P Try.f40.results.toList)=Zrn o t0 h c:=by kernel_rfl
noncomputable def Z1p (o:Orc H) (rd:Option Nat) (t1 t2 t3 t4:Value) (h:H) (c:Nat) (df:List Nat):Option (Rt H) :=
 (Z00 P .lss 3 t4 (.int .i64 4)).bind fun t6 =>
 Z07 t6
 ((ixA 4 1 t1 t4).bind fun t10 =>
 (ld1 h t10).bind fun t11 =>
 (Z00 P .lss 3 t11 (.int .i64 0)).bind fun t12 =>
 (gd t12 false h (c+1+1) (some t4)).bind fun r0 =>
 (gd t12 false r0.2.1 r0.2.2 (ixA 4 1 t1 r0.1)).bind fun r1 =>
 (gd t12 false r1.2.1 r1.2.2 (ld1 r1.2.1 r1.1)).bind fun r2 =>
 (gd t12 false r2.2.1 r2.2.2 (Z00 P .gtr 3 r2.1 (.int .i64 3))).bind fun r3 =>
 (Z0D t12 (.bool true) r3.1).bind fun t18 =>
 (gd t18 false r3.2.1 r3.2.2 (some t4)).bind fun r4 =>
 (gd t18 false r4.2.1 r4.2.2 (ixA 4 1 t1 r4.1)).bind fun r5 =>
 (gd t18 false r5.2.1 r5.2.2 (ld1 r5.2.1 r5.1)).bind fun r6 =>
 (gd t18 false r6.2.1 r6.2.2 (ixA 4 1 t3 r6.1)).bind fun r7 =>
 (gd t18 false r7.2.1 r7.2.2 (ld1 r7.2.1 r7.1)).bind fun r8 =>
 (Z0D t18 (.bool true) r8.1).bind fun t25 =>
 Z07 t25
  (some ⟨.ret,[t1,(.bool false),t3,t4],r8.2.1,(r8.2.2+1),df⟩)
  ((ixA 4 1 t1 t4).bind fun t27 =>
  (ld1 r8.2.1 t27).bind fun t28 =>
  (ixA 4 1 t3 t28).bind fun t29 =>
  (stN r8.2.1 1 t29 (.bool true)).bind fun h11 =>
  (Z00 P .add 3 t4 (.int .i64 1)).bind fun t8 =>
  some ⟨.normal,[t1,t2,t3,t8],h11,(r8.2.2+1+1),df⟩))
 (some ⟨(.exit 0),[t1,t2,t3,t4],h,(c+1),df⟩)
theorem Z5K (o:Orc H) (rd:Option Nat) (t1 t2 t3 t4:Value) (h:H) (c:Nat) (df:List Nat):jx P o 30 rd Z3H (Z0f [1,2,3,4] [t1,t2,t3,t4]) h c df (Klp [1,2,3,4])=Z1p o rd t1 t2 t3 t4 h c df:=by kernel_rfl
noncomputable def Zll (o:Orc H) (t0:Value) (h:H) (c:Nat):Option (Rt H) :=
 (bif (t0:Value).cells.toList.all Z0c then
 (o (Z4Z none) [(ptrTo (256*c+0)),(.bool false),(ptrTo (256*(c+1)+0)),(.int .i64 0)] (newB (newB h (256*c+0) (t0:Value).cells.toList) (256*(c+1)+0) [(.bool false),(.bool false),(.bool false),(.bool false)]) (c+1+1+1) []).bind fun r0 =>
 cond (Z0q r0.e (.exit 0))
 ((Z0a r0.h r0.df).bind fun h2 =>
 some ⟨.ret,[(.bool true)],h2,(r0.c+1),[]⟩)
 (cond (Z0q r0.e .ret)
  ((Z0a r0.h r0.df).bind fun h1 =>
  some ⟨.ret,[r0.v 1],h1,r0.c,[]⟩)
  (none))
 else none)
theorem Zi8 (o:Orc H) (t0:Value) (h:H) (c:Nat):jx P o 30 none f41_c (Z0f (List.range 1) [t0]) h c [] (Kfn P Try.f41.results.toList)=Zll o t0 h c:=by kernel_rfl
theorem f41_go {t0:Value} {h:FH} {c:Nat} {df:List Nat} {r:Rt FH} (e:Zll G t0 h c=some r):G (.fn 41) [t0] h c df=some (gcR h c [] r):=Z0d (a:=Zg0) bk_41 rfl (fun args h c=>by cases args <;> rfl) rfl ((Zi8 G t0 h c).trans e)
theorem Zji {rd:Option Nat} {t1 t2 t3 t4:Value} {h:FH} {c:Nat} {df:List Nat} {q r:Rt FH} (e:Z1p G rd t1 t2 t3 t4 h c df=some q) (hq:q.e = .normal) (k:G (Z4Z rd) q.vs (gcR h c df q).h (gcR h c df q).c q.df=some r):G (Z4Z rd) [t1,t2,t3,t4] h c df=some r:=Z0R ((Z5K G rd t1 t2 t3 t4 h c df).trans e) hq k
theorem Z6K {rd:Option Nat} {t1 t2 t3 t4:Value} {h:FH} {c:Nat} {df:List Nat} {q:Rt FH} (e:Z1p G rd t1 t2 t3 t4 h c df=some q) (hq:q.e ≠ .normal):G (Z4Z rd) [t1,t2,t3,t4] h c df=some (gcR h c df q):=Z0S ((Z5K G rd t1 t2 t3 t4 h c df).trans e) hq
noncomputable def Z2v (o:Orc H) (rd:Option Nat) (t1 t2 t3 t4:Value) (h:H) (c:Nat) (df:List Nat):Option (Rt H) :=
 (Z00 P .lss 3 t4 (.int .i64 4)).bind fun t10 =>
 Z07 t10
 ((ixA 4 1 t1 t4).bind fun t14 =>
 (ld1 h t14).bind fun t15 =>
 (ixA 4 1 t3 t15).bind fun t17 =>
 (stN h 1 t17 t4).bind fun h1 =>
 (Z00 P .add 3 t4 (.int .i64 1)).bind fun t12 =>
 some ⟨.normal,[t1,t2,t3,t12],h1,(c+1+1+1),df⟩)
 (some ⟨(.exit 0),[t1,t2,t3,t4],h,(c+1),df⟩)
theorem Z5J (o:Orc H) (rd:Option Nat) (t1 t2 t3 t4:Value) (h:H) (c:Nat) (df:List Nat):jx P o 19 rd Z3G (Z0f [1,2,3,4] [t1,t2,t3,t4]) h c df (Klp [1,2,3,4])=Z2v o rd t1 t2 t3 t4 h c df:=by kernel_rfl
noncomputable def Zlk (o:Orc H) (t0:Value) (h:H) (c:Nat):Option (Rt H) :=
 (bif (t0:Value).cells.toList.all Z0c then
 (ldN (newB (newB (newB h (256*c+0) (t0:Value).cells.toList) (256*c+1) [(.int .i64 0),(.int .i64 0),(.int .i64 0),(.int .i64 0)]) (256*(c+1)+0) [(.int .i64 0),(.int .i64 0),(.int .i64 0),(.int .i64 0)]) 4 (ptrTo (256*c+0))).bind fun t5 =>
 (callF o 41 [t5] (newB (newB (newB h (256*c+0) (t0:Value).cells.toList) (256*c+1) [(.int .i64 0),(.int .i64 0),(.int .i64 0),(.int .i64 0)]) (256*(c+1)+0) [(.int .i64 0),(.int .i64 0),(.int .i64 0),(.int .i64 0)]) (c+1+1+1)).bind fun r0 =>
 (Z1i .not r0.1).bind fun t7 =>
 Z07 t7
 ((ldN r0.2.1 4 (ptrTo (256*(c+1)+0))).bind fun t8 =>
 (stN r0.2.1 4 (ptrTo (256*c+1)) t8).bind fun h2 =>
 (ldN h2 4 (ptrTo (256*c+1))).bind fun v3 =>
 some ⟨.ret,[v3],h2,(r0.2.2+1),[]⟩)
 ((o (Z4Y none) [(ptrTo (256*c+0)),(ptrTo (256*c+1)),(ptrTo (256*(c+1)+0)),(.int .i64 0)] r0.2.1 (r0.2.2+1) []).bind fun r4 =>
 cond (Z0q r4.e (.exit 0))
  ((ldN r4.h 4 (r4.v 2)).bind fun t18 =>
  (stN r4.h 4 (r4.v 1) t18).bind fun h6 =>
  (Z0a h6 r4.df).bind fun h7 =>
  (ldN h7 4 (r4.v 1)).bind fun v8 =>
  some ⟨.ret,[v8],h7,(r4.c+1),[]⟩)
  (none))
 else none)
theorem Zi7 (o:Orc H) (t0:Value) (h:H) (c:Nat):jx P o 19 none f42_c (Z0f (List.range 1) [t0]) h c [] (Kfn P Try.f42.results.toList)=Zlk o t0 h c:=by kernel_rfl
theorem f42_go {t0:Value} {h:FH} {c:Nat} {df:List Nat} {r:Rt FH} (e:Zlk G t0 h c=some r):G (.fn 42) [t0] h c df=some (gcR h c [] r):=Z0d (a:=ZfZ) bk_42 rfl (fun args h c=>by cases args <;> rfl) rfl ((Zi7 G t0 h c).trans e)
theorem Zjh {rd:Option Nat} {t1 t2 t3 t4:Value} {h:FH} {c:Nat} {df:List Nat} {q r:Rt FH} (e:Z2v G rd t1 t2 t3 t4 h c df=some q) (hq:q.e = .normal) (k:G (Z4Y rd) q.vs (gcR h c df q).h (gcR h c df q).c q.df=some r):G (Z4Y rd) [t1,t2,t3,t4] h c df=some r:=Z0R ((Z5J G rd t1 t2 t3 t4 h c df).trans e) hq k
theorem Zjg {rd:Option Nat} {t1 t2 t3 t4:Value} {h:FH} {c:Nat} {df:List Nat} {q:Rt FH} (e:Z2v G rd t1 t2 t3 t4 h c df=some q) (hq:q.e ≠ .normal):G (Z4Y rd) [t1,t2,t3,t4] h c df=some (gcR h c df q):=Z0S ((Z5J G rd t1 t2 t3 t4 h c df).trans e) hq
noncomputable def Zlj (o:Orc H) (t0:Value) (h:H) (c:Nat):Option (Rt H) :=
 (bif (t0:Value).cells.toList.all Z0c then
 (ldN (newB h (256*c+0) (t0:Value).cells.toList) 1 (ptrTo (256*c+0))).bind fun t4 =>
 (callF o 70 [t4] (newB h (256*c+0) (t0:Value).cells.toList) (c+1+1)).bind fun r0 =>
 (Z00 P .neq 27 r0.1 (.int .i64 0)).bind fun t6 =>
 Z07 t6
 (some ⟨.ret,[(.int .i64 7)],r0.2.1,(r0.2.2+1),[]⟩)
 ((Z06 (ptrTo (256*c+0)) 0).bind fun t8 =>
 (ld1 r0.2.1 t8).bind fun t9 =>
 (Z0X t9).bind fun t10 =>
 (Z00 P .gtr 3 t10 (.int .i64 60)).bind fun t11 =>
 Z07 t11
  (some ⟨.ret,[(.int .i64 2)],r0.2.1,(r0.2.2+1+1),[]⟩)
  (some ⟨.ret,[(.int .i64 0)],r0.2.1,(r0.2.2+1+1),[]⟩))
 else none)
theorem Zi6 (o:Orc H) (t0:Value) (h:H) (c:Nat):jx P o 12 none f43_c (Z0f (List.range 1) [t0]) h c [] (Kfn P Try.f43.results.toList)=Zlj o t0 h c:=by kernel_rfl
theorem f43_go {t0:Value} {h:FH} {c:Nat} {df:List Nat} {r:Rt FH} (e:Zlj G t0 h c=some r):G (.fn 43) [t0] h c df=some (gcR h c [] r):=Z0d (a:=ZfX) bk_43 rfl (fun args h c=>by cases args <;> rfl) rfl ((Zi6 G t0 h c).trans e)
noncomputable def Z2u (o:Orc H) (rd:Option Nat) (t6 t7 t8 t52:Value) (h:H) (c:Nat) (df:List Nat):Option (Rt H) :=
 (Z00 P .lss 3 t52 (.int .i64 4)).bind fun t53 =>
 Z07 t53
 ((Z06 t7 1).bind fun t56 =>
 (ld1 h t56).bind fun t57 =>
 (Z00 P .neq 3 t52 t57).bind fun t58 =>
 (gd t58 true h (c+1+1+1) (some t52)).bind fun r0 =>
 (gd t58 true r0.2.1 r0.2.2 (Z06 t7 2)).bind fun r1 =>
 (gd t58 true r1.2.1 r1.2.2 (ld1 r1.2.1 r1.1)).bind fun r2 =>
 (gd t58 true r2.2.1 r2.2.2 (Z00 P .neq 3 r0.1 r2.1)).bind fun r3 =>
 (Z0D t58 r3.1 (.bool false)).bind fun t64 =>
 (Z07 t64
  ((ld1 r3.2.1 t6).bind fun t65 =>
  (Z0z t65).bind fun t66 =>
  (Z06 t66 0).bind fun t67 =>
  (Z06 t7 0).bind fun t68 =>
  (ld1 r3.2.1 t68).bind fun t69 =>
  (Z00 P .mul 3 (.int .i64 6) t69).bind fun t70 =>
  (Z06 t7 2).bind fun t71 =>
  (ld1 r3.2.1 t71).bind fun t72 =>
  (callF o 73 [t72,t52] r3.2.1 (r3.2.2+1)).bind fun r4 =>
  (Z00 P .add 3 t70 r4.1).bind fun t75 =>
  (Z06 t7 3).bind fun t76 =>
  (ld1 r4.2.1 t76).bind fun t77 =>
  (Z00 P .mul 3 (.int .i64 6) t77).bind fun t78 =>
  (Z06 t7 2).bind fun t79 =>
  (ld1 r4.2.1 t79).bind fun t80 =>
  (ixA 4 1 t8 t80).bind fun t81 =>
  (ld1 r4.2.1 t81).bind fun t82 =>
  (ixA 4 1 t8 t52).bind fun t84 =>
  (ld1 r4.2.1 t84).bind fun t85 =>
  (callF o 73 [t82,t85] r4.2.1 r4.2.2).bind fun r5 =>
  (Z00 P .add 3 t78 r5.1).bind fun t87 =>
  (callF o 72 [t67,t75,t87] r5.2.1 r5.2.2).bind fun r6 =>
  (bif (Z18 (Z2G t6) r3.2.1 r4.2.1 && (Z18 (Z2G t6) r4.2.1 r5.2.1 && (Z18 (Z2G t68) r3.2.1 r4.2.1 && (Z18 (Z2G t68) r4.2.1 r5.2.1 && (Z18 (Z2G t76) r3.2.1 r4.2.1 && (Z18 (Z2G t76) r4.2.1 r5.2.1 && (Z18 (Z2G t79) r3.2.1 r4.2.1 && (Z18 (Z2G t81) r3.2.1 r4.2.1 && (Z18 (Z2G t84) r3.2.1 r4.2.1 && true))))))))) then
  some ⟨.normal,[t6,t7,t8,t52],r6.2.1,r6.2.2,df⟩
  else none))
  (some ⟨.normal,[t6,t7,t8,t52],r3.2.1,r3.2.2,df⟩):Option (Rt H)).bind fun r7 =>
 cond (Z0q r7.e .normal)
  ((Z00 P .add 3 (r7.v 3) (.int .i64 1)).bind fun t89 =>
  some ⟨.normal,[r7.v 0,r7.v 1,r7.v 2,t89],r7.h,(r7.c+1),r7.df⟩)
  (none))
 (some ⟨(.exit 2),[t6,t7,t8,t52],h,(c+1),df⟩)
theorem Z2b (o:Orc H) (rd:Option Nat) (t6 t7 t8 t52:Value) (h:H) (c:Nat) (df:List Nat):jx P o 92 rd Z3E (Z0f [6,7,8,52] [t6,t7,t8,t52]) h c df (Klp [6,7,8,52])=Z2u o rd t6 t7 t8 t52 h c df:=by kernel_rfl
noncomputable def Z3F (o:Orc H) (l:Nat) (t25 t1 t5 t6:Value) (h:H) (c:Nat):Option (Rt H) :=
 (stN (newB h (256*c+0) [(.int .i64 0),(.int .i64 0),(.int .i64 0),(.int .i64 0),(.int .i64 0),(.int .i64 0)]) 6 (ptrTo (256*c+0)) t25).bind fun h1 =>
 (Z2f h1 l).bind fun h2 =>
 (ld1 h2 t5).bind fun t26 =>
 (Z0z t26).bind fun t27 =>
 (Z06 t27 0).bind fun t28 =>
 (Z06 (ptrTo (256*c+0)) 0).bind fun t29 =>
 (ld1 h2 t29).bind fun t30 =>
 (Z00 P .mul 3 (.int .i64 4) t30).bind fun t31 =>
 (Z06 (ptrTo (256*c+0)) 2).bind fun t32 =>
 (ld1 h2 t32).bind fun t33 =>
 (Z00 P .add 3 t31 t33).bind fun t34 =>
 (Z06 (ptrTo (256*c+0)) 3).bind fun t35 =>
 (ld1 h2 t35).bind fun t36 =>
 (Z00 P .mul 3 (.int .i64 4) t36).bind fun t37 =>
 (Z06 (ptrTo (256*c+0)) 5).bind fun t38 =>
 (ld1 h2 t38).bind fun t39 =>
 (Z00 P .add 3 t37 t39).bind fun t40 =>
 (callF o 72 [t28,t34,t40] h2 (c+1+1)).bind fun r3 =>
 (Z06 t1 0).bind fun t42 =>
 (ld1 r3.2.1 t42).bind fun t43 =>
 (Z06 (ptrTo (256*c+0)) 0).bind fun t44 =>
 (ld1 r3.2.1 t44).bind fun t45 =>
 (Z06 (ptrTo (256*c+0)) 1).bind fun t46 =>
 (ld1 r3.2.1 t46).bind fun t47 =>
 (ixS 20 t43 t45).bind fun t48 =>
 (ixA 4 5 t48 t47).bind fun t49 =>
 (Z06 t49 1).bind fun t50 =>
 (ldN r3.2.1 4 t50).bind fun t51 =>
 (stN (newB r3.2.1 (256*r3.2.2+10) [(.int .i64 0),(.int .i64 0),(.int .i64 0),(.int .i64 0)]) 4 (ptrTo (256*r3.2.2+10)) t51).bind fun h5 =>
 (o (Zcl (some l)) [t6,(ptrTo (256*c+0)),(ptrTo (256*r3.2.2+10)),(.int .i64 0)] h5 (r3.2.2+1+1) []).bind fun r6 =>
 cond (Z0q r6.e (.exit 2))
 ((Z0I r6.h l .ready none).bind fun h7 =>
 cond (List.isEmpty (r6.df:List Nat)) (some ⟨.ret,[.bool true],h7,r6.c,[]⟩) none)
 (none)
theorem Z7W (o:Orc H) (l:Nat) (t25 t1 t5 t6:Value) (h:H) (c:Nat):jx P o 92 (some l) Z1o (Z0f ([25]++[1,5,6]) [t25,t1,t5,t6]) h c [] (ZpI P o 92 l Z1n)=Z3F o l t25 t1 t5 t6 h c:=by kernel_rfl
noncomputable def Zli (o:Orc H) (t0:Value) (h:H) (c:Nat):Option (Rt H) :=
 (bif (t0:Value).cells.toList.all Z0c then
 (Z06 (ptrTo (256*c+0)) 0).bind fun t10 =>
 (ld1 (newB h (256*c+0) (t0:Value).cells.toList) t10).bind fun t11 =>
 (Z0X t11).bind fun t12 =>
 (Z00 P .mul 3 (.int .i64 4) t12).bind fun t14 =>
 (callF o 71 [t14] (newB h (256*c+0) (t0:Value).cells.toList) (c+1+1+1)).bind fun r0 =>
 (Z4w [(.slice none 0 0)] [(0,1,r0.1)]).bind fun t16 =>
 (bif (t16:Value).cells.toList.all Z0c then
 (Z00 P .mul 3 (.int .i64 6) t12).bind fun t19 =>
 (callF o 71 [t19] (newB r0.2.1 (256*(c+1+1)+4) (t16:Value).cells.toList) r0.2.2).bind fun r1 =>
 (Z4w [(.slice none 0 0)] [(0,1,r1.1)]).bind fun t21 =>
 (bif (t21:Value).cells.toList.all Z0c then
 (stN (newB (newB (newB r1.2.1 (256*(c+1+1)+9) (t21:Value).cells.toList) (256*(c+1+1)+10) [(.pointer none)]) (256*(c+1+1)+11) [(.pointer none)]) 1 (ptrTo (256*(c+1+1)+10)) (ptrTo (256*(c+1+1)+4))).bind fun h3 =>
 (stN h3 1 (ptrTo (256*(c+1+1)+11)) (ptrTo (256*(c+1+1)+9))).bind fun h5 =>
 (ldN h5 1 (ptrTo (256*c+0))).bind fun t23 =>
 (callF o 59 [t23] h5 (r1.2.2+1)).bind fun r6 =>
 (Z5Y o 92 none [1,5,6] [] #[25] Z1o Z1n r6.1 [(ptrTo (256*c+0)),(ptrTo (256*(c+1+1)+10)),(ptrTo (256*(c+1+1)+11))] r6.2.1 r6.2.2 []).bind fun q7 =>
 cond (Z0q q7.1 .normal)
 ((ld1 q7.2.1 (ptrTo (256*(c+1+1)+10))).bind fun t90 =>
 (ld1 q7.2.1 (ptrTo (256*(c+1+1)+11))).bind fun t91 =>
 (Z0a q7.2.1 q7.2.2.2).bind fun h8 =>
 some ⟨.ret,[.tuple #[t90,t91]],h8,(q7.2.2.1+1),[]⟩)
 (none)
 else none)
 else none)
 else none)
theorem Zi5 (o:Orc H) (t0:Value) (h:H) (c:Nat):jx P o 92 none f44_c (Z0f (List.range 1) [t0]) h c [] (Kfn P Try.f44.results.toList)=Zli o t0 h c:=by kernel_rfl
theorem f44_go {t0:Value} {h:FH} {c:Nat} {df:List Nat} {r:Rt FH} (e:Zli G t0 h c=some r):G (.fn 44) [t0] h c df=some r:=Z0d (a:=ZfW) bk_44 rfl (fun args h c=>by cases args <;> rfl) rfl ((Zi5 G t0 h c).trans e)
theorem Zjf {t25 t1 t5 t6:Value} {l:Nat} {h:FH} {c:Nat} {df:List Nat} {r:Rt FH} (e:Z3F G l t25 t1 t5 t6 h c=some r):G (.rnd 92 [1,5,6] [] [25] l Z1o Z1n) [t25,t1,t5,t6] h c df=some r:=Zd9 ((Z7W G l t25 t1 t5 t6 h c).trans e)
noncomputable def Z4X (o:Orc H) (rd:Option Nat) (t0 t3 t9 t10:Value) (h:H) (c:Nat) (df:List Nat):Option (Rt H) :=
 (Z00 P .lss 3 t10 t9).bind fun t11 =>
 Z07 t11
 ((callF o 46 [t0,t10] h (c+1+1+1)).bind fun r0 =>
 (Z00 P .eql 3 r0.1 t10).bind fun t17 =>
 (Z07 t17
  ((Z2T [(.int .i64 0)] [(0,1,t10)]).bind fun r1 =>
  (Z7q (newB r0.2.1 (256*r0.2.2+2) r1) (256*r0.2.2+3) 1 8 t3 (.slice (some ⟨(256*r0.2.2+2),0,none⟩) 1 1)).bind fun r2 =>
  some ⟨.normal,[t0,r2.1,t9,t10],r2.2,(r0.2.2+1),df⟩)
  (some ⟨.normal,[t0,t3,t9,t10],r0.2.1,r0.2.2,df⟩):Option (Rt H)).bind fun r4 =>
 cond (Z0q r4.e .normal)
  ((Z00 P .add 3 (r4.v 3) (.int .i64 1)).bind fun t22 =>
  some ⟨.normal,[r4.v 0,r4.v 1,r4.v 2,t22],r4.h,(r4.c+1),r4.df⟩)
  (none))
 (some ⟨(.exit 0),[t0,t3,t9,t10],h,(c+1),df⟩)
theorem Z5I (o:Orc H) (rd:Option Nat) (t0 t3 t9 t10:Value) (h:H) (c:Nat) (df:List Nat):jx P o 24 rd Z3D (Z0f [0,3,9,10] [t0,t3,t9,t10]) h c df (Klp [0,3,9,10])=Z4X o rd t0 t3 t9 t10 h c df:=by kernel_rfl
noncomputable def Zlh (o:Orc H) (t0:Value) (h:H) (c:Nat):Option (Rt H) :=
 (Z0z t0).bind fun t6 =>
 (Z06 t6 0).bind fun t7 =>
 (ld1 h t7).bind fun t8 =>
 (Z0X t8).bind fun t9 =>
 (o (Zck none) [t0,(.slice none 0 0),t9,(.int .i64 0)] h (c+1+1+1) []).bind fun r0 =>
 cond (Z0q r0.e (.exit 0))
 ((Z0a r0.h r0.df).bind fun h1 =>
 some ⟨.ret,[r0.v 1],h1,(r0.c+1),[]⟩)
 (none)
theorem Zi4 (o:Orc H) (t0:Value) (h:H) (c:Nat):jx P o 24 none f45_c (Z0f (List.range 1) [t0]) h c [] (Kfn P Try.f45.results.toList)=Zlh o t0 h c:=by kernel_rfl
theorem f45_go {t0:Value} {h:FH} {c:Nat} {df:List Nat} {r:Rt FH} (e:Zlh G t0 h c=some r):G (.fn 45) [t0] h c df=some r:=Z0d (a:=ZfV) bk_45 rfl (fun args h c=>by cases args <;> rfl) rfl ((Zi4 G t0 h c).trans e)
noncomputable def Z6J (o:Orc H) (rd:Option Nat) (t0 t1:Value) (h:H) (c:Nat) (df:List Nat):Option (Rt H) :=
 (Z0z t0).bind fun t6 =>
 (Z06 t6 0).bind fun t7 =>
 (ld1 h t7).bind fun t8 =>
 (ixS 1 t8 t1).bind fun t10 =>
 (ld1 h t10).bind fun t11 =>
 (Z00 P .neq 3 t11 t1).bind fun t13 =>
 Z07 t13
 ((Z0z t0).bind fun t15 =>
 (Z06 t15 0).bind fun t16 =>
 (ld1 h t16).bind fun t17 =>
 (ixS 1 t17 t1).bind fun t19 =>
 (ld1 h t19).bind fun t20 =>
 some ⟨.normal,[t0,t20],h,(c+1+1),df⟩)
 (some ⟨(.exit 0),[t0,t1],h,(c+1),df⟩)
theorem Z7V (o:Orc H) (rd:Option Nat) (t0 t1:Value) (h:H) (c:Nat) (df:List Nat):jx P o 22 rd Z3C (Z0f [0,1] [t0,t1]) h c df (Klp [0,1])=Z6J o rd t0 t1 h c df:=by kernel_rfl
noncomputable def Zlg (o:Orc H) (t0 t1:Value) (h:H) (c:Nat):Option (Rt H) :=
 (o (Zcj none) [t0,t1] h (c+1) []).bind fun r0 =>
 cond (Z0q r0.e (.exit 0))
 ((Z0a r0.h r0.df).bind fun h1 =>
 some ⟨.ret,[r0.v 1],h1,(r0.c+1),[]⟩)
 (none)
theorem Zi3 (o:Orc H) (t0 t1:Value) (h:H) (c:Nat):jx P o 22 none f46_c (Z0f (List.range 2) [t0,t1]) h c [] (Kfn P Try.f46.results.toList)=Zlg o t0 t1 h c:=by kernel_rfl
theorem f46_go {t0 t1:Value} {h:FH} {c:Nat} {df:List Nat} {r:Rt FH} (e:Zlg G t0 t1 h c=some r):G (.fn 46) [t0,t1] h c df=some (gcR h c [] r):=Z0d (a:=ZfU) bk_46 rfl (fun args h c=>by cases args <;> rfl) rfl ((Zi3 G t0 t1 h c).trans e)
end Go.Proofs.Ytcnndelmnobigaa
