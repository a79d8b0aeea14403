/- Parts of a proof: S3 S4. Conditions: none. -/
import Derived.Test.YtdodippbpdechaaM8
set_option linter.all false
set_option maxRecDepth 100000
namespace Go.Proofs.Ytdodippbpdechaa
open Go Go.Ab Go.Proofs
variable {H:Type} [HeapC H]
noncomputable def Z49 (o:Orc H) (rd:Option Nat) (t2 t3 t4 t18 t19 t20 t24 t25:Value) (h:H) (c:Nat) (df:List Nat):Option (Rt H) :=
 (Z00 P .lss 3 t25 (.int .i64 4)).bind fun t26 =>
 Z0b t26
 ((ixV 4 true 5 t24 t25).bind fun t27 =>
 (stN (newB h (256*(c+1)+1) [(.int .i64 0),(.int .i64 0),(.int .i64 0),(.int .i64 0),(.int .i64 0)]) 5 (ptrTo (256*(c+1)+1)) t27).bind fun h1 =>
 (Z03 t4 0).bind fun t28 =>
 (ld1 h1 t28).bind fun t29 =>
 (gd t29 false h1 (c+1+1+1) (Z03 (ptrTo (256*(c+1)+1)) 0)).bind fun r2 =>
 (gd t29 false r2.2.1 r2.2.2 (ld1 r2.2.1 r2.1)).bind fun r3 =>
 (gd t29 false r3.2.1 r3.2.2 (Z00 P .lss 3 r3.1 (.int .i64 0))).bind fun r4 =>
 (Z0X t29 (.bool true) r4.1).bind fun t34 =>
 (Z03 t4 0).bind fun t35 =>
 (stN r4.2.1 1 t35 t34).bind fun h6 =>
 (Z00 P .add 3 t25 (.int .i64 1)).bind fun t36 =>
 some ⟨.normal,[t2,t3,t4,t18,t19,t20,t24,t36],h6,(r4.2.2+1),df⟩)
 (some ⟨(.exit 2),[t2,t3,t4,t18,t19,t20,t24,t25],h,(c+1),df⟩)
theorem Z4K (o:Orc H) (rd:Option Nat) (t2 t3 t4 t18 t19 t20 t24 t25:Value) (h:H) (c:Nat) (df:List Nat):jx P o 90 rd Z31 (Z0n [2,3,4,18,19,20,24,25] [t2,t3,t4,t18,t19,t20,t24,t25]) h c df (Klp [2,3,4,18,19,20,24,25])=Z49 o rd t2 t3 t4 t18 t19 t20 t24 t25 h c df:=by kernel_rfl
noncomputable def Z4a (o:Orc H) (rd:Option Nat) (t2 t3 t4 t18 t19 t20:Value) (h:H) (c:Nat) (df:List Nat):Option (Rt H) :=
 (Z00 P .lss 3 t20 t19).bind fun t21 =>
 Z0b t21
 ((ixS 20 t18 t20).bind fun t22 =>
 (ldN h 20 t22).bind fun t23 =>
 (stN (newB h (256*(c+1)+2) [(.int .i64 0),(.int .i64 0),(.int .i64 0),(.int .i64 0),(.int .i64 0),(.int .i64 0),(.int .i64 0),(.int .i64 0),(.int .i64 0),(.int .i64 0),(.int .i64 0),(.int .i64 0),(.int .i64 0),(.int .i64 0),(.int .i64 0),(.int .i64 0),(.int .i64 0),(.int .i64 0),(.int .i64 0),(.int .i64 0)]) 20 (ptrTo (256*(c+1)+2)) t23).bind fun h1 =>
 (ldN h1 20 (ptrTo (256*(c+1)+2))).bind fun t24 =>
 (o (Z8W rd) [t2,t3,t4,t18,t19,t20,t24,(.int .i64 0)] h1 (c+1+1+1) df).bind fun r2 =>
 cond (Z0B r2.e (.exit 2))
  ((Z00 P .add 3 (r2.v 5) (.int .i64 1)).bind fun t37 =>
  some ⟨.normal,[r2.v 0,r2.v 1,r2.v 2,r2.v 3,r2.v 4,t37],r2.h,(r2.c+1),r2.df⟩)
  (none))
 (some ⟨(.exit 0),[t2,t3,t4,t18,t19,t20],h,(c+1),df⟩)
theorem Z4L (o:Orc H) (rd:Option Nat) (t2 t3 t4 t18 t19 t20:Value) (h:H) (c:Nat) (df:List Nat):jx P o 90 rd Z32 (Z0n [2,3,4,18,19,20] [t2,t3,t4,t18,t19,t20]) h c df (Klp [2,3,4,18,19,20])=Z4a o rd t2 t3 t4 t18 t19 t20 h c df:=by kernel_rfl
noncomputable def Z48 (o:Orc H) (rd:Option Nat) (t2 t3 t4 t39 t40 t41:Value) (h:H) (c:Nat) (df:List Nat):Option (Rt H) :=
 (Z00 P .lss 3 t41 t40).bind fun t42 =>
 Z0b t42
 ((ixS 1 t39 t41).bind fun t43 =>
 (ld1 h t43).bind fun t44 =>
 (Z03 t4 1).bind fun t45 =>
 (ld1 h t45).bind fun t46 =>
 (gd t46 false h (c+1+1+1) (some t44)).bind fun r0 =>
 (Z0X t46 (.bool true) r0.1).bind fun t49 =>
 (Z03 t4 1).bind fun t50 =>
 (stN r0.2.1 1 t50 t49).bind fun h2 =>
 (Z00 P .add 3 t41 (.int .i64 1)).bind fun t51 =>
 some ⟨.normal,[t2,t3,t4,t39,t40,t51],h2,(r0.2.2+1),df⟩)
 (some ⟨(.exit 4),[t2,t3,t4,t39,t40,t41],h,(c+1),df⟩)
theorem Z4J (o:Orc H) (rd:Option Nat) (t2 t3 t4 t39 t40 t41:Value) (h:H) (c:Nat) (df:List Nat):jx P o 90 rd Z30 (Z0n [2,3,4,39,40,41] [t2,t3,t4,t39,t40,t41]) h c df (Klp [2,3,4,39,40,41])=Z48 o rd t2 t3 t4 t39 t40 t41 h c df:=by kernel_rfl
noncomputable def Z47 (o:Orc H) (rd:Option Nat) (t2 t4 t53 t54 t55:Value) (h:H) (c:Nat) (df:List Nat):Option (Rt H) :=
 (Z00 P .lss 3 t55 t54).bind fun t56 =>
 Z0b t56
 ((ixS 6 t53 t55).bind fun t57 =>
 (ldN h 6 t57).bind fun t58 =>
 (stN (newB h (256*(c+1)+2) [(.int .i64 0),(.int .i64 0),(.int .i64 0),(.int .i64 0),(.bool false),(.bool false)]) 6 (ptrTo (256*(c+1)+2)) t58).bind fun h1 =>
 (Z03 (ptrTo (256*(c+1)+2)) 4).bind fun t59 =>
 (ld1 h1 t59).bind fun t60 =>
 (gd t60 true h1 (c+1+1+1) (Z03 (ptrTo (256*(c+1)+2)) 3)).bind fun r2 =>
 (gd t60 true r2.2.1 r2.2.2 (ld1 r2.2.1 r2.1)).bind fun r3 =>
 (gd t60 true r3.2.1 r3.2.2 (Z00 P .eql 3 r3.1 (.int .i64 2))).bind fun r4 =>
 (Z0X t60 r4.1 (.bool false)).bind fun t65 =>
 (Z03 t4 2).bind fun t66 =>
 (ld1 r4.2.1 t66).bind fun t67 =>
 (gd t67 true r4.2.1 (r4.2.2+1) (some t65)).bind fun r5 =>
 (Z0X t67 r5.1 (.bool false)).bind fun t70 =>
 (Z03 t4 2).bind fun t71 =>
 (stN r5.2.1 1 t71 t70).bind fun h7 =>
 (Z03 t4 3).bind fun t72 =>
 (ld1 h7 t72).bind fun t73 =>
 (gd t73 true h7 (r5.2.2+1) (some t65)).bind fun r8 =>
 (gd t73 true r8.2.1 r8.2.2 (some r8.1)).bind fun r9 =>
 (gd r9.1 false r9.2.1 r9.2.2 (Z03 (ptrTo (256*(c+1)+2)) 4)).bind fun r10 =>
 (gd r9.1 false r10.2.1 r10.2.2 (ld1 r10.2.1 r10.1)).bind fun r11 =>
 (gd r9.1 false r11.2.1 r11.2.2 (Z3O .not r11.1)).bind fun r12 =>
 (gd r9.1 false r12.2.1 r12.2.2 (some r12.1)).bind fun r13 =>
 (gd r13.1 true r13.2.1 r13.2.2 (Z03 (ptrTo (256*(c+1)+2)) 3)).bind fun r14 =>
 (gd r13.1 true r14.2.1 r14.2.2 (ld1 r14.2.1 r14.1)).bind fun r15 =>
 (gd r13.1 true r15.2.1 r15.2.2 (Z00 P .eql 3 r15.1 (.int .i64 1))).bind fun r16 =>
 (gg r9.1 false r16.2.1 r16.2.2 (Z9z r16.2.1 r16.2.2 r13.1 r16.1 (.bool false))).bind fun r17 =>
 (gg t73 true r17.2.1 r17.2.2 (Z9z r17.2.1 r17.2.2 r9.1 (.bool true) r17.1)).bind fun r18 =>
 (Z0X t73 r18.1 (.bool false)).bind fun t86 =>
 (Z03 t4 3).bind fun t87 =>
 (stN r18.2.1 1 t87 t86).bind fun h20 =>
 (Z00 P .add 3 t55 (.int .i64 1)).bind fun t88 =>
 some ⟨.normal,[t2,t4,t53,t54,t88],h20,(r18.2.2+1),df⟩)
 (some ⟨(.exit 6),[t2,t4,t53,t54,t55],h,(c+1),df⟩)
theorem Z4I (o:Orc H) (rd:Option Nat) (t2 t4 t53 t54 t55:Value) (h:H) (c:Nat) (df:List Nat):jx P o 90 rd Z2Z (Z0n [2,4,53,54,55] [t2,t4,t53,t54,t55]) h c df (Klp [2,4,53,54,55])=Z47 o rd t2 t4 t53 t54 t55 h c df:=by kernel_rfl
noncomputable def ZgL (o:Orc H) (t0:Value) (h:H) (c:Nat):Option (Rt H) :=
 (bif (t0:Value).cells.toList.all Z09 then
 (ldN (newB (newB h (256*c+0) (t0:Value).cells.toList) (256*c+1) [(.bool false),(.bool false),(.bool false),(.bool false)]) 1 (ptrTo (256*c+0))).bind fun t14 =>
 (callF o 39 [t14] (newB (newB h (256*c+0) (t0:Value).cells.toList) (256*c+1) [(.bool false),(.bool false),(.bool false),(.bool false)]) (c+1+1)).bind fun r0 =>
 (stN (newB r0.2.1 (256*(c+1)+2) [(.slice none 0 0),(.slice none 0 0),(.slice none 0 0),(.slice none 0 0),(.slice none 0 0),(.slice none 0 0)]) 6 (ptrTo (256*(c+1)+2)) r0.1).bind fun h2 =>
 (Z1M [(.bool false),(.bool false),(.bool false),(.bool false)] [(2,1,(.bool true)),(3,1,(.bool true))]).bind fun t16 =>
 (stN (newB h2 (256*r0.2.2+1) [(.bool false),(.bool false),(.bool false),(.bool false)]) 4 (ptrTo (256*r0.2.2+1)) t16).bind fun h4 =>
 (Z03 (ptrTo (256*c+0)) 0).bind fun t17 =>
 (ld1 h4 t17).bind fun t18 =>
 (Z3P t18).bind fun t19 =>
 (o (Z8X none) [(ptrTo (256*c+1)),(ptrTo (256*(c+1)+2)),(ptrTo (256*r0.2.2+1)),t18,t19,(.int .i64 0)] h4 (r0.2.2+1+1) []).bind fun r5 =>
 cond (Z0B r5.e (.exit 0))
 ((Z03 (r5.v 1) 4).bind fun t38 =>
 (ld1 r5.h t38).bind fun t39 =>
 (Z3P t39).bind fun t40 =>
 (o (Z8V none) [r5.v 0,r5.v 1,r5.v 2,t39,t40,(.int .i64 0)] r5.h (r5.c+1) r5.df).bind fun r6 =>
 cond (Z0B r6.e (.exit 4))
  ((Z03 (r6.v 1) 5).bind fun t52 =>
  (ld1 r6.h t52).bind fun t53 =>
  (Z3P t53).bind fun t54 =>
  (o (Z6y none) [r6.v 0,r6.v 2,t53,t54,(.int .i64 0)] r6.h (r6.c+1) r6.df).bind fun r7 =>
  cond (Z0B r7.e (.exit 6))
   ((ldN r7.h 4 (r7.v 1)).bind fun t89 =>
   (stN r7.h 4 (r7.v 0) t89).bind fun h9 =>
   (Z0c h9 r7.df).bind fun h10 =>
   (ldN h10 4 (r7.v 0)).bind fun v11 =>
   some ⟨.ret,[v11],h10,(r7.c+1),[]⟩)
   (none))
  (none))
 (none)
 else none)
theorem ZdH (o:Orc H) (t0:Value) (h:H) (c:Nat):jx P o 90 none f42_c (Z0n (List.range 1) [t0]) h c [] (Kfn P Try.f42.results.toList)=ZgL o t0 h c:=by kernel_rfl
theorem f42_go {t0:Value} {h:FH} {c:Nat} {df:List Nat} {r:Rt FH} (e:ZgL G t0 h c=some r):G (.fn 42) [t0] h c df=some (gcR h c [] r):=Z0r (a:=ZbR) bk_42 rfl (fun args h c=>by cases args <;> rfl) rfl ((ZdH G t0 h c).trans e)
noncomputable def ZgK (o:Orc H) (h:H) (c:Nat):Option (Rt H) :=
 (Z1M [(.int .i64 0),.nilFunc] [(0,1,(.int .i64 4)),(1,1,(.func (.func 69) #[] #[]))]).bind fun t1 =>
 (Z1M [(.int .i64 0),.nilFunc] [(0,1,(.int .i64 1)),(1,1,(.func (.func 70) #[] #[]))]).bind fun t2 =>
 (Z1M [(.int .i64 0),.nilFunc] [(0,1,(.int .i64 2)),(1,1,(.func (.func 71) #[] #[]))]).bind fun t3 =>
 (Z1M [(.int .i64 0),.nilFunc] [(0,1,(.int .i64 3)),(1,1,(.func (.func 72) #[] #[]))]).bind fun t4 =>
 (Z1M [(.int .i64 0),.nilFunc,(.int .i64 0),.nilFunc,(.int .i64 0),.nilFunc,(.int .i64 0),.nilFunc] [(0,2,t1),(2,2,t2),(4,2,t3),(6,2,t4)]).bind fun t5 =>
 (stN (newB h (256*c+0) [(.int .i64 0),.nilFunc,(.int .i64 0),.nilFunc,(.int .i64 0),.nilFunc,(.int .i64 0),.nilFunc]) 8 (ptrTo (256*c+0)) t5).bind fun h1 =>
 (ldN h1 8 (ptrTo (256*c+0))).bind fun v2 =>
 some ⟨.ret,[v2],h1,(c+1+1),[]⟩
theorem ZdG (o:Orc H) (h:H) (c:Nat):jx P o 6 none f43_c (Z0n (List.range 0) []) h c [] (Kfn P Try.f43.results.toList)=ZgK o h c:=by kernel_rfl
theorem f43_go {h:FH} {c:Nat} {df:List Nat} {r:Rt FH} (e:ZgK G h c=some r):G (.fn 43) [] h c df=some (gcR h c [] r):=Z0r (a:=ZbQ) bk_43 rfl (fun args h c=>by cases args <;> rfl) rfl ((ZdG G h c).trans e)
noncomputable def Z18 (o:Orc H) (rd:Option Nat) (t1 t2 t3 t4:Value) (h:H) (c:Nat) (df:List Nat):Option (Rt H) :=
 (Z00 P .lss 3 t4 (.int .i64 4)).bind fun t6 =>
 Z0b t6
 ((ixA 4 1 t1 t4).bind fun t10 =>
 (ld1 h t10).bind fun t11 =>
 (Z00 P .lss 3 t11 (.int .i64 0)).bind fun t12 =>
 (gd t12 false h (c+1+1) (some t4)).bind fun r0 =>
 (gd t12 false r0.2.1 r0.2.2 (ixA 4 1 t1 r0.1)).bind fun r1 =>
 (gd t12 false r1.2.1 r1.2.2 (ld1 r1.2.1 r1.1)).bind fun r2 =>
 (gd t12 false r2.2.1 r2.2.2 (Z00 P .gtr 3 r2.1 (.int .i64 3))).bind fun r3 =>
 (Z0X t12 (.bool true) r3.1).bind fun t18 =>
 (gd t18 false r3.2.1 r3.2.2 (some t4)).bind fun r4 =>
 (gd t18 false r4.2.1 r4.2.2 (ixA 4 1 t1 r4.1)).bind fun r5 =>
 (gd t18 false r5.2.1 r5.2.2 (ld1 r5.2.1 r5.1)).bind fun r6 =>
 (gd t18 false r6.2.1 r6.2.2 (ixA 4 1 t3 r6.1)).bind fun r7 =>
 (gd t18 false r7.2.1 r7.2.2 (ld1 r7.2.1 r7.1)).bind fun r8 =>
 (Z0X t18 (.bool true) r8.1).bind fun t25 =>
 Z0b t25
  (some ⟨.ret,[t1,(.bool false),t3,t4],r8.2.1,(r8.2.2+1),df⟩)
  ((ixA 4 1 t1 t4).bind fun t27 =>
  (ld1 r8.2.1 t27).bind fun t28 =>
  (ixA 4 1 t3 t28).bind fun t29 =>
  (stN r8.2.1 1 t29 (.bool true)).bind fun h11 =>
  (Z00 P .add 3 t4 (.int .i64 1)).bind fun t8 =>
  some ⟨.normal,[t1,t2,t3,t8],h11,(r8.2.2+1+1),df⟩))
 (some ⟨(.exit 0),[t1,t2,t3,t4],h,(c+1),df⟩)
theorem Z4H (o:Orc H) (rd:Option Nat) (t1 t2 t3 t4:Value) (h:H) (c:Nat) (df:List Nat):jx P o 30 rd Z2Y (Z0n [1,2,3,4] [t1,t2,t3,t4]) h c df (Klp [1,2,3,4])=Z18 o rd t1 t2 t3 t4 h c df:=by kernel_rfl
noncomputable def ZgJ (o:Orc H) (t0:Value) (h:H) (c:Nat):Option (Rt H) :=
 (bif (t0:Value).cells.toList.all Z09 then
 (o (Z46 none) [(ptrTo (256*c+0)),(.bool false),(ptrTo (256*(c+1)+0)),(.int .i64 0)] (newB (newB h (256*c+0) (t0:Value).cells.toList) (256*(c+1)+0) [(.bool false),(.bool false),(.bool false),(.bool false)]) (c+1+1+1) []).bind fun r0 =>
 cond (Z0B r0.e (.exit 0))
 ((Z0c r0.h r0.df).bind fun h2 =>
 some ⟨.ret,[(.bool true)],h2,(r0.c+1),[]⟩)
 (cond (Z0B r0.e .ret)
  ((Z0c r0.h r0.df).bind fun h1 =>
  some ⟨.ret,[r0.v 1],h1,r0.c,[]⟩)
  (none))
 else none)
theorem ZdF (o:Orc H) (t0:Value) (h:H) (c:Nat):jx P o 30 none f44_c (Z0n (List.range 1) [t0]) h c [] (Kfn P Try.f44.results.toList)=ZgJ o t0 h c:=by kernel_rfl
theorem f44_go {t0:Value} {h:FH} {c:Nat} {df:List Nat} {r:Rt FH} (e:ZgJ G t0 h c=some r):G (.fn 44) [t0] h c df=some (gcR h c [] r):=Z0r (a:=ZbP) bk_44 rfl (fun args h c=>by cases args <;> rfl) rfl ((ZdF G t0 h c).trans e)
theorem ZeQ {rd:Option Nat} {t1 t2 t3 t4:Value} {h:FH} {c:Nat} {df:List Nat} {q r:Rt FH} (e:Z18 G rd t1 t2 t3 t4 h c df=some q) (hq:q.e = .normal) (k:G (Z46 rd) q.vs (gcR h c df q).h (gcR h c df q).c q.df=some r):G (Z46 rd) [t1,t2,t3,t4] h c df=some r:=Z0I ((Z4H G rd t1 t2 t3 t4 h c df).trans e) hq k
theorem Z5m {rd:Option Nat} {t1 t2 t3 t4:Value} {h:FH} {c:Nat} {df:List Nat} {q:Rt FH} (e:Z18 G rd t1 t2 t3 t4 h c df=some q) (hq:q.e ≠ .normal):G (Z46 rd) [t1,t2,t3,t4] h c df=some (gcR h c df q):=Z0J ((Z4H G rd t1 t2 t3 t4 h c df).trans e) hq
noncomputable def Z27 (o:Orc H) (rd:Option Nat) (t1 t2 t3 t4:Value) (h:H) (c:Nat) (df:List Nat):Option (Rt H) :=
 (Z00 P .lss 3 t4 (.int .i64 4)).bind fun t10 =>
 Z0b t10
 ((ixA 4 1 t1 t4).bind fun t14 =>
 (ld1 h t14).bind fun t15 =>
 (ixA 4 1 t3 t15).bind fun t17 =>
 (stN h 1 t17 t4).bind fun h1 =>
 (Z00 P .add 3 t4 (.int .i64 1)).bind fun t12 =>
 some ⟨.normal,[t1,t2,t3,t12],h1,(c+1+1+1),df⟩)
 (some ⟨(.exit 0),[t1,t2,t3,t4],h,(c+1),df⟩)
theorem Z4G (o:Orc H) (rd:Option Nat) (t1 t2 t3 t4:Value) (h:H) (c:Nat) (df:List Nat):jx P o 19 rd Z2X (Z0n [1,2,3,4] [t1,t2,t3,t4]) h c df (Klp [1,2,3,4])=Z27 o rd t1 t2 t3 t4 h c df:=by kernel_rfl
noncomputable def ZgI (o:Orc H) (t0:Value) (h:H) (c:Nat):Option (Rt H) :=
 (bif (t0:Value).cells.toList.all Z09 then
 (ldN (newB (newB (newB h (256*c+0) (t0:Value).cells.toList) (256*c+1) [(.int .i64 0),(.int .i64 0),(.int .i64 0),(.int .i64 0)]) (256*(c+1)+0) [(.int .i64 0),(.int .i64 0),(.int .i64 0),(.int .i64 0)]) 4 (ptrTo (256*c+0))).bind fun t5 =>
 (callF o 44 [t5] (newB (newB (newB h (256*c+0) (t0:Value).cells.toList) (256*c+1) [(.int .i64 0),(.int .i64 0),(.int .i64 0),(.int .i64 0)]) (256*(c+1)+0) [(.int .i64 0),(.int .i64 0),(.int .i64 0),(.int .i64 0)]) (c+1+1+1)).bind fun r0 =>
 (Z3O .not r0.1).bind fun t7 =>
 Z0b t7
 ((ldN r0.2.1 4 (ptrTo (256*(c+1)+0))).bind fun t8 =>
 (stN r0.2.1 4 (ptrTo (256*c+1)) t8).bind fun h2 =>
 (ldN h2 4 (ptrTo (256*c+1))).bind fun v3 =>
 some ⟨.ret,[v3],h2,(r0.2.2+1),[]⟩)
 ((o (Z45 none) [(ptrTo (256*c+0)),(ptrTo (256*c+1)),(ptrTo (256*(c+1)+0)),(.int .i64 0)] r0.2.1 (r0.2.2+1) []).bind fun r4 =>
 cond (Z0B r4.e (.exit 0))
  ((ldN r4.h 4 (r4.v 2)).bind fun t18 =>
  (stN r4.h 4 (r4.v 1) t18).bind fun h6 =>
  (Z0c h6 r4.df).bind fun h7 =>
  (ldN h7 4 (r4.v 1)).bind fun v8 =>
  some ⟨.ret,[v8],h7,(r4.c+1),[]⟩)
  (none))
 else none)
theorem ZdE (o:Orc H) (t0:Value) (h:H) (c:Nat):jx P o 19 none f45_c (Z0n (List.range 1) [t0]) h c [] (Kfn P Try.f45.results.toList)=ZgI o t0 h c:=by kernel_rfl
theorem f45_go {t0:Value} {h:FH} {c:Nat} {df:List Nat} {r:Rt FH} (e:ZgI G t0 h c=some r):G (.fn 45) [t0] h c df=some (gcR h c [] r):=Z0r (a:=ZbO) bk_45 rfl (fun args h c=>by cases args <;> rfl) rfl ((ZdE G t0 h c).trans e)
theorem ZeP {rd:Option Nat} {t1 t2 t3 t4:Value} {h:FH} {c:Nat} {df:List Nat} {q r:Rt FH} (e:Z27 G rd t1 t2 t3 t4 h c df=some q) (hq:q.e = .normal) (k:G (Z45 rd) q.vs (gcR h c df q).h (gcR h c df q).c q.df=some r):G (Z45 rd) [t1,t2,t3,t4] h c df=some r:=Z0I ((Z4G G rd t1 t2 t3 t4 h c df).trans e) hq k
theorem ZeO {rd:Option Nat} {t1 t2 t3 t4:Value} {h:FH} {c:Nat} {df:List Nat} {q:Rt FH} (e:Z27 G rd t1 t2 t3 t4 h c df=some q) (hq:q.e ≠ .normal):G (Z45 rd) [t1,t2,t3,t4] h c df=some (gcR h c df q):=Z0J ((Z4G G rd t1 t2 t3 t4 h c df).trans e) hq
noncomputable def ZgH (o:Orc H) (h:H) (c:Nat):Option (Rt H) :=
 (Z1M [(.int .i64 0),(.int .i64 0)] [(0,1,(.int .i64 0)),(1,1,(.int .i64 1))]).bind fun t1 =>
 (Z1M [(.int .i64 0),(.int .i64 0)] [(0,1,(.int .i64 0)),(1,1,(.int .i64 2))]).bind fun t2 =>
 (Z1M [(.int .i64 0),(.int .i64 0)] [(0,1,(.int .i64 0)),(1,1,(.int .i64 3))]).bind fun t3 =>
 (Z1M [(.int .i64 0),(.int .i64 0)] [(0,1,(.int .i64 1)),(1,1,(.int .i64 2))]).bind fun t4 =>
 (Z1M [(.int .i64 0),(.int .i64 0)] [(0,1,(.int .i64 1)),(1,1,(.int .i64 3))]).bind fun t5 =>
 (Z1M [(.int .i64 0),(.int .i64 0)] [(0,1,(.int .i64 2)),(1,1,(.int .i64 3))]).bind fun t6 =>
 (Z1M [(.int .i64 0),(.int .i64 0),(.int .i64 0),(.int .i64 0),(.int .i64 0),(.int .i64 0),(.int .i64 0),(.int .i64 0),(.int .i64 0),(.int .i64 0),(.int .i64 0),(.int .i64 0)] [(0,2,t1),(2,2,t2),(4,2,t3),(6,2,t4),(8,2,t5),(10,2,t6)]).bind fun t7 =>
 (stN (newB h (256*c+0) [(.int .i64 0),(.int .i64 0),(.int .i64 0),(.int .i64 0),(.int .i64 0),(.int .i64 0),(.int .i64 0),(.int .i64 0),(.int .i64 0),(.int .i64 0),(.int .i64 0),(.int .i64 0)]) 12 (ptrTo (256*c+0)) t7).bind fun h1 =>
 (ldN h1 12 (ptrTo (256*c+0))).bind fun v2 =>
 some ⟨.ret,[v2],h1,(c+1+1),[]⟩
theorem ZdD (o:Orc H) (h:H) (c:Nat):jx P o 8 none f54_c (Z0n (List.range 0) []) h c [] (Kfn P Try.f54.results.toList)=ZgH o h c:=by kernel_rfl
theorem f54_go {h:FH} {c:Nat} {df:List Nat} {r:Rt FH} (e:ZgH G h c=some r):G (.fn 54) [] h c df=some (gcR h c [] r):=Z0r (a:=ZbN) bk_54 rfl (fun args h c=>by cases args <;> rfl) rfl ((ZdD G h c).trans e)
noncomputable def Z1J (o:Orc H) (rd:Option Nat) (t2 t3 t6 t7:Value) (h:H) (c:Nat) (df:List Nat):Option (Rt H) :=
 (Z00 P .lss 3 t7 (.int .i64 4)).bind fun t8 =>
 Z0b t8
 ((ixV 4 false 1 t6 t7).bind fun t9 =>
 (Z00 P .lss 3 t9 (.int .i64 0)).bind fun t11 =>
 (gd t11 false h (c+1+1+1) (some t9)).bind fun r0 =>
 (gd t11 false r0.2.1 r0.2.2 (Z00 P .gtr 3 r0.1 (.int .i64 3))).bind fun r1 =>
 (Z0X t11 (.bool true) r1.1).bind fun t15 =>
 Z0b t15
  (some ⟨.ret,[(.bool false),t3,t6,t7],r1.2.1,(r1.2.2+1),df⟩)
  ((Z00 P .shl 3 (.int .i64 1) t9).bind fun t18 =>
  (Z00 P .or 3 t3 t18).bind fun t19 =>
  (Z00 P .add 3 t7 (.int .i64 1)).bind fun t20 =>
  some ⟨.normal,[t2,t19,t6,t20],r1.2.1,(r1.2.2+1+1),df⟩))
 (some ⟨(.exit 0),[t2,t3,t6,t7],h,(c+1),df⟩)
theorem Z4F (o:Orc H) (rd:Option Nat) (t2 t3 t6 t7:Value) (h:H) (c:Nat) (df:List Nat):jx P o 23 rd Z2W (Z0n [2,3,6,7] [t2,t3,t6,t7]) h c df (Klp [2,3,6,7])=Z1J o rd t2 t3 t6 t7 h c df:=by kernel_rfl
noncomputable def ZgG (o:Orc H) (t0:Value) (h:H) (c:Nat):Option (Rt H) :=
 (bif (t0:Value).cells.toList.all Z09 then
 (ldN (newB h (256*c+0) (t0:Value).cells.toList) 4 (ptrTo (256*c+0))).bind fun t6 =>
 (o (Z44 none) [(.bool false),(.int .i64 0),t6,(.int .i64 0)] (newB h (256*c+0) (t0:Value).cells.toList) (c+1+1+1) []).bind fun r0 =>
 cond (Z0B r0.e (.exit 0))
 ((Z00 P .eql 3 (r0.v 1) (.int .i64 15)).bind fun t22 =>
 (Z0c r0.h r0.df).bind fun h2 =>
 some ⟨.ret,[t22],h2,(r0.c+1),[]⟩)
 (cond (Z0B r0.e .ret)
  ((Z0c r0.h r0.df).bind fun h1 =>
  some ⟨.ret,[r0.v 0],h1,r0.c,[]⟩)
  (none))
 else none)
theorem ZdC (o:Orc H) (t0:Value) (h:H) (c:Nat):jx P o 23 none f56_c (Z0n (List.range 1) [t0]) h c [] (Kfn P Try.f56.results.toList)=ZgG o t0 h c:=by kernel_rfl
theorem f56_go {t0:Value} {h:FH} {c:Nat} {df:List Nat} {r:Rt FH} (e:ZgG G t0 h c=some r):G (.fn 56) [t0] h c df=some (gcR h c [] r):=Z0r (a:=ZbM) bk_56 rfl (fun args h c=>by cases args <;> rfl) rfl ((ZdC G t0 h c).trans e)
theorem ZeN {rd:Option Nat} {t2 t3 t6 t7:Value} {h:FH} {c:Nat} {df:List Nat} {q r:Rt FH} (e:Z1J G rd t2 t3 t6 t7 h c df=some q) (hq:q.e = .normal) (k:G (Z44 rd) q.vs (gcR h c df q).h (gcR h c df q).c q.df=some r):G (Z44 rd) [t2,t3,t6,t7] h c df=some r:=Z0I ((Z4F G rd t2 t3 t6 t7 h c df).trans e) hq k
theorem Z8U {rd:Option Nat} {t2 t3 t6 t7:Value} {h:FH} {c:Nat} {df:List Nat} {q:Rt FH} (e:Z1J G rd t2 t3 t6 t7 h c df=some q) (hq:q.e ≠ .normal):G (Z44 rd) [t2,t3,t6,t7] h c df=some (gcR h c df q):=Z0J ((Z4F G rd t2 t3 t6 t7 h c df).trans e) hq
noncomputable def Z42 (o:Orc H) (rd:Option Nat) (t1 t2 t7 t8 t22 t23 t26:Value) (h:H) (c:Nat) (df:List Nat):Option (Rt H) :=
 (Z00 P .lss 3 t26 (.int .i64 4)).bind fun t27 =>
 Z0b t27
 ((Z00 P .mul 3 (.int .i64 4) t8).bind fun t31 =>
 (Z00 P .add 3 t31 t26).bind fun t33 =>
 (ixS 1 t1 t33).bind fun t34 =>
 (ld1 h t34).bind fun t35 =>
 (Z00 P .eql 3 t35 t2).bind fun t37 =>
 (Z0b t37
  ((Z0a t7).bind fun t39 =>
  (Z03 t39 2).bind fun t40 =>
  (ld1 h t40).bind fun t41 =>
  (Z1M [(.int .i64 0),(.int .i64 0)] [(0,1,t8),(1,1,t26)]).bind fun t44 =>
  (Z0a t7).bind fun t46 =>
  (Z03 t46 1).bind fun t47 =>
  (ld1 h t47).bind fun t48 =>
  (Z3P t48).bind fun t49 =>
  (Z0D P h 118 t41 t44 t49).bind fun h1 =>
  (Z0a t7).bind fun t52 =>
  (Z03 t52 1).bind fun t53 =>
  (ld1 h1 t53).bind fun t54 =>
  (Z1M [(.int .i64 0),(.int .i64 0)] [(0,1,t8),(1,1,t26)]).bind fun t57 =>
  (Zag [(.int .i64 0),(.int .i64 0)] [(0,2,t57)]).bind fun r2 =>
  (Z6X (newB h1 (256*(c+1+1+1+1)+8) r2) (256*(c+1+1+1+1)+9) 2 16 t54 (.slice (some ⟨(256*(c+1+1+1+1)+8),0,none⟩) 1 1)).bind fun r3 =>
  (Z0a t7).bind fun t60 =>
  (Z03 t60 1).bind fun t61 =>
  (stN r3.2 1 t61 r3.1).bind fun h5 =>
  some ⟨.normal,[t1,t2,t7,t8,t22,t23,t26],h5,(c+1+1+1+1+1),df⟩)
  (some ⟨.normal,[t1,t2,t7,t8,t22,t23,t26],h,(c+1+1+1),df⟩):Option (Rt H)).bind fun r6 =>
 cond (Z0B r6.e .normal)
  ((Z00 P .add 3 (r6.v 6) (.int .i64 1)).bind fun t62 =>
  some ⟨.normal,[r6.v 0,r6.v 1,r6.v 2,r6.v 3,r6.v 4,r6.v 5,t62],r6.h,(r6.c+1),r6.df⟩)
  (none))
 (some ⟨(.exit 2),[t1,t2,t7,t8,t22,t23,t26],h,(c+1),df⟩)
theorem Z4D (o:Orc H) (rd:Option Nat) (t1 t2 t7 t8 t22 t23 t26:Value) (h:H) (c:Nat) (df:List Nat):jx P o 65 rd Z2U (Z0n [1,2,7,8,22,23,26] [t1,t2,t7,t8,t22,t23,t26]) h c df (Klp [1,2,7,8,22,23,26])=Z42 o rd t1 t2 t7 t8 t22 t23 t26 h c df:=by kernel_rfl
noncomputable def Z43 (o:Orc H) (rd:Option Nat) (t1 t2 t7 t22 t23:Value) (h:H) (c:Nat) (df:List Nat):Option (Rt H) :=
 (Z00 P .lss 3 t23 t22).bind fun t24 =>
 Z0b t24
 ((o (Z8S rd) [t1,t2,t7,t23,t22,t23,(.int .i64 0)] h (c+1+1+1) df).bind fun r0 =>
 cond (Z0B r0.e (.exit 2))
  ((Z00 P .add 3 (r0.v 5) (.int .i64 1)).bind fun t63 =>
  some ⟨.normal,[r0.v 0,r0.v 1,r0.v 2,r0.v 4,t63],r0.h,(r0.c+1),r0.df⟩)
  (none))
 (some ⟨(.exit 0),[t1,t2,t7,t22,t23],h,(c+1),df⟩)
theorem Z4E (o:Orc H) (rd:Option Nat) (t1 t2 t7 t22 t23:Value) (h:H) (c:Nat) (df:List Nat):jx P o 65 rd Z2V (Z0n [1,2,7,22,23] [t1,t2,t7,t22,t23]) h c df (Klp [1,2,7,22,23])=Z43 o rd t1 t2 t7 t22 t23 h c df:=by kernel_rfl
noncomputable def ZgF (o:Orc H) (t0 t1 t2:Value) (h:H) (c:Nat):Option (Rt H) :=
 (Z0a t0).bind fun t11 =>
 (Z03 t11 0).bind fun t12 =>
 (ldN h 1 t12).bind fun t13 =>
 (Z1M [(.slice none 0 0),(.slice none 0 0),(.map none)] [(0,1,t13),(1,1,(.slice none 0 0)),(2,1,(.map (some (256*(c+1)+4))))]).bind fun t15 =>
 (bif (t15:Value).cells.toList.all Z09 then
 (Z0a t0).bind fun t18 =>
 (Z03 t18 0).bind fun t19 =>
 (Z03 t19 0).bind fun t20 =>
 (ld1 (newB (HeapC.set h (256*(c+1)+4) (.map [])) (256*(c+1)+6) (t15:Value).cells.toList) t20).bind fun t21 =>
 (Z3P t21).bind fun t22 =>
 (o (Z8T none) [t1,t2,(ptrTo (256*(c+1)+6)),t22,(.int .i64 0)] (newB (HeapC.set h (256*(c+1)+4) (.map [])) (256*(c+1)+6) (t15:Value).cells.toList) (c+1+1+1) []).bind fun r0 =>
 cond (Z0B r0.e (.exit 0))
 ((Z0c r0.h r0.df).bind fun h1 =>
 some ⟨.ret,[r0.v 2],h1,(r0.c+1),[]⟩)
 (none)
 else none)
theorem ZdB (o:Orc H) (t0 t1 t2:Value) (h:H) (c:Nat):jx P o 65 none f60_c (Z0n (List.range 3) [t0,t1,t2]) h c [] (Kfn P Try.f60.results.toList)=ZgF o t0 t1 t2 h c:=by kernel_rfl
theorem f60_go {t0 t1 t2:Value} {h:FH} {c:Nat} {df:List Nat} {r:Rt FH} (e:ZgF G t0 t1 t2 h c=some r):G (.fn 60) [t0,t1,t2] h c df=some r:=Z0r (a:=ZbL) bk_60 rfl (fun args h c=>by cases args <;> rfl) rfl ((ZdB G t0 t1 t2 h c).trans e)
noncomputable def Z2T (o:Orc H) (rd:Option Nat) (t0 t3 t4 t5 t17 t18:Value) (h:H) (c:Nat) (df:List Nat):Option (Rt H) :=
 (Z00 P .lss 3 t18 (.int .i64 4)).bind fun t19 =>
 Z0b t19
 ((ixV 4 true 5 t17 t18).bind fun t21 =>
 (stN (newB h (256*(c+1)+2) [(.int .i64 0),(.int .i64 0),(.int .i64 0),(.int .i64 0),(.int .i64 0)]) 5 (ptrTo (256*(c+1)+2)) t21).bind fun h1 =>
 (ixA 2 1 t3 (.int .i64 1)).bind fun t23 =>
 (ld1 h1 t23).bind fun t24 =>
 (Z00 P .neq 3 t18 t24).bind fun t25 =>
 (gd t25 true h1 (c+1+1+1) (Z03 (ptrTo (256*(c+1)+2)) 0)).bind fun r2 =>
 (gd t25 true r2.2.1 r2.2.2 (ld1 r2.2.1 r2.1)).bind fun r3 =>
 (gd t25 true r3.2.1 r3.2.2 (Z00 P .geq 3 r3.1 (.int .i64 0))).bind fun r4 =>
 (Z0X t25 r4.1 (.bool false)).bind fun t30 =>
 (Z0b t30
  ((Z0a t0).bind fun t33 =>
  (Z03 t33 2).bind fun t34 =>
  (ld1 r4.2.1 t34).bind fun t35 =>
  (Z03 (ptrTo (256*(c+1)+2)) 0).bind fun t36 =>
  (ld1 r4.2.1 t36).bind fun t37 =>
  (ixA 2 1 t3 (.int .i64 1)).bind fun t38 =>
  (ld1 r4.2.1 t38).bind fun t39 =>
  (Z03 (ptrTo (256*(c+1)+2)) 1).bind fun t40 =>
  (ixA 4 1 t40 t39).bind fun t41 =>
  (ld1 r4.2.1 t41).bind fun t42 =>
  (Z1M [(.int .i64 0),(.int .i64 0)] [(0,1,t37),(1,1,t42)]).bind fun t43 =>
  (Z5c P r4.2.1 118 t35 t43 false).bind fun t44 =>
  (ixA 4 1 t5 t18).bind fun t45 =>
  (stN r4.2.1 1 t45 t44).bind fun h6 =>
  some ⟨.normal,[t0,t3,t4,t5,t17,t18],h6,(r4.2.2+1),df⟩)
  (some ⟨.normal,[t0,t3,t4,t5,t17,t18],r4.2.1,r4.2.2,df⟩):Option (Rt H)).bind fun r7 =>
 cond (Z0B r7.e .normal)
  ((Z00 P .add 3 (r7.v 5) (.int .i64 1)).bind fun t46 =>
  some ⟨.normal,[r7.v 0,r7.v 1,r7.v 2,r7.v 3,r7.v 4,t46],r7.h,(r7.c+1),r7.df⟩)
  (none))
 (some ⟨(.exit 0),[t0,t3,t4,t5,t17,t18],h,(c+1),df⟩)
theorem Z2r (o:Orc H) (rd:Option Nat) (t0 t3 t4 t5 t17 t18:Value) (h:H) (c:Nat) (df:List Nat):jx P o 48 rd Z2S (Z0n [0,3,4,5,17,18] [t0,t3,t4,t5,t17,t18]) h c df (Klp [0,3,4,5,17,18])=Z2T o rd t0 t3 t4 t5 t17 t18 h c df:=by kernel_rfl
noncomputable def ZgE (o:Orc H) (t0 t1:Value) (h:H) (c:Nat):Option (Rt H) :=
 (bif (t1:Value).cells.toList.all Z09 then
 (Z1M [(.int .i64 0),(.int .i64 0),(.int .i64 0),(.int .i64 0)] [(0,1,(.int .i64 (-1))),(1,1,(.int .i64 (-1))),(2,1,(.int .i64 (-1))),(3,1,(.int .i64 (-1)))]).bind fun t8 =>
 (stN (newB (newB (newB h (256*c+0) (t1:Value).cells.toList) (256*c+1) [(.int .i64 0),(.int .i64 0),(.int .i64 0),(.int .i64 0)]) (256*(c+1)+1) [(.int .i64 0),(.int .i64 0),(.int .i64 0),(.int .i64 0)]) 4 (ptrTo (256*(c+1)+1)) t8).bind fun h1 =>
 (Z0a t0).bind fun t10 =>
 (Z03 t10 0).bind fun t11 =>
 (Z03 t11 0).bind fun t12 =>
 (ld1 h1 t12).bind fun t13 =>
 (ixA 2 1 (ptrTo (256*c+0)) (.int .i64 0)).bind fun t14 =>
 (ld1 h1 t14).bind fun t15 =>
 (ixS 20 t13 t15).bind fun t16 =>
 (ldN h1 20 t16).bind fun t17 =>
 (o (Z8R none) [t0,(ptrTo (256*c+0)),(ptrTo (256*c+1)),(ptrTo (256*(c+1)+1)),t17,(.int .i64 0)] h1 (c+1+1+1) []).bind fun r2 =>
 cond (Z0B r2.e (.exit 0))
 ((ldN r2.h 4 (r2.v 3)).bind fun t47 =>
 (stN r2.h 4 (r2.v 2) t47).bind fun h4 =>
 (Z0c h4 r2.df).bind fun h5 =>
 (ldN h5 4 (r2.v 2)).bind fun v6 =>
 some ⟨.ret,[v6],h5,(r2.c+1),[]⟩)
 (none)
 else none)
theorem ZdA (o:Orc H) (t0 t1:Value) (h:H) (c:Nat):jx P o 48 none f61_c (Z0n (List.range 2) [t0,t1]) h c [] (Kfn P Try.f61.results.toList)=ZgE o t0 t1 h c:=by kernel_rfl
theorem f61_go {t0 t1:Value} {h:FH} {c:Nat} {df:List Nat} {r:Rt FH} (e:ZgE G t0 t1 h c=some r):G (.fn 61) [t0,t1] h c df=some (gcR h c [] r):=Z0r (a:=ZbK) bk_61 rfl (fun args h c=>by cases args <;> rfl) rfl ((ZdA G t0 t1 h c).trans e)

variable {H:Type} [HeapC H]
noncomputable def Z6v (o:Orc H) (rd:Option Nat) (t2 t3 t4 t5 t7 t8 t9 t10 t11 t14:Value) (h:H) (c:Nat) (df:List Nat):Option (Rt H) :=
 (Z00 P .lss 3 t14 (.int .i64 4)).bind fun t92 =>
 Z0b t92
 ((Z00 P .add 3 t8 (.int .i64 1)).bind fun t97 =>
 (ixS 1 t4 t97).bind fun t98 =>
 (ld1 h t98).bind fun t99 =>
 (Zer t99 t14).bind fun t101 =>
 (Z00 P .lss 5 t101 (.int .u8 48)).bind fun t103 =>
 (gd t103 false h (c+1+1+1) (some t101)).bind fun r0 =>
 (gd t103 false r0.2.1 r0.2.2 (Z00 P .gtr 5 r0.1 (.int .u8 57))).bind fun r1 =>
 (Z0X t103 (.bool true) r1.1).bind fun t107 =>
 Z0b t107
  ((Z1M [(.slice none 0 0)] []).bind fun t108 =>
  (stN r1.2.1 1 t2 t108).bind fun h3 =>
  some ⟨.ret,[t2,(.int .i64 4),t4,t5,t7,t8,t9,t10,t11,t14],h3,(r1.2.2+1),df⟩)
  ((Z00 P .sub 5 t101 (.int .u8 48)).bind fun t112 =>
  (cnvI .i64 t112).bind fun t113 =>
  (ixA 4 5 t10 t11).bind fun t114 =>
  (Z03 t114 1).bind fun t115 =>
  (ixA 4 1 t115 t14).bind fun t116 =>
  (stN r1.2.1 1 t116 t113).bind fun h6 =>
  (Z00 P .add 3 t14 (.int .i64 1)).bind fun t94 =>
  some ⟨.normal,[t2,t3,t4,t5,t7,t8,t9,t10,t11,t94],h6,(r1.2.2+1+1),df⟩))
 (some ⟨(.exit 4),[t2,t3,t4,t5,t7,t8,t9,t10,t11,t14],h,(c+1),df⟩)
theorem Z9W (o:Orc H) (rd:Option Nat) (t2 t3 t4 t5 t7 t8 t9 t10 t11 t14:Value) (h:H) (c:Nat) (df:List Nat):jx P o 135 rd Z2P (Z0n [2,3,4,5,7,8,9,10,11,14] [t2,t3,t4,t5,t7,t8,t9,t10,t11,t14]) h c df (Klp [2,3,4,5,7,8,9,10,11,14])=Z6v o rd t2 t3 t4 t5 t7 t8 t9 t10 t11 t14 h c df:=by kernel_rfl
noncomputable def Z6w (o:Orc H) (rd:Option Nat) (t2 t3 t4 t5 t7 t8 t9 t10 t11:Value) (h:H) (c:Nat) (df:List Nat):Option (Rt H) :=
 (Z00 P .lss 3 t11 (.int .i64 4)).bind fun t42 =>
 Z0b t42
 (((Z3P t4).bind fun t47 =>
  (Z00 P .geq 3 t8 t47).bind fun t48 =>
  Z0b t48
   ((Z1M [(.slice none 0 0)] []).bind fun t49 =>
   (stN h 1 t2 t49).bind fun h1 =>
   some ⟨.ret,[t2,(.int .i64 4),t4,t5,t7,t8,t9,t10,t11],h1,(c+1+1+1),df⟩)
   ((ixS 1 t4 t8).bind fun t52 =>
   (ld1 h t52).bind fun t53 =>
   (Z00 P .eql 9 t53 (.string (ByteArray.mk #[45]))).bind fun t54 =>
   Z0b t54
    ((ixA 4 5 t10 t11).bind fun t56 =>
    (Z03 t56 0).bind fun t57 =>
    (stN h 1 t57 (.int .i64 (-1))).bind fun h4 =>
    (Z00 P .add 3 t8 (.int .i64 1)).bind fun t59 =>
    some ⟨.normal,[t2,t3,t4,t5,t7,t59,t9,t10,t11],h4,(c+1+1+1+1+1),df⟩)
    ((ixS 1 t4 t8).bind fun t63 =>
    (ld1 h t63).bind fun t64 =>
    (callF o 84 [t64] h (c+1+1+1+1)).bind fun r6 =>
    (Z3K r6.1 0).bind fun t66 =>
    (Z3K r6.1 1).bind fun t67 =>
    (Z3O .not t67).bind fun t69 =>
    (gd t69 false r6.2.1 (r6.2.2+1) (some t8)).bind fun r7 =>
    (gd t69 false r7.2.1 r7.2.2 (Z00 P .add 3 r7.1 (.int .i64 1))).bind fun r8 =>
    (gd t69 false r8.2.1 r8.2.2 (some t4)).bind fun r9 =>
    (gg t69 false r9.2.1 r9.2.2 (((Z3P r9.1).bind fun v=>some (v,r9.2.1)).bind fun r=>some (r.1,r.2,r9.2.2))).bind fun r10 =>
    (gd t69 false r10.2.1 r10.2.2 (Z00 P .geq 3 r8.1 r10.1)).bind fun r11 =>
    (Z0X t69 (.bool true) r11.1).bind fun t76 =>
    (gd t76 false r11.2.1 r11.2.2 (some t4)).bind fun r12 =>
    (gd t76 false r12.2.1 r12.2.2 (some t8)).bind fun r13 =>
    (gd t76 false r13.2.1 r13.2.2 (Z00 P .add 3 r13.1 (.int .i64 1))).bind fun r14 =>
    (gd t76 false r14.2.1 r14.2.2 (ixS 1 r12.1 r14.1)).bind fun r15 =>
    (gd t76 false r15.2.1 r15.2.2 (ld1 r15.2.1 r15.1)).bind fun r16 =>
    (gg t76 false r16.2.1 r16.2.2 (((ZaY P r16.2.1 9 r16.1).bind fun v=>some (v,r16.2.1)).bind fun r=>some (r.1,r.2,r16.2.2))).bind fun r17 =>
    (gd t76 false r17.2.1 r17.2.2 (Z00 P .neq 3 r17.1 (.int .i64 4))).bind fun r18 =>
    (Z0X t76 (.bool true) r18.1).bind fun t85 =>
    Z0b t85
     ((Z1M [(.slice none 0 0)] []).bind fun t86 =>
     (stN r18.2.1 1 t2 t86).bind fun h20 =>
     some ⟨.ret,[t2,(.int .i64 4),t4,t5,t7,t8,t9,t10,t11],h20,(r18.2.2+1),df⟩)
     ((ixA 4 5 t10 t11).bind fun t89 =>
     (Z03 t89 0).bind fun t90 =>
     (stN r18.2.1 1 t90 t66).bind fun h23 =>
     (o (ZeJ rd) [t2,t3,t4,t5,t7,t8,t9,t10,t11,(.int .i64 0)] h23 (r18.2.2+1+1) df).bind fun r24 =>
     cond (Z0B r24.e (.exit 4))
      ((Z00 P .add 3 (r24.v 5) (.int .i64 2)).bind fun t118 =>
      some ⟨.normal,[r24.v 0,r24.v 1,r24.v 2,r24.v 3,r24.v 4,t118,r24.v 6,r24.v 7,r24.v 8],r24.h,(r24.c+1),r24.df⟩)
      (cond (Z0B r24.e .ret)
       (some ⟨.ret,[r24.v 0,r24.v 1,r24.v 2,r24.v 3,r24.v 4,r24.v 5,r24.v 6,r24.v 7,r24.v 8],r24.h,r24.c,r24.df⟩)
       (none))))):Option (Rt H)).bind fun r26 =>
 cond (Z0B r26.e .ret)
  (some ⟨.ret,[r26.v 0,r26.v 1,r26.v 2,r26.v 3,r26.v 4,r26.v 5,r26.v 6,r26.v 7,r26.v 8],r26.h,r26.c,r26.df⟩)
  (cond (Z0B r26.e .normal)
   ((Z00 P .add 3 (r26.v 8) (.int .i64 1)).bind fun t44 =>
   some ⟨.normal,[r26.v 0,r26.v 1,r26.v 2,r26.v 3,r26.v 4,r26.v 5,r26.v 6,r26.v 7,t44],r26.h,(r26.c+1),r26.df⟩)
   (none)))
 (some ⟨(.exit 2),[t2,t3,t4,t5,t7,t8,t9,t10,t11],h,(c+1),df⟩)
theorem Z9X (o:Orc H) (rd:Option Nat) (t2 t3 t4 t5 t7 t8 t9 t10 t11:Value) (h:H) (c:Nat) (df:List Nat):jx P o 135 rd Z2Q (Z0n [2,3,4,5,7,8,9,10,11] [t2,t3,t4,t5,t7,t8,t9,t10,t11]) h c df (Klp [2,3,4,5,7,8,9,10,11])=Z6w o rd t2 t3 t4 t5 t7 t8 t9 t10 t11 h c df:=by kernel_rfl
noncomputable def Z6x (o:Orc H) (rd:Option Nat) (t2 t3 t4 t5 t7 t8 t9:Value) (h:H) (c:Nat) (df:List Nat):Option (Rt H) :=
 (Z00 P .lss 3 t9 t5).bind fun t38 =>
 Z0b t38
 ((o (ZeK rd) [t2,t3,t4,t5,t7,t8,t9,(ptrTo (256*(c+1)+0)),(.int .i64 0)] (newB h (256*(c+1)+0) [(.int .i64 0),(.int .i64 0),(.int .i64 0),(.int .i64 0),(.int .i64 0),(.int .i64 0),(.int .i64 0),(.int .i64 0),(.int .i64 0),(.int .i64 0),(.int .i64 0),(.int .i64 0),(.int .i64 0),(.int .i64 0),(.int .i64 0),(.int .i64 0),(.int .i64 0),(.int .i64 0),(.int .i64 0),(.int .i64 0)]) (c+1+1+1) df).bind fun r0 =>
 cond (Z0B r0.e (.exit 2))
  ((Z03 (r0.v 4) 0).bind fun t119 =>
  (ld1 r0.h t119).bind fun t120 =>
  (ldN r0.h 20 (r0.v 7)).bind fun t121 =>
  (Zag [(.int .i64 0),(.int .i64 0),(.int .i64 0),(.int .i64 0),(.int .i64 0),(.int .i64 0),(.int .i64 0),(.int .i64 0),(.int .i64 0),(.int .i64 0),(.int .i64 0),(.int .i64 0),(.int .i64 0),(.int .i64 0),(.int .i64 0),(.int .i64 0),(.int .i64 0),(.int .i64 0),(.int .i64 0),(.int .i64 0)] [(0,20,t121)]).bind fun r1 =>
  (Z6X (newB r0.h (256*r0.c+3) r1) (256*r0.c+4) 20 160 t120 (.slice (some ⟨(256*r0.c+3),0,none⟩) 1 1)).bind fun r2 =>
  (Z03 (r0.v 4) 0).bind fun t124 =>
  (stN r2.2 1 t124 r2.1).bind fun h4 =>
  (Z00 P .add 3 (r0.v 6) (.int .i64 1)).bind fun t40 =>
  some ⟨.normal,[r0.v 0,r0.v 1,r0.v 2,r0.v 3,r0.v 4,r0.v 5,t40],h4,(r0.c+1+1),r0.df⟩)
  (cond (Z0B r0.e .ret)
   (some ⟨.ret,[r0.v 0,r0.v 1,r0.v 2,r0.v 3,r0.v 4,r0.v 5,r0.v 6],r0.h,r0.c,r0.df⟩)
   (none)))
 (some ⟨(.exit 0),[t2,t3,t4,t5,t7,t8,t9],h,(c+1),df⟩)
theorem Z9Y (o:Orc H) (rd:Option Nat) (t2 t3 t4 t5 t7 t8 t9:Value) (h:H) (c:Nat) (df:List Nat):jx P o 135 rd Z2R (Z0n [2,3,4,5,7,8,9] [t2,t3,t4,t5,t7,t8,t9]) h c df (Klp [2,3,4,5,7,8,9])=Z6x o rd t2 t3 t4 t5 t7 t8 t9 h c df:=by kernel_rfl
noncomputable def Zlw (o:Orc H) (t0:Value) (h:H) (c:Nat):Option (Rt H) :=
 (ZaY P (newB h (256*c+0) [(.slice none 0 0)]) 9 t0).bind fun t17 =>
 (Z00 P .gtr 3 t17 (.int .i64 200000)).bind fun t18 =>
 Z0b t18
 ((Z1M [(.slice none 0 0)] []).bind fun t19 =>
 (stN (newB h (256*c+0) [(.slice none 0 0)]) 1 (ptrTo (256*c+0)) t19).bind fun h1 =>
 (ldN h1 1 (ptrTo (256*c+0))).bind fun v2 =>
 some ⟨.ret,[.tuple #[v2,(.int .i64 2)]],h1,(c+1+1+1),[]⟩)
 ((callF o 83 [t0] (newB h (256*c+0) [(.slice none 0 0)]) (c+1+1+1)).bind fun r3 =>
 (Z3P r3.1).bind fun t23 =>
 (Z00 P .eql 3 t23 (.int .i64 0)).bind fun t24 =>
 Z0b t24
  ((Z1M [(.slice none 0 0)] []).bind fun t25 =>
  (stN r3.2.1 1 (ptrTo (256*c+0)) t25).bind fun h5 =>
  (ldN h5 1 (ptrTo (256*c+0))).bind fun v6 =>
  some ⟨.ret,[.tuple #[v6,(.int .i64 4)]],h5,(r3.2.2+1+1),[]⟩)
  ((ixS 1 r3.1 (.int .i64 0)).bind fun t28 =>
  (ld1 r3.2.1 t28).bind fun t29 =>
  (callF o 84 [t29] r3.2.1 (r3.2.2+1+1)).bind fun r7 =>
  (Z3K r7.1 0).bind fun t31 =>
  (Z3K r7.1 1).bind fun t32 =>
  (Z3O .not t32).bind fun t34 =>
  Z0b t34
   ((Z1M [(.slice none 0 0)] []).bind fun t35 =>
   (stN r7.2.1 1 (ptrTo (256*c+0)) t35).bind fun h9 =>
   (ldN h9 1 (ptrTo (256*c+0))).bind fun v10 =>
   some ⟨.ret,[.tuple #[v10,(.int .i64 4)]],h9,(r7.2.2+1+1),[]⟩)
   ((o (ZeL none) [(ptrTo (256*c+0)),(.int .i64 0),r3.1,t31,(ptrTo (256*(r7.2.2+1)+0)),(.int .i64 1),(.int .i64 0)] (newB r7.2.1 (256*(r7.2.2+1)+0) [(.slice none 0 0)]) (r7.2.2+1+1+1+1) []).bind fun r11 =>
   cond (Z0B r11.e (.exit 0))
    ((Z3P (r11.v 2)).bind fun t127 =>
    (Z00 P .neq 3 (r11.v 5) t127).bind fun t128 =>
    Z0b t128
     ((Z1M [(.slice none 0 0)] []).bind fun t129 =>
     (stN r11.h 1 (r11.v 0) t129).bind fun h15 =>
     (Z0c h15 r11.df).bind fun h16 =>
     (ldN h16 1 (r11.v 0)).bind fun v17 =>
     some ⟨.ret,[.tuple #[v17,(.int .i64 4)]],h16,(r11.c+1+1),[]⟩)
     ((ldN r11.h 1 (r11.v 4)).bind fun t130 =>
     (callF o 14 [t130] r11.h (r11.c+1+1)).bind fun r18 =>
     (Z00 P .neq 33 r18.1 (.int .i64 0)).bind fun t132 =>
     Z0b t132
      ((Z1M [(.slice none 0 0)] []).bind fun t133 =>
      (stN r18.2.1 1 (r11.v 0) t133).bind fun h20 =>
      (Z0c h20 r11.df).bind fun h21 =>
      (ldN h21 1 (r11.v 0)).bind fun v22 =>
      some ⟨.ret,[.tuple #[v22,(.int .i64 7)]],h21,(r18.2.2+1),[]⟩)
      ((ldN r18.2.1 1 (r11.v 4)).bind fun t134 =>
      (stN r18.2.1 1 (r11.v 0) t134).bind fun h24 =>
      (Z0c h24 r11.df).bind fun h25 =>
      (ldN h25 1 (r11.v 0)).bind fun v26 =>
      some ⟨.ret,[.tuple #[v26,(.int .i64 0)]],h25,(r18.2.2+1),[]⟩)))
    (cond (Z0B r11.e .ret)
     ((Z0c r11.h r11.df).bind fun h12 =>
     (ldN h12 1 (r11.v 0)).bind fun v13 =>
     some ⟨.ret,[.tuple #[v13,r11.v 1]],h12,r11.c,[]⟩)
     (none)))))
theorem ZjD (o:Orc H) (t0:Value) (h:H) (c:Nat):jx P o 135 none f62_c (Z0n (List.range 1) [t0]) h c [] (Kfn P Try.f62.results.toList)=Zlw o t0 h c:=by kernel_rfl
noncomputable def ZgD (o:Orc H) (t0:Value) (h:H) (c:Nat):Option (Rt H) :=
 (bif (t0:Value).cells.toList.all Z09 then
 some ⟨.ret,[(.func (.func 85) [].toArray [(ptrTo (256*c+0))].toArray)],(newB h (256*c+0) (t0:Value).cells.toList),(c+1+1),[]⟩
 else none)
theorem Zdz (o:Orc H) (t0:Value) (h:H) (c:Nat):jx P o 4 none f63_c (Z0n (List.range 1) [t0]) h c [] (Kfn P Try.f63.results.toList)=ZgD o t0 h c:=by kernel_rfl
theorem f63_go {t0:Value} {h:FH} {c:Nat} {df:List Nat} {r:Rt FH} (e:ZgD G t0 h c=some r):G (.fn 63) [t0] h c df=some r:=Z0r (a:=ZbJ) bk_63 rfl (fun args h c=>by cases args <;> rfl) rfl ((Zdz G t0 h c).trans e)
noncomputable def Z26 (o:Orc H) (rd:Option Nat) (t2 t3 t6 t7:Value) (h:H) (c:Nat) (df:List Nat):Option (Rt H) :=
 (Z00 P .lss 3 t7 (.int .i64 4)).bind fun t8 =>
 Z0b t8
 ((ixV 4 false 1 t6 t7).bind fun t10 =>
 (ixA 4 1 t3 t10).bind fun t13 =>
 (stN h 1 t13 t7).bind fun h1 =>
 (Z00 P .add 3 t7 (.int .i64 1)).bind fun t14 =>
 some ⟨.normal,[t2,t3,t6,t14],h1,(c+1+1+1+1),df⟩)
 (some ⟨(.exit 0),[t2,t3,t6,t7],h,(c+1),df⟩)
theorem Z4C (o:Orc H) (rd:Option Nat) (t2 t3 t6 t7:Value) (h:H) (c:Nat) (df:List Nat):jx P o 16 rd Z2O (Z0n [2,3,6,7] [t2,t3,t6,t7]) h c df (Klp [2,3,6,7])=Z26 o rd t2 t3 t6 t7 h c df:=by kernel_rfl
noncomputable def ZgC (o:Orc H) (t0:Value) (h:H) (c:Nat):Option (Rt H) :=
 (bif (t0:Value).cells.toList.all Z09 then
 (ldN (newB (newB (newB h (256*c+0) (t0:Value).cells.toList) (256*c+1) [(.int .i64 0),(.int .i64 0),(.int .i64 0),(.int .i64 0)]) (256*(c+1)+0) [(.int .i64 0),(.int .i64 0),(.int .i64 0),(.int .i64 0)]) 4 (ptrTo (256*c+0))).bind fun t6 =>
 (o (Z41 none) [(ptrTo (256*c+1)),(ptrTo (256*(c+1)+0)),t6,(.int .i64 0)] (newB (newB (newB h (256*c+0) (t0:Value).cells.toList) (256*c+1) [(.int .i64 0),(.int .i64 0),(.int .i64 0),(.int .i64 0)]) (256*(c+1)+0) [(.int .i64 0),(.int .i64 0),(.int .i64 0),(.int .i64 0)]) (c+1+1+1) []).bind fun r0 =>
 cond (Z0B r0.e (.exit 0))
 ((ldN r0.h 4 (r0.v 1)).bind fun t15 =>
 (stN r0.h 4 (r0.v 0) t15).bind fun h2 =>
 (Z0c h2 r0.df).bind fun h3 =>
 (ldN h3 4 (r0.v 0)).bind fun v4 =>
 some ⟨.ret,[v4],h3,(r0.c+1),[]⟩)
 (none)
 else none)
theorem Zdy (o:Orc H) (t0:Value) (h:H) (c:Nat):jx P o 16 none f64_c (Z0n (List.range 1) [t0]) h c [] (Kfn P Try.f64.results.toList)=ZgC o t0 h c:=by kernel_rfl
theorem f64_go {t0:Value} {h:FH} {c:Nat} {df:List Nat} {r:Rt FH} (e:ZgC G t0 h c=some r):G (.fn 64) [t0] h c df=some (gcR h c [] r):=Z0r (a:=ZbI) bk_64 rfl (fun args h c=>by cases args <;> rfl) rfl ((Zdy G t0 h c).trans e)
theorem ZeI {rd:Option Nat} {t2 t3 t6 t7:Value} {h:FH} {c:Nat} {df:List Nat} {q r:Rt FH} (e:Z26 G rd t2 t3 t6 t7 h c df=some q) (hq:q.e = .normal) (k:G (Z41 rd) q.vs (gcR h c df q).h (gcR h c df q).c q.df=some r):G (Z41 rd) [t2,t3,t6,t7] h c df=some r:=Z0I ((Z4C G rd t2 t3 t6 t7 h c df).trans e) hq k
theorem ZeH {rd:Option Nat} {t2 t3 t6 t7:Value} {h:FH} {c:Nat} {df:List Nat} {q:Rt FH} (e:Z26 G rd t2 t3 t6 t7 h c df=some q) (hq:q.e ≠ .normal):G (Z41 rd) [t2,t3,t6,t7] h c df=some (gcR h c df q):=Z0J ((Z4C G rd t2 t3 t6 t7 h c df).trans e) hq
noncomputable def Z25 (o:Orc H) (rd:Option Nat) (t0 t1 t4 t5 t6 t7 t9 t23 t24 t25 t29:Value) (h:H) (c:Nat) (df:List Nat):Option (Rt H) :=
 (Z00 P .lss 3 t29 (.int .i64 4)).bind fun t30 =>
 Z0b t30
 (((ixA 2 1 t9 (.int .i64 1)).bind fun t33 =>
  (ld1 h t33).bind fun t34 =>
  (Z00 P .eql 3 t29 t34).bind fun t35 =>
  Z0b t35
   (some ⟨.normal,[t0,t1,t4,t5,t6,t7,t9,t23,t24,t25,t29],h,(c+1+1+1),df⟩)
   ((ixA 2 1 t9 (.int .i64 0)).bind fun t38 =>
   (ld1 h t38).bind fun t39 =>
   (Z00 P .mul 3 (.int .i64 16) t39).bind fun t40 =>
   (ixA 2 1 t9 (.int .i64 1)).bind fun t41 =>
   (ld1 h t41).bind fun t42 =>
   (Z00 P .mul 3 (.int .i64 4) t42).bind fun t43 =>
   (Z00 P .add 3 t40 t43).bind fun t44 =>
   (Z00 P .add 3 t44 t29).bind fun t46 =>
   (ixS 1 t1 t46).bind fun t47 =>
   (ld1 h t47).bind fun t48 =>
   (Z0D P h 146 t6 t48 (.bool true)).bind fun h1 =>
   (Z0a t0).bind fun t50 =>
   (Z03 t50 0).bind fun t51 =>
   (Z03 t51 0).bind fun t52 =>
   (ld1 h1 t52).bind fun t53 =>
   (ixA 2 1 t9 (.int .i64 0)).bind fun t54 =>
   (ld1 h1 t54).bind fun t55 =>
   (ixS 20 t53 t55).bind fun t57 =>
   (ixA 4 5 t57 t29).bind fun t58 =>
   (Z03 t58 0).bind fun t59 =>
   (ld1 h1 t59).bind fun t60 =>
   (Z00 P .lss 3 t60 (.int .i64 0)).bind fun t61 =>
   (Z0b t61
    ((Z03 t5 1).bind fun t62 =>
    (ld1 h1 t62).bind fun t63 =>
    (Z00 P .add 3 t63 (.int .i64 1)).bind fun t64 =>
    (Z03 t5 1).bind fun t65 =>
    (stN h1 1 t65 t64).bind fun h3 =>
    (Z03 t5 4).bind fun t66 =>
    (stN h3 1 t66 (.bool false)).bind fun h5 =>
    some ⟨.normal,[t0,t1,t4,t5,t6,t7,t9,t23,t24,t25,t29],h5,(c+1+1+1+1+1+1+1),df⟩)
    ((Z00 P .add 3 t7 (.int .i64 1)).bind fun t68 =>
    some ⟨.normal,[t0,t1,t4,t5,t6,t68,t9,t23,t24,t25,t29],h1,(c+1+1+1+1+1+1),df⟩):Option (Rt H)).bind fun r7 =>
   cond (Z0B r7.e .normal)
    (some ⟨.normal,[r7.v 0,r7.v 1,r7.v 2,r7.v 3,r7.v 4,r7.v 5,r7.v 6,r7.v 7,r7.v 8,r7.v 9,r7.v 10],r7.h,r7.c,r7.df⟩)
    (none)):Option (Rt H)).bind fun r8 =>
 cond (Z0B r8.e .normal)
  ((Z00 P .add 3 (r8.v 10) (.int .i64 1)).bind fun t69 =>
  some ⟨.normal,[r8.v 0,r8.v 1,r8.v 2,r8.v 3,r8.v 4,r8.v 5,r8.v 6,r8.v 7,r8.v 8,r8.v 9,t69],r8.h,(r8.c+1),r8.df⟩)
  (none))
 (some ⟨(.exit 2),[t0,t1,t4,t5,t6,t7,t9,t23,t24,t25,t29],h,(c+1),df⟩)
theorem Z1T (o:Orc H) (rd:Option Nat) (t0 t1 t4 t5 t6 t7 t9 t23 t24 t25 t29:Value) (h:H) (c:Nat) (df:List Nat):jx P o 90 rd Z2M (Z0n [0,1,4,5,6,7,9,23,24,25,29] [t0,t1,t4,t5,t6,t7,t9,t23,t24,t25,t29]) h c df (Klp [0,1,4,5,6,7,9,23,24,25,29])=Z25 o rd t0 t1 t4 t5 t6 t7 t9 t23 t24 t25 t29 h c df:=by kernel_rfl
noncomputable def Z40 (o:Orc H) (rd:Option Nat) (t0 t1 t4 t5 t6 t7 t23 t24 t25:Value) (h:H) (c:Nat) (df:List Nat):Option (Rt H) :=
 (Z00 P .lss 3 t25 t24).bind fun t26 =>
 Z0b t26
 ((ixS 2 t23 t25).bind fun t27 =>
 (ldN h 2 t27).bind fun t28 =>
 (stN (newB h (256*(c+1)+2) [(.int .i64 0),(.int .i64 0)]) 2 (ptrTo (256*(c+1)+2)) t28).bind fun h1 =>
 (o (Z8P rd) [t0,t1,t4,t5,t6,t7,(ptrTo (256*(c+1)+2)),t23,t24,t25,(.int .i64 0)] h1 (c+1+1+1) df).bind fun r2 =>
 cond (Z0B r2.e (.exit 2))
  ((Z00 P .add 3 (r2.v 9) (.int .i64 1)).bind fun t70 =>
  some ⟨.normal,[r2.v 0,r2.v 1,r2.v 2,r2.v 3,r2.v 4,r2.v 5,r2.v 7,r2.v 8,t70],r2.h,(r2.c+1),r2.df⟩)
  (none))
 (some ⟨(.exit 0),[t0,t1,t4,t5,t6,t7,t23,t24,t25],h,(c+1),df⟩)
theorem Z4B (o:Orc H) (rd:Option Nat) (t0 t1 t4 t5 t6 t7 t23 t24 t25:Value) (h:H) (c:Nat) (df:List Nat):jx P o 90 rd Z2N (Z0n [0,1,4,5,6,7,23,24,25] [t0,t1,t4,t5,t6,t7,t23,t24,t25]) h c df (Klp [0,1,4,5,6,7,23,24,25])=Z40 o rd t0 t1 t4 t5 t6 t7 t23 t24 t25 h c df:=by kernel_rfl
noncomputable def ZgB (o:Orc H) (t0 t1:Value) (h:H) (c:Nat):Option (Rt H) :=
 (Z0a t0).bind fun t12 =>
 (Z03 t12 1).bind fun t13 =>
 (ld1 (newB h (256*c+0) [(.int .i64 0),(.int .i64 0),(.int .i64 0),(.int .i64 0),(.bool false),(.bool false)]) t13).bind fun t14 =>
 (Z3P t14).bind fun t15 =>
 (callF o 86 [t0] (newB h (256*c+0) [(.int .i64 0),(.int .i64 0),(.int .i64 0),(.int .i64 0),(.bool false),(.bool false)]) (c+1+1)).bind fun r0 =>
 (Z1M [(.int .i64 0),(.int .i64 0),(.int .i64 0),(.int .i64 0),(.bool false),(.bool false)] [(0,1,t15),(4,1,(.bool true)),(5,1,r0.1)]).bind fun t18 =>
 (stN (newB r0.2.1 (256*(c+1)+8) [(.int .i64 0),(.int .i64 0),(.int .i64 0),(.int .i64 0),(.bool false),(.bool false)]) 6 (ptrTo (256*(c+1)+8)) t18).bind fun h2 =>
 (bif (Z1r (Z2y t13) (newB h (256*c+0) [(.int .i64 0),(.int .i64 0),(.int .i64 0),(.int .i64 0),(.bool false),(.bool false)]) r0.2.1 && (Z1r (Z2y t14) (newB h (256*c+0) [(.int .i64 0),(.int .i64 0),(.int .i64 0),(.int .i64 0),(.bool false),(.bool false)]) r0.2.1 && true)) then
 (Z0a t0).bind fun t21 =>
 (Z03 t21 1).bind fun t22 =>
 (ld1 (HeapC.set h2 (256*r0.2.2+0) (.map [])) t22).bind fun t23 =>
 (Z3P t23).bind fun t24 =>
 (o (Z8Q none) [t0,t1,(ptrTo (256*c+0)),(ptrTo (256*(c+1)+8)),(.map (some (256*r0.2.2+0))),(.int .i64 0),t23,t24,(.int .i64 0)] (HeapC.set h2 (256*r0.2.2+0) (.map [])) (r0.2.2+1+1+1) []).bind fun r3 =>
 cond (Z0B r3.e (.exit 0))
 ((Z03 (r3.v 3) 1).bind fun t71 =>
 (ld1 r3.h t71).bind fun t72 =>
 (Z00 P .quo 3 (r3.v 5) (.int .i64 2)).bind fun t74 =>
 (Z00 P .add 3 t72 t74).bind fun t75 =>
 (Z03 (r3.v 3) 1).bind fun t76 =>
 (stN r3.h 1 t76 t75).bind fun h5 =>
 (ZaY P h5 146 (r3.v 4)).bind fun t78 =>
 (Z03 (r3.v 3) 2).bind fun t79 =>
 (stN h5 1 t79 t78).bind fun h7 =>
 (Z03 (r3.v 3) 2).bind fun t80 =>
 (ld1 h7 t80).bind fun t81 =>
 (Z03 (r3.v 3) 1).bind fun t82 =>
 (ld1 h7 t82).bind fun t83 =>
 (Z00 P .sub 3 t81 t83).bind fun t84 =>
 (Z03 (r3.v 3) 0).bind fun t85 =>
 (ld1 h7 t85).bind fun t86 =>
 (Z00 P .add 3 t84 t86).bind fun t87 =>
 (Z03 (r3.v 3) 3).bind fun t88 =>
 (stN h7 1 t88 t87).bind fun h9 =>
 (ldN h9 6 (r3.v 3)).bind fun t89 =>
 (stN h9 6 (r3.v 2) t89).bind fun h11 =>
 (Z0c h11 r3.df).bind fun h12 =>
 (ldN h12 6 (r3.v 2)).bind fun v13 =>
 some ⟨.ret,[v13],h12,(r3.c+1+1+1+1),[]⟩)
 (none)
 else none)
theorem Zdx (o:Orc H) (t0 t1:Value) (h:H) (c:Nat):jx P o 90 none f65_c (Z0n (List.range 2) [t0,t1]) h c [] (Kfn P Try.f65.results.toList)=ZgB o t0 t1 h c:=by kernel_rfl
theorem f65_go {t0 t1:Value} {h:FH} {c:Nat} {df:List Nat} {r:Rt FH} (e:ZgB G t0 t1 h c=some r):G (.fn 65) [t0,t1] h c df=some (gcR h c [] r):=Z0r (a:=ZbH) bk_65 rfl (fun args h c=>by cases args <;> rfl) rfl ((Zdx G t0 t1 h c).trans e)
noncomputable def Z3Z (o:Orc H) (rd:Option Nat) (t2 t3 t10 t11:Value) (h:H) (c:Nat) (df:List Nat):Option (Rt H) :=
 (Z00 P .lss 3 t11 t10).bind fun t12 =>
 Z0b t12
 ((Z03 t3 0).bind fun t14 =>
 (ld1 h t14).bind fun t15 =>
 (ixS 1 t15 t11).bind fun t18 =>
 (stN h 1 t18 t11).bind fun h1 =>
 (Z00 P .add 3 t11 (.int .i64 1)).bind fun t19 =>
 some ⟨.normal,[t2,t3,t10,t19],h1,(c+1+1+1+1),df⟩)
 (some ⟨(.exit 0),[t2,t3,t10,t11],h,(c+1),df⟩)
theorem Z4A (o:Orc H) (rd:Option Nat) (t2 t3 t10 t11:Value) (h:H) (c:Nat) (df:List Nat):jx P o 21 rd Z2L (Z0n [2,3,10,11] [t2,t3,t10,t11]) h c df (Klp [2,3,10,11])=Z3Z o rd t2 t3 t10 t11 h c df:=by kernel_rfl
noncomputable def ZgA (o:Orc H) (t0:Value) (h:H) (c:Nat):Option (Rt H) :=
 (mkS 1 8 [(.int .i64 0)] t0 t0).bind fun r0 =>
 (Z1M [(.slice none 0 0)] [(0,1,(.slice (some ⟨(256*(c+1)+1),0,none⟩) r0.2.1 r0.2.2))]).bind fun t7 =>
 (stN (newB (newB (newB h (256*c+0) [(.slice none 0 0)]) (256*(c+1)+1) r0.1) (256*(c+1)+3) [(.slice none 0 0)]) 1 (ptrTo (256*(c+1)+3)) t7).bind fun h2 =>
 (Z03 (ptrTo (256*(c+1)+3)) 0).bind fun t8 =>
 (ld1 h2 t8).bind fun t9 =>
 (Z3P t9).bind fun t10 =>
 (o (Z8O none) [(ptrTo (256*c+0)),(ptrTo (256*(c+1)+3)),t10,(.int .i64 0)] h2 (c+1+1+1) []).bind fun r3 =>
 cond (Z0B r3.e (.exit 0))
 ((ldN r3.h 1 (r3.v 1)).bind fun t20 =>
 (stN r3.h 1 (r3.v 0) t20).bind fun h5 =>
 (Z0c h5 r3.df).bind fun h6 =>
 (ldN h6 1 (r3.v 0)).bind fun v7 =>
 some ⟨.ret,[v7],h6,(r3.c+1),[]⟩)
 (none)
theorem Zdw (o:Orc H) (t0:Value) (h:H) (c:Nat):jx P o 21 none f66_c (Z0n (List.range 1) [t0]) h c [] (Kfn P Try.f66.results.toList)=ZgA o t0 h c:=by kernel_rfl
theorem f66_go {t0:Value} {h:FH} {c:Nat} {df:List Nat} {r:Rt FH} (e:ZgA G t0 h c=some r):G (.fn 66) [t0] h c df=some r:=Z0r (a:=ZbG) bk_66 rfl (fun args h c=>by cases args <;> rfl) rfl ((Zdw G t0 h c).trans e)
noncomputable def ZeG (o:Orc H) (t0 t1 t2:Value) (h:H) (c:Nat):Option (Rt H) :=
 (callF o 68 [t0,t1] h (c+1)).bind fun r0 =>
 (callF o 68 [t0,t2] r0.2.1 r0.2.2).bind fun r1 =>
 (Z0a t0).bind fun t13 =>
 (Z03 t13 0).bind fun t14 =>
 (ld1 r1.2.1 t14).bind fun t15 =>
 (Z4u max2 [r0.1,r1.1]).bind fun t18 =>
 (Z4u min2 [r0.1,r1.1]).bind fun t21 =>
 (ixS 1 t15 t18).bind fun t22 =>
 (stN r1.2.1 1 t22 t21).bind fun h5 =>
 some ⟨.ret,[.tuple #[]],h5,(r1.2.2+1),[]⟩
theorem Zdv (o:Orc H) (t0 t1 t2:Value) (h:H) (c:Nat):jx P o 23 none f67_c (Z0n (List.range 3) [t0,t1,t2]) h c [] (Kfn P Try.f67.results.toList)=ZeG o t0 t1 t2 h c:=by kernel_rfl
theorem f67_go {t0 t1 t2:Value} {h:FH} {c:Nat} {df:List Nat} {r:Rt FH} (e:ZeG G t0 t1 t2 h c=some r):G (.fn 67) [t0,t1,t2] h c df=some (gcR h c [] r):=Z0r (a:=ZbF) bk_67 rfl (fun args h c=>by cases args <;> rfl) rfl ((Zdv G t0 t1 t2 h c).trans e)
noncomputable def Z5l (o:Orc H) (rd:Option Nat) (t0 t1:Value) (h:H) (c:Nat) (df:List Nat):Option (Rt H) :=
 (Z0a t0).bind fun t6 =>
 (Z03 t6 0).bind fun t7 =>
 (ld1 h t7).bind fun t8 =>
 (ixS 1 t8 t1).bind fun t10 =>
 (ld1 h t10).bind fun t11 =>
 (Z00 P .neq 3 t11 t1).bind fun t13 =>
 Z0b t13
 ((Z0a t0).bind fun t15 =>
 (Z03 t15 0).bind fun t16 =>
 (ld1 h t16).bind fun t17 =>
 (Z0a t0).bind fun t20 =>
 (Z03 t20 0).bind fun t21 =>
 (ld1 h t21).bind fun t22 =>
 (Z0a t0).bind fun t24 =>
 (Z03 t24 0).bind fun t25 =>
 (ld1 h t25).bind fun t26 =>
 (ixS 1 t26 t1).bind fun t28 =>
 (ld1 h t28).bind fun t29 =>
 (ixS 1 t22 t29).bind fun t30 =>
 (ld1 h t30).bind fun t31 =>
 (ixS 1 t17 t1).bind fun t32 =>
 (stN h 1 t32 t31).bind fun h1 =>
 (Z0a t0).bind fun t34 =>
 (Z03 t34 0).bind fun t35 =>
 (ld1 h1 t35).bind fun t36 =>
 (ixS 1 t36 t1).bind fun t38 =>
 (ld1 h1 t38).bind fun t39 =>
 some ⟨.normal,[t0,t39],h1,(c+1+1+1),df⟩)
 (some ⟨(.exit 0),[t0,t1],h,(c+1),df⟩)
theorem Z63 (o:Orc H) (rd:Option Nat) (t0 t1:Value) (h:H) (c:Nat) (df:List Nat):jx P o 41 rd Z2K (Z0n [0,1] [t0,t1]) h c df (Klp [0,1])=Z5l o rd t0 t1 h c df:=by kernel_rfl
noncomputable def ZeF (o:Orc H) (t0 t1:Value) (h:H) (c:Nat):Option (Rt H) :=
 (o (Z8N none) [t0,t1] h (c+1) []).bind fun r0 =>
 cond (Z0B r0.e (.exit 0))
 ((Z0c r0.h r0.df).bind fun h1 =>
 some ⟨.ret,[r0.v 1],h1,(r0.c+1),[]⟩)
 (none)
theorem Zdu (o:Orc H) (t0 t1:Value) (h:H) (c:Nat):jx P o 41 none f68_c (Z0n (List.range 2) [t0,t1]) h c [] (Kfn P Try.f68.results.toList)=ZeF o t0 t1 h c:=by kernel_rfl
theorem f68_go {t0 t1:Value} {h:FH} {c:Nat} {df:List Nat} {r:Rt FH} (e:ZeF G t0 t1 h c=some r):G (.fn 68) [t0,t1] h c df=some (gcR h c [] r):=Z0r (a:=ZbE) bk_68 rfl (fun args h c=>by cases args <;> rfl) rfl ((Zdu G t0 t1 h c).trans e)
noncomputable def Zgz (o:Orc H) (t0:Value) (h:H) (c:Nat):Option (Rt H) :=
 (bif (t0:Value).cells.toList.all Z09 then
 (Z03 (ptrTo (256*c+0)) 1).bind fun t3 =>
 (ld1 (newB h (256*c+0) (t0:Value).cells.toList) t3).bind fun t4 =>
 some ⟨.ret,[t4],(newB h (256*c+0) (t0:Value).cells.toList),(c+1+1),[]⟩
 else none)
theorem Zdt (o:Orc H) (t0:Value) (h:H) (c:Nat):jx P o 5 none f69_c (Z0n (List.range 1) [t0]) h c [] (Kfn P Try.f69.results.toList)=Zgz o t0 h c:=by kernel_rfl
theorem f69_go {t0:Value} {h:FH} {c:Nat} {df:List Nat} {r:Rt FH} (e:Zgz G t0 h c=some r):G (.fn 69) [t0] h c df=some (gcR h c [] r):=Z0r (a:=ZbD) bk_69 rfl (fun args h c=>by cases args <;> rfl) rfl ((Zdt G t0 h c).trans e)
noncomputable def Zgy (o:Orc H) (t0:Value) (h:H) (c:Nat):Option (Rt H) :=
 (bif (t0:Value).cells.toList.all Z09 then
 (Z03 (ptrTo (256*c+0)) 0).bind fun t3 =>
 (ld1 (newB h (256*c+0) (t0:Value).cells.toList) t3).bind fun t4 =>
 (Z3O .not t4).bind fun t5 =>
 (gd t5 true (newB h (256*c+0) (t0:Value).cells.toList) (c+1+1) (Z03 (ptrTo (256*c+0)) 2)).bind fun r0 =>
 (gd t5 true r0.2.1 r0.2.2 (ld1 r0.2.1 r0.1)).bind fun r1 =>
 (Z0X t5 r1.1 (.bool false)).bind fun t9 =>
 some ⟨.ret,[t9],r1.2.1,r1.2.2,[]⟩
 else none)
theorem Zds (o:Orc H) (t0:Value) (h:H) (c:Nat):jx P o 10 none f70_c (Z0n (List.range 1) [t0]) h c [] (Kfn P Try.f70.results.toList)=Zgy o t0 h c:=by kernel_rfl
theorem f70_go {t0:Value} {h:FH} {c:Nat} {df:List Nat} {r:Rt FH} (e:Zgy G t0 h c=some r):G (.fn 70) [t0] h c df=some (gcR h c [] r):=Z0r (a:=ZbC) bk_70 rfl (fun args h c=>by cases args <;> rfl) rfl ((Zds G t0 h c).trans e)
noncomputable def Zgx (o:Orc H) (t0:Value) (h:H) (c:Nat):Option (Rt H) :=
 (bif (t0:Value).cells.toList.all Z09 then
 (Z03 (ptrTo (256*c+0)) 0).bind fun t3 =>
 (ld1 (newB h (256*c+0) (t0:Value).cells.toList) t3).bind fun t4 =>
 (Z3O .not t4).bind fun t5 =>
 some ⟨.ret,[t5],(newB h (256*c+0) (t0:Value).cells.toList),(c+1+1),[]⟩
 else none)
theorem Zdr (o:Orc H) (t0:Value) (h:H) (c:Nat):jx P o 6 none f71_c (Z0n (List.range 1) [t0]) h c [] (Kfn P Try.f71.results.toList)=Zgx o t0 h c:=by kernel_rfl
theorem f71_go {t0:Value} {h:FH} {c:Nat} {df:List Nat} {r:Rt FH} (e:Zgx G t0 h c=some r):G (.fn 71) [t0] h c df=some (gcR h c [] r):=Z0r (a:=ZbB) bk_71 rfl (fun args h c=>by cases args <;> rfl) rfl ((Zdr G t0 h c).trans e)
noncomputable def Zgw (o:Orc H) (t0:Value) (h:H) (c:Nat):Option (Rt H) :=
 (bif (t0:Value).cells.toList.all Z09 then
 (Z03 (ptrTo (256*c+0)) 3).bind fun t3 =>
 (ld1 (newB h (256*c+0) (t0:Value).cells.toList) t3).bind fun t4 =>
 some ⟨.ret,[t4],(newB h (256*c+0) (t0:Value).cells.toList),(c+1+1),[]⟩
 else none)
theorem Zdq (o:Orc H) (t0:Value) (h:H) (c:Nat):jx P o 5 none f72_c (Z0n (List.range 1) [t0]) h c [] (Kfn P Try.f72.results.toList)=Zgw o t0 h c:=by kernel_rfl
theorem f72_go {t0:Value} {h:FH} {c:Nat} {df:List Nat} {r:Rt FH} (e:Zgw G t0 h c=some r):G (.fn 72) [t0] h c df=some (gcR h c [] r):=Z0r (a:=ZbA) bk_72 rfl (fun args h c=>by cases args <;> rfl) rfl ((Zdq G t0 h c).trans e)
end Go.Proofs.Ytdodippbpdechaa
