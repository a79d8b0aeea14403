/- Parts of a proof: S4 S5. Conditions: none. -/
import Derived.Test.YtdodippbpdechaaM9
set_option linter.all false
set_option maxRecDepth 100000
namespace Go.Proofs.Ytdodippbpdechaa
open Go Go.Ab Go.Proofs
variable {H:Type} [HeapC H]
noncomputable def Z7c (o:Orc H) (rd:Option Nat) (t2 t3 t4 t18 t19 t20 t24 t25:Value) (h:H) (c:Nat) (df:List Nat):Option (Rt H) :=
 (Z00 P .lss 3 t25 (.int .i64 4)).bind fun t26 =>
 Z08 t26
 ((ixV 4 true 5 t24 t25).bind fun t27 =>
 (stN (newB h (256*(c+1)+1) [(.int .i64 0),(.int .i64 0),(.int .i64 0),(.int .i64 0),(.int .i64 0)]) 5 (ptrTo (256*(c+1)+1)) t27).bind fun h1 =>
 (Z04 t4 0).bind fun t28 =>
 (ld1 h1 t28).bind fun t29 =>
 (gd t29 false h1 (c+1+1+1) (Z04 (ptrTo (256*(c+1)+1)) 0)).bind fun r2 =>
 (gd t29 false r2.2.1 r2.2.2 (ld1 r2.2.1 r2.1)).bind fun r3 =>
 (gd t29 false r3.2.1 r3.2.2 (Z00 P .lss 3 r3.1 (.int .i64 0))).bind fun r4 =>
 (Z0B t29 (.bool true) r4.1).bind fun t34 =>
 (Z04 t4 0).bind fun t35 =>
 (stN r4.2.1 1 t35 t34).bind fun h6 =>
 (Z00 P .add 3 t25 (.int .i64 1)).bind fun t36 =>
 some ⟨.normal,[t2,t3,t4,t18,t19,t20,t24,t36],h6,(r4.2.2+1),df⟩)
 (some ⟨(.exit 2),[t2,t3,t4,t18,t19,t20,t24,t25],h,(c+1),df⟩)
theorem Zb6 (o:Orc H) (rd:Option Nat) (t2 t3 t4 t18 t19 t20 t24 t25:Value) (h:H) (c:Nat) (df:List Nat):jx P o 90 rd Z3l (Z0l [2,3,4,18,19,20,24,25] [t2,t3,t4,t18,t19,t20,t24,t25]) h c df (Klp [2,3,4,18,19,20,24,25])=Z7c o rd t2 t3 t4 t18 t19 t20 t24 t25 h c df:=by kernel_rfl
noncomputable def Z7d (o:Orc H) (rd:Option Nat) (t2 t3 t4 t18 t19 t20:Value) (h:H) (c:Nat) (df:List Nat):Option (Rt H) :=
 (Z00 P .lss 3 t20 t19).bind fun t21 =>
 Z08 t21
 ((ixS 20 t18 t20).bind fun t22 =>
 (ldN h 20 t22).bind fun t23 =>
 (stN (newB h (256*(c+1)+2) [(.int .i64 0),(.int .i64 0),(.int .i64 0),(.int .i64 0),(.int .i64 0),(.int .i64 0),(.int .i64 0),(.int .i64 0),(.int .i64 0),(.int .i64 0),(.int .i64 0),(.int .i64 0),(.int .i64 0),(.int .i64 0),(.int .i64 0),(.int .i64 0),(.int .i64 0),(.int .i64 0),(.int .i64 0),(.int .i64 0)]) 20 (ptrTo (256*(c+1)+2)) t23).bind fun h1 =>
 (ldN h1 20 (ptrTo (256*(c+1)+2))).bind fun t24 =>
 (o (ZfO rd) [t2,t3,t4,t18,t19,t20,t24,(.int .i64 0)] h1 (c+1+1+1) df).bind fun r2 =>
 cond (Z0u r2.e (.exit 2))
  ((Z00 P .add 3 (r2.v 5) (.int .i64 1)).bind fun t37 =>
  some ⟨.normal,[r2.v 0,r2.v 1,r2.v 2,r2.v 3,r2.v 4,t37],r2.h,(r2.c+1),r2.df⟩)
  (none))
 (some ⟨(.exit 0),[t2,t3,t4,t18,t19,t20],h,(c+1),df⟩)
theorem Zb7 (o:Orc H) (rd:Option Nat) (t2 t3 t4 t18 t19 t20:Value) (h:H) (c:Nat) (df:List Nat):jx P o 90 rd Z3m (Z0l [2,3,4,18,19,20] [t2,t3,t4,t18,t19,t20]) h c df (Klp [2,3,4,18,19,20])=Z7d o rd t2 t3 t4 t18 t19 t20 h c df:=by kernel_rfl
noncomputable def Z7b (o:Orc H) (rd:Option Nat) (t2 t3 t4 t39 t40 t41:Value) (h:H) (c:Nat) (df:List Nat):Option (Rt H) :=
 (Z00 P .lss 3 t41 t40).bind fun t42 =>
 Z08 t42
 ((ixS 1 t39 t41).bind fun t43 =>
 (ld1 h t43).bind fun t44 =>
 (Z04 t4 1).bind fun t45 =>
 (ld1 h t45).bind fun t46 =>
 (gd t46 false h (c+1+1+1) (some t44)).bind fun r0 =>
 (Z0B t46 (.bool true) r0.1).bind fun t49 =>
 (Z04 t4 1).bind fun t50 =>
 (stN r0.2.1 1 t50 t49).bind fun h2 =>
 (Z00 P .add 3 t41 (.int .i64 1)).bind fun t51 =>
 some ⟨.normal,[t2,t3,t4,t39,t40,t51],h2,(r0.2.2+1),df⟩)
 (some ⟨(.exit 4),[t2,t3,t4,t39,t40,t41],h,(c+1),df⟩)
theorem Zb5 (o:Orc H) (rd:Option Nat) (t2 t3 t4 t39 t40 t41:Value) (h:H) (c:Nat) (df:List Nat):jx P o 90 rd Z3k (Z0l [2,3,4,39,40,41] [t2,t3,t4,t39,t40,t41]) h c df (Klp [2,3,4,39,40,41])=Z7b o rd t2 t3 t4 t39 t40 t41 h c df:=by kernel_rfl
noncomputable def Z7a (o:Orc H) (rd:Option Nat) (t2 t4 t53 t54 t55:Value) (h:H) (c:Nat) (df:List Nat):Option (Rt H) :=
 (Z00 P .lss 3 t55 t54).bind fun t56 =>
 Z08 t56
 ((ixS 6 t53 t55).bind fun t57 =>
 (ldN h 6 t57).bind fun t58 =>
 (stN (newB h (256*(c+1)+2) [(.int .i64 0),(.int .i64 0),(.int .i64 0),(.int .i64 0),(.bool false),(.bool false)]) 6 (ptrTo (256*(c+1)+2)) t58).bind fun h1 =>
 (Z04 (ptrTo (256*(c+1)+2)) 4).bind fun t59 =>
 (ld1 h1 t59).bind fun t60 =>
 (gd t60 true h1 (c+1+1+1) (Z04 (ptrTo (256*(c+1)+2)) 3)).bind fun r2 =>
 (gd t60 true r2.2.1 r2.2.2 (ld1 r2.2.1 r2.1)).bind fun r3 =>
 (gd t60 true r3.2.1 r3.2.2 (Z00 P .eql 3 r3.1 (.int .i64 2))).bind fun r4 =>
 (Z0B t60 r4.1 (.bool false)).bind fun t65 =>
 (Z04 t4 2).bind fun t66 =>
 (ld1 r4.2.1 t66).bind fun t67 =>
 (gd t67 true r4.2.1 (r4.2.2+1) (some t65)).bind fun r5 =>
 (Z0B t67 r5.1 (.bool false)).bind fun t70 =>
 (Z04 t4 2).bind fun t71 =>
 (stN r5.2.1 1 t71 t70).bind fun h7 =>
 (Z04 t4 3).bind fun t72 =>
 (ld1 h7 t72).bind fun t73 =>
 (gd t73 true h7 (r5.2.2+1) (some t65)).bind fun r8 =>
 (gd t73 true r8.2.1 r8.2.2 (some r8.1)).bind fun r9 =>
 (gd r9.1 false r9.2.1 r9.2.2 (Z04 (ptrTo (256*(c+1)+2)) 4)).bind fun r10 =>
 (gd r9.1 false r10.2.1 r10.2.2 (ld1 r10.2.1 r10.1)).bind fun r11 =>
 (gd r9.1 false r11.2.1 r11.2.2 (Z1X .not r11.1)).bind fun r12 =>
 (gd r9.1 false r12.2.1 r12.2.2 (some r12.1)).bind fun r13 =>
 (gd r13.1 true r13.2.1 r13.2.2 (Z04 (ptrTo (256*(c+1)+2)) 3)).bind fun r14 =>
 (gd r13.1 true r14.2.1 r14.2.2 (ld1 r14.2.1 r14.1)).bind fun r15 =>
 (gd r13.1 true r15.2.1 r15.2.2 (Z00 P .eql 3 r15.1 (.int .i64 1))).bind fun r16 =>
 (gg r9.1 false r16.2.1 r16.2.2 (Z8r r16.2.1 r16.2.2 r13.1 r16.1 (.bool false))).bind fun r17 =>
 (gg t73 true r17.2.1 r17.2.2 (Z8r r17.2.1 r17.2.2 r9.1 (.bool true) r17.1)).bind fun r18 =>
 (Z0B t73 r18.1 (.bool false)).bind fun t86 =>
 (Z04 t4 3).bind fun t87 =>
 (stN r18.2.1 1 t87 t86).bind fun h20 =>
 (Z00 P .add 3 t55 (.int .i64 1)).bind fun t88 =>
 some ⟨.normal,[t2,t4,t53,t54,t88],h20,(r18.2.2+1),df⟩)
 (some ⟨(.exit 6),[t2,t4,t53,t54,t55],h,(c+1),df⟩)
theorem Zb4 (o:Orc H) (rd:Option Nat) (t2 t4 t53 t54 t55:Value) (h:H) (c:Nat) (df:List Nat):jx P o 90 rd Z3j (Z0l [2,4,53,54,55] [t2,t4,t53,t54,t55]) h c df (Klp [2,4,53,54,55])=Z7a o rd t2 t4 t53 t54 t55 h c df:=by kernel_rfl
noncomputable def Znm (o:Orc H) (t0:Value) (h:H) (c:Nat):Option (Rt H) :=
 (bif (t0:Value).cells.toList.all Z07 then
 (ldN (newB (newB h (256*c+0) (t0:Value).cells.toList) (256*c+1) [(.bool false),(.bool false),(.bool false),(.bool false)]) 1 (ptrTo (256*c+0))).bind fun t14 =>
 (callF o 39 [t14] (newB (newB h (256*c+0) (t0:Value).cells.toList) (256*c+1) [(.bool false),(.bool false),(.bool false),(.bool false)]) (c+1+1)).bind fun r0 =>
 (stN (newB r0.2.1 (256*(c+1)+2) [(.slice none 0 0),(.slice none 0 0),(.slice none 0 0),(.slice none 0 0),(.slice none 0 0),(.slice none 0 0)]) 6 (ptrTo (256*(c+1)+2)) r0.1).bind fun h2 =>
 (Z1z [(.bool false),(.bool false),(.bool false),(.bool false)] [(2,1,(.bool true)),(3,1,(.bool true))]).bind fun t16 =>
 (stN (newB h2 (256*r0.2.2+1) [(.bool false),(.bool false),(.bool false),(.bool false)]) 4 (ptrTo (256*r0.2.2+1)) t16).bind fun h4 =>
 (Z04 (ptrTo (256*c+0)) 0).bind fun t17 =>
 (ld1 h4 t17).bind fun t18 =>
 (Z2d t18).bind fun t19 =>
 (o (ZfP none) [(ptrTo (256*c+1)),(ptrTo (256*(c+1)+2)),(ptrTo (256*r0.2.2+1)),t18,t19,(.int .i64 0)] h4 (r0.2.2+1+1) []).bind fun r5 =>
 cond (Z0u r5.e (.exit 0))
 ((Z04 (r5.v 1) 4).bind fun t38 =>
 (ld1 r5.h t38).bind fun t39 =>
 (Z2d t39).bind fun t40 =>
 (o (ZfN none) [r5.v 0,r5.v 1,r5.v 2,t39,t40,(.int .i64 0)] r5.h (r5.c+1) r5.df).bind fun r6 =>
 cond (Z0u r6.e (.exit 4))
  ((Z04 (r6.v 1) 5).bind fun t52 =>
  (ld1 r6.h t52).bind fun t53 =>
  (Z2d t53).bind fun t54 =>
  (o (ZfM none) [r6.v 0,r6.v 2,t53,t54,(.int .i64 0)] r6.h (r6.c+1) r6.df).bind fun r7 =>
  cond (Z0u r7.e (.exit 6))
   ((ldN r7.h 4 (r7.v 1)).bind fun t89 =>
   (stN r7.h 4 (r7.v 0) t89).bind fun h9 =>
   (Z09 h9 r7.df).bind fun h10 =>
   (ldN h10 4 (r7.v 0)).bind fun v11 =>
   some ⟨.ret,[v11],h10,(r7.c+1),[]⟩)
   (none))
  (none))
 (none)
 else none)
theorem ZkS (o:Orc H) (t0:Value) (h:H) (c:Nat):jx P o 90 none f42_c (Z0l (List.range 1) [t0]) h c [] (Kfn P Try.f42.results.toList)=Znm o t0 h c:=by kernel_rfl
noncomputable def Znl (o:Orc H) (h:H) (c:Nat):Option (Rt H) :=
 (Z1z [(.int .i64 0),.nilFunc] [(0,1,(.int .i64 4)),(1,1,(.func (.func 69) #[] #[]))]).bind fun t1 =>
 (Z1z [(.int .i64 0),.nilFunc] [(0,1,(.int .i64 1)),(1,1,(.func (.func 70) #[] #[]))]).bind fun t2 =>
 (Z1z [(.int .i64 0),.nilFunc] [(0,1,(.int .i64 2)),(1,1,(.func (.func 71) #[] #[]))]).bind fun t3 =>
 (Z1z [(.int .i64 0),.nilFunc] [(0,1,(.int .i64 3)),(1,1,(.func (.func 72) #[] #[]))]).bind fun t4 =>
 (Z1z [(.int .i64 0),.nilFunc,(.int .i64 0),.nilFunc,(.int .i64 0),.nilFunc,(.int .i64 0),.nilFunc] [(0,2,t1),(2,2,t2),(4,2,t3),(6,2,t4)]).bind fun t5 =>
 (stN (newB h (256*c+0) [(.int .i64 0),.nilFunc,(.int .i64 0),.nilFunc,(.int .i64 0),.nilFunc,(.int .i64 0),.nilFunc]) 8 (ptrTo (256*c+0)) t5).bind fun h1 =>
 (ldN h1 8 (ptrTo (256*c+0))).bind fun v2 =>
 some ⟨.ret,[v2],h1,(c+1+1),[]⟩
theorem ZkR (o:Orc H) (h:H) (c:Nat):jx P o 6 none f43_c (Z0l (List.range 0) []) h c [] (Kfn P Try.f43.results.toList)=Znl o h c:=by kernel_rfl
noncomputable def Z1i (o:Orc H) (rd:Option Nat) (t1 t2 t3 t4:Value) (h:H) (c:Nat) (df:List Nat):Option (Rt H) :=
 (Z00 P .lss 3 t4 (.int .i64 4)).bind fun t6 =>
 Z08 t6
 ((ixA 4 1 t1 t4).bind fun t10 =>
 (ld1 h t10).bind fun t11 =>
 (Z00 P .lss 3 t11 (.int .i64 0)).bind fun t12 =>
 (gd t12 false h (c+1+1) (some t4)).bind fun r0 =>
 (gd t12 false r0.2.1 r0.2.2 (ixA 4 1 t1 r0.1)).bind fun r1 =>
 (gd t12 false r1.2.1 r1.2.2 (ld1 r1.2.1 r1.1)).bind fun r2 =>
 (gd t12 false r2.2.1 r2.2.2 (Z00 P .gtr 3 r2.1 (.int .i64 3))).bind fun r3 =>
 (Z0B t12 (.bool true) r3.1).bind fun t18 =>
 (gd t18 false r3.2.1 r3.2.2 (some t4)).bind fun r4 =>
 (gd t18 false r4.2.1 r4.2.2 (ixA 4 1 t1 r4.1)).bind fun r5 =>
 (gd t18 false r5.2.1 r5.2.2 (ld1 r5.2.1 r5.1)).bind fun r6 =>
 (gd t18 false r6.2.1 r6.2.2 (ixA 4 1 t3 r6.1)).bind fun r7 =>
 (gd t18 false r7.2.1 r7.2.2 (ld1 r7.2.1 r7.1)).bind fun r8 =>
 (Z0B t18 (.bool true) r8.1).bind fun t25 =>
 Z08 t25
  (some ⟨.ret,[t1,(.bool false),t3,t4],r8.2.1,(r8.2.2+1),df⟩)
  ((ixA 4 1 t1 t4).bind fun t27 =>
  (ld1 r8.2.1 t27).bind fun t28 =>
  (ixA 4 1 t3 t28).bind fun t29 =>
  (stN r8.2.1 1 t29 (.bool true)).bind fun h11 =>
  (Z00 P .add 3 t4 (.int .i64 1)).bind fun t8 =>
  some ⟨.normal,[t1,t2,t3,t8],h11,(r8.2.2+1+1),df⟩))
 (some ⟨(.exit 0),[t1,t2,t3,t4],h,(c+1),df⟩)
theorem Z4Z (o:Orc H) (rd:Option Nat) (t1 t2 t3 t4:Value) (h:H) (c:Nat) (df:List Nat):jx P o 30 rd Z3i (Z0l [1,2,3,4] [t1,t2,t3,t4]) h c df (Klp [1,2,3,4])=Z1i o rd t1 t2 t3 t4 h c df:=by kernel_rfl
noncomputable def ZhH (o:Orc H) (t0:Value) (h:H) (c:Nat):Option (Rt H) :=
 (bif (t0:Value).cells.toList.all Z07 then
 (o (Z4q none) [(ptrTo (256*c+0)),(.bool false),(ptrTo (256*(c+1)+0)),(.int .i64 0)] (newB (newB h (256*c+0) (t0:Value).cells.toList) (256*(c+1)+0) [(.bool false),(.bool false),(.bool false),(.bool false)]) (c+1+1+1) []).bind fun r0 =>
 cond (Z0u r0.e (.exit 0))
 ((Z09 r0.h r0.df).bind fun h2 =>
 some ⟨.ret,[(.bool true)],h2,(r0.c+1),[]⟩)
 (cond (Z0u r0.e .ret)
  ((Z09 r0.h r0.df).bind fun h1 =>
  some ⟨.ret,[r0.v 1],h1,r0.c,[]⟩)
  (none))
 else none)
theorem ZeG (o:Orc H) (t0:Value) (h:H) (c:Nat):jx P o 30 none f44_c (Z0l (List.range 1) [t0]) h c [] (Kfn P Try.f44.results.toList)=ZhH o t0 h c:=by kernel_rfl
theorem f44_go {t0:Value} {h:FH} {c:Nat} {df:List Nat} {r:Rt FH} (e:ZhH G t0 h c=some r):G (.fn 44) [t0] h c df=some (gcR h c [] r):=Z0r (a:=ZcT) bk_44 rfl (fun args h c=>by cases args <;> rfl) rfl ((ZeG G t0 h c).trans e)
theorem ZfK {rd:Option Nat} {t1 t2 t3 t4:Value} {h:FH} {c:Nat} {df:List Nat} {q r:Rt FH} (e:Z1i G rd t1 t2 t3 t4 h c df=some q) (hq:q.e = .normal) (k:G (Z4q rd) q.vs (gcR h c df q).h (gcR h c df q).c q.df=some r):G (Z4q rd) [t1,t2,t3,t4] h c df=some r:=Z0K ((Z4Z G rd t1 t2 t3 t4 h c df).trans e) hq k
theorem Z5E {rd:Option Nat} {t1 t2 t3 t4:Value} {h:FH} {c:Nat} {df:List Nat} {q:Rt FH} (e:Z1i G rd t1 t2 t3 t4 h c df=some q) (hq:q.e ≠ .normal):G (Z4q rd) [t1,t2,t3,t4] h c df=some (gcR h c df q):=Z0L ((Z4Z G rd t1 t2 t3 t4 h c df).trans e) hq
noncomputable def Z2h (o:Orc H) (rd:Option Nat) (t1 t2 t3 t4:Value) (h:H) (c:Nat) (df:List Nat):Option (Rt H) :=
 (Z00 P .lss 3 t4 (.int .i64 4)).bind fun t10 =>
 Z08 t10
 ((ixA 4 1 t1 t4).bind fun t14 =>
 (ld1 h t14).bind fun t15 =>
 (ixA 4 1 t3 t15).bind fun t17 =>
 (stN h 1 t17 t4).bind fun h1 =>
 (Z00 P .add 3 t4 (.int .i64 1)).bind fun t12 =>
 some ⟨.normal,[t1,t2,t3,t12],h1,(c+1+1+1),df⟩)
 (some ⟨(.exit 0),[t1,t2,t3,t4],h,(c+1),df⟩)
theorem Z4Y (o:Orc H) (rd:Option Nat) (t1 t2 t3 t4:Value) (h:H) (c:Nat) (df:List Nat):jx P o 19 rd Z3h (Z0l [1,2,3,4] [t1,t2,t3,t4]) h c df (Klp [1,2,3,4])=Z2h o rd t1 t2 t3 t4 h c df:=by kernel_rfl
noncomputable def ZhG (o:Orc H) (t0:Value) (h:H) (c:Nat):Option (Rt H) :=
 (bif (t0:Value).cells.toList.all Z07 then
 (ldN (newB (newB (newB h (256*c+0) (t0:Value).cells.toList) (256*c+1) [(.int .i64 0),(.int .i64 0),(.int .i64 0),(.int .i64 0)]) (256*(c+1)+0) [(.int .i64 0),(.int .i64 0),(.int .i64 0),(.int .i64 0)]) 4 (ptrTo (256*c+0))).bind fun t5 =>
 (callF o 44 [t5] (newB (newB (newB h (256*c+0) (t0:Value).cells.toList) (256*c+1) [(.int .i64 0),(.int .i64 0),(.int .i64 0),(.int .i64 0)]) (256*(c+1)+0) [(.int .i64 0),(.int .i64 0),(.int .i64 0),(.int .i64 0)]) (c+1+1+1)).bind fun r0 =>
 (Z1X .not r0.1).bind fun t7 =>
 Z08 t7
 ((ldN r0.2.1 4 (ptrTo (256*(c+1)+0))).bind fun t8 =>
 (stN r0.2.1 4 (ptrTo (256*c+1)) t8).bind fun h2 =>
 (ldN h2 4 (ptrTo (256*c+1))).bind fun v3 =>
 some ⟨.ret,[v3],h2,(r0.2.2+1),[]⟩)
 ((o (Z4p none) [(ptrTo (256*c+0)),(ptrTo (256*c+1)),(ptrTo (256*(c+1)+0)),(.int .i64 0)] r0.2.1 (r0.2.2+1) []).bind fun r4 =>
 cond (Z0u r4.e (.exit 0))
  ((ldN r4.h 4 (r4.v 2)).bind fun t18 =>
  (stN r4.h 4 (r4.v 1) t18).bind fun h6 =>
  (Z09 h6 r4.df).bind fun h7 =>
  (ldN h7 4 (r4.v 1)).bind fun v8 =>
  some ⟨.ret,[v8],h7,(r4.c+1),[]⟩)
  (none))
 else none)
theorem ZeF (o:Orc H) (t0:Value) (h:H) (c:Nat):jx P o 19 none f45_c (Z0l (List.range 1) [t0]) h c [] (Kfn P Try.f45.results.toList)=ZhG o t0 h c:=by kernel_rfl
theorem f45_go {t0:Value} {h:FH} {c:Nat} {df:List Nat} {r:Rt FH} (e:ZhG G t0 h c=some r):G (.fn 45) [t0] h c df=some (gcR h c [] r):=Z0r (a:=ZcS) bk_45 rfl (fun args h c=>by cases args <;> rfl) rfl ((ZeF G t0 h c).trans e)
theorem ZfJ {rd:Option Nat} {t1 t2 t3 t4:Value} {h:FH} {c:Nat} {df:List Nat} {q r:Rt FH} (e:Z2h G rd t1 t2 t3 t4 h c df=some q) (hq:q.e = .normal) (k:G (Z4p rd) q.vs (gcR h c df q).h (gcR h c df q).c q.df=some r):G (Z4p rd) [t1,t2,t3,t4] h c df=some r:=Z0K ((Z4Y G rd t1 t2 t3 t4 h c df).trans e) hq k
theorem ZfI {rd:Option Nat} {t1 t2 t3 t4:Value} {h:FH} {c:Nat} {df:List Nat} {q:Rt FH} (e:Z2h G rd t1 t2 t3 t4 h c df=some q) (hq:q.e ≠ .normal):G (Z4p rd) [t1,t2,t3,t4] h c df=some (gcR h c df q):=Z0L ((Z4Y G rd t1 t2 t3 t4 h c df).trans e) hq
noncomputable def Z78 (o:Orc H) (rd:Option Nat) (t1 t3 t4 t5:Value) (h:H) (c:Nat) (df:List Nat):Option (Rt H) :=
 (Z00 P .lss 3 t5 t4).bind fun t15 =>
 Z08 t15
 ((ixA 4 1 t1 t5).bind fun t19 =>
 (ld1 h t19).bind fun t20 =>
 (ixA 4 1 t1 t4).bind fun t22 =>
 (ld1 h t22).bind fun t23 =>
 (Z00 P .gtr 3 t20 t23).bind fun t24 =>
 (Z08 t24
  ((Z1X .neg t3).bind fun t26 =>
  some ⟨.normal,[t1,t26,t4,t5],h,(c+1+1+1),df⟩)
  (some ⟨.normal,[t1,t3,t4,t5],h,(c+1+1),df⟩):Option (Rt H)).bind fun r1 =>
 cond (Z0u r1.e .normal)
  ((Z00 P .add 3 (r1.v 3) (.int .i64 1)).bind fun t17 =>
  some ⟨.normal,[r1.v 0,r1.v 1,r1.v 2,t17],r1.h,(r1.c+1),r1.df⟩)
  (none))
 (some ⟨(.exit 2),[t1,t3,t4,t5],h,(c+1),df⟩)
theorem Z6w (o:Orc H) (rd:Option Nat) (t1 t3 t4 t5:Value) (h:H) (c:Nat) (df:List Nat):jx P o 28 rd Z76 (Z0l [1,3,4,5] [t1,t3,t4,t5]) h c df (Klp [1,3,4,5])=Z78 o rd t1 t3 t4 t5 h c df:=by kernel_rfl
noncomputable def Z79 (o:Orc H) (rd:Option Nat) (t1 t3 t4:Value) (h:H) (c:Nat) (df:List Nat):Option (Rt H) :=
 (Z00 P .lss 3 t4 (.int .i64 4)).bind fun t10 =>
 Z08 t10
 ((o (Z9V rd) [t1,t3,t4,(.int .i64 0)] h (c+1+1) df).bind fun r0 =>
 cond (Z0u r0.e (.exit 2))
  ((Z00 P .add 3 (r0.v 2) (.int .i64 1)).bind fun t12 =>
  some ⟨.normal,[r0.v 0,r0.v 1,t12],r0.h,(r0.c+1),r0.df⟩)
  (none))
 (some ⟨(.exit 0),[t1,t3,t4],h,(c+1),df⟩)
theorem Z6x (o:Orc H) (rd:Option Nat) (t1 t3 t4:Value) (h:H) (c:Nat) (df:List Nat):jx P o 28 rd Z77 (Z0l [1,3,4] [t1,t3,t4]) h c df (Klp [1,3,4])=Z79 o rd t1 t3 t4 h c df:=by kernel_rfl
noncomputable def Znj (o:Orc H) (t0:Value) (h:H) (c:Nat):Option (Rt H) :=
 (bif (t0:Value).cells.toList.all Z07 then
 (ldN (newB h (256*c+0) (t0:Value).cells.toList) 4 (ptrTo (256*c+0))).bind fun t6 =>
 (callF o 44 [t6] (newB h (256*c+0) (t0:Value).cells.toList) (c+1+1)).bind fun r0 =>
 (Z1X .not r0.1).bind fun t8 =>
 Z08 t8
 (some ⟨.ret,[(.int .i64 0)],r0.2.1,(r0.2.2+1),[]⟩)
 ((o (Z9W none) [(ptrTo (256*c+0)),(.int .i64 1),(.int .i64 0)] r0.2.1 (r0.2.2+1+1) []).bind fun r1 =>
 cond (Z0u r1.e (.exit 0))
  ((Z09 r1.h r1.df).bind fun h2 =>
  some ⟨.ret,[r1.v 1],h2,(r1.c+1),[]⟩)
  (none))
 else none)
theorem ZkQ (o:Orc H) (t0:Value) (h:H) (c:Nat):jx P o 28 none f49_c (Z0l (List.range 1) [t0]) h c [] (Kfn P Try.f49.results.toList)=Znj o t0 h c:=by kernel_rfl
theorem f49_go {t0:Value} {h:FH} {c:Nat} {df:List Nat} {r:Rt FH} (e:Znj G t0 h c=some r):G (.fn 49) [t0] h c df=some (gcR h c [] r):=Z0r (a:=ZkP) bk_49 rfl (fun args h c=>by cases args <;> rfl) rfl ((ZkQ G t0 h c).trans e)
noncomputable def ZhF (o:Orc H) (h:H) (c:Nat):Option (Rt H) :=
 (Z1z [(.int .i64 0),(.int .i64 0)] [(0,1,(.int .i64 0)),(1,1,(.int .i64 1))]).bind fun t1 =>
 (Z1z [(.int .i64 0),(.int .i64 0)] [(0,1,(.int .i64 0)),(1,1,(.int .i64 2))]).bind fun t2 =>
 (Z1z [(.int .i64 0),(.int .i64 0)] [(0,1,(.int .i64 0)),(1,1,(.int .i64 3))]).bind fun t3 =>
 (Z1z [(.int .i64 0),(.int .i64 0)] [(0,1,(.int .i64 1)),(1,1,(.int .i64 2))]).bind fun t4 =>
 (Z1z [(.int .i64 0),(.int .i64 0)] [(0,1,(.int .i64 1)),(1,1,(.int .i64 3))]).bind fun t5 =>
 (Z1z [(.int .i64 0),(.int .i64 0)] [(0,1,(.int .i64 2)),(1,1,(.int .i64 3))]).bind fun t6 =>
 (Z1z [(.int .i64 0),(.int .i64 0),(.int .i64 0),(.int .i64 0),(.int .i64 0),(.int .i64 0),(.int .i64 0),(.int .i64 0),(.int .i64 0),(.int .i64 0),(.int .i64 0),(.int .i64 0)] [(0,2,t1),(2,2,t2),(4,2,t3),(6,2,t4),(8,2,t5),(10,2,t6)]).bind fun t7 =>
 (stN (newB h (256*c+0) [(.int .i64 0),(.int .i64 0),(.int .i64 0),(.int .i64 0),(.int .i64 0),(.int .i64 0),(.int .i64 0),(.int .i64 0),(.int .i64 0),(.int .i64 0),(.int .i64 0),(.int .i64 0)]) 12 (ptrTo (256*c+0)) t7).bind fun h1 =>
 (ldN h1 12 (ptrTo (256*c+0))).bind fun v2 =>
 some ⟨.ret,[v2],h1,(c+1+1),[]⟩
theorem ZeE (o:Orc H) (h:H) (c:Nat):jx P o 8 none f54_c (Z0l (List.range 0) []) h c [] (Kfn P Try.f54.results.toList)=ZhF o h c:=by kernel_rfl
theorem f54_go {h:FH} {c:Nat} {df:List Nat} {r:Rt FH} (e:ZhF G h c=some r):G (.fn 54) [] h c df=some (gcR h c [] r):=Z0r (a:=ZcR) bk_54 rfl (fun args h c=>by cases args <;> rfl) rfl ((ZeE G h c).trans e)
noncomputable def Z1T (o:Orc H) (rd:Option Nat) (t2 t3 t6 t7:Value) (h:H) (c:Nat) (df:List Nat):Option (Rt H) :=
 (Z00 P .lss 3 t7 (.int .i64 4)).bind fun t8 =>
 Z08 t8
 ((ixV 4 false 1 t6 t7).bind fun t9 =>
 (Z00 P .lss 3 t9 (.int .i64 0)).bind fun t11 =>
 (gd t11 false h (c+1+1+1) (some t9)).bind fun r0 =>
 (gd t11 false r0.2.1 r0.2.2 (Z00 P .gtr 3 r0.1 (.int .i64 3))).bind fun r1 =>
 (Z0B t11 (.bool true) r1.1).bind fun t15 =>
 Z08 t15
  (some ⟨.ret,[(.bool false),t3,t6,t7],r1.2.1,(r1.2.2+1),df⟩)
  ((Z00 P .shl 3 (.int .i64 1) t9).bind fun t18 =>
  (Z00 P .or 3 t3 t18).bind fun t19 =>
  (Z00 P .add 3 t7 (.int .i64 1)).bind fun t20 =>
  some ⟨.normal,[t2,t19,t6,t20],r1.2.1,(r1.2.2+1+1),df⟩))
 (some ⟨(.exit 0),[t2,t3,t6,t7],h,(c+1),df⟩)
theorem Z4X (o:Orc H) (rd:Option Nat) (t2 t3 t6 t7:Value) (h:H) (c:Nat) (df:List Nat):jx P o 23 rd Z3g (Z0l [2,3,6,7] [t2,t3,t6,t7]) h c df (Klp [2,3,6,7])=Z1T o rd t2 t3 t6 t7 h c df:=by kernel_rfl
noncomputable def ZhE (o:Orc H) (t0:Value) (h:H) (c:Nat):Option (Rt H) :=
 (bif (t0:Value).cells.toList.all Z07 then
 (ldN (newB h (256*c+0) (t0:Value).cells.toList) 4 (ptrTo (256*c+0))).bind fun t6 =>
 (o (Z4o none) [(.bool false),(.int .i64 0),t6,(.int .i64 0)] (newB h (256*c+0) (t0:Value).cells.toList) (c+1+1+1) []).bind fun r0 =>
 cond (Z0u r0.e (.exit 0))
 ((Z00 P .eql 3 (r0.v 1) (.int .i64 15)).bind fun t22 =>
 (Z09 r0.h r0.df).bind fun h2 =>
 some ⟨.ret,[t22],h2,(r0.c+1),[]⟩)
 (cond (Z0u r0.e .ret)
  ((Z09 r0.h r0.df).bind fun h1 =>
  some ⟨.ret,[r0.v 0],h1,r0.c,[]⟩)
  (none))
 else none)
theorem ZeD (o:Orc H) (t0:Value) (h:H) (c:Nat):jx P o 23 none f56_c (Z0l (List.range 1) [t0]) h c [] (Kfn P Try.f56.results.toList)=ZhE o t0 h c:=by kernel_rfl
theorem f56_go {t0:Value} {h:FH} {c:Nat} {df:List Nat} {r:Rt FH} (e:ZhE G t0 h c=some r):G (.fn 56) [t0] h c df=some (gcR h c [] r):=Z0r (a:=ZcQ) bk_56 rfl (fun args h c=>by cases args <;> rfl) rfl ((ZeD G t0 h c).trans e)
theorem ZfH {rd:Option Nat} {t2 t3 t6 t7:Value} {h:FH} {c:Nat} {df:List Nat} {q r:Rt FH} (e:Z1T G rd t2 t3 t6 t7 h c df=some q) (hq:q.e = .normal) (k:G (Z4o rd) q.vs (gcR h c df q).h (gcR h c df q).c q.df=some r):G (Z4o rd) [t2,t3,t6,t7] h c df=some r:=Z0K ((Z4X G rd t2 t3 t6 t7 h c df).trans e) hq k
theorem Z9U {rd:Option Nat} {t2 t3 t6 t7:Value} {h:FH} {c:Nat} {df:List Nat} {q:Rt FH} (e:Z1T G rd t2 t3 t6 t7 h c df=some q) (hq:q.e ≠ .normal):G (Z4o rd) [t2,t3,t6,t7] h c df=some (gcR h c df q):=Z0L ((Z4X G rd t2 t3 t6 t7 h c df).trans e) hq
noncomputable def Znh (o:Orc H) (t0 t1 t2:Value) (h:H) (c:Nat):Option (Rt H) :=
 (bif (t0:Value).cells.toList.all Z07 then
 (bif (t1:Value).cells.toList.all Z07 then
 (bif (t2:Value).cells.toList.all Z07 then
 some ⟨.ret,[(.func (.func 78) [].toArray [(ptrTo (256*c+1)),(ptrTo (256*c+0)),(ptrTo (256*c+2))].toArray)],(newB (newB (newB h (256*c+0) (t0:Value).cells.toList) (256*c+1) (t1:Value).cells.toList) (256*c+2) (t2:Value).cells.toList),(c+1+1),[]⟩
 else none)
 else none)
 else none)
theorem ZkO (o:Orc H) (t0 t1 t2:Value) (h:H) (c:Nat):jx P o 8 none f57_c (Z0l (List.range 3) [t0,t1,t2]) h c [] (Kfn P Try.f57.results.toList)=Znh o t0 t1 t2 h c:=by kernel_rfl
theorem f57_go {t0 t1 t2:Value} {h:FH} {c:Nat} {df:List Nat} {r:Rt FH} (e:Znh G t0 t1 t2 h c=some r):G (.fn 57) [t0,t1,t2] h c df=some r:=Z0r (a:=ZkN) bk_57 rfl (fun args h c=>by cases args <;> rfl) rfl ((ZkO G t0 t1 t2 h c).trans e)
noncomputable def Z4m (o:Orc H) (rd:Option Nat) (t1 t2 t7 t8 t22 t23 t26:Value) (h:H) (c:Nat) (df:List Nat):Option (Rt H) :=
 (Z00 P .lss 3 t26 (.int .i64 4)).bind fun t27 =>
 Z08 t27
 ((Z00 P .mul 3 (.int .i64 4) t8).bind fun t31 =>
 (Z00 P .add 3 t31 t26).bind fun t33 =>
 (ixS 1 t1 t33).bind fun t34 =>
 (ld1 h t34).bind fun t35 =>
 (Z00 P .eql 3 t35 t2).bind fun t37 =>
 (Z08 t37
  ((Z0e t7).bind fun t39 =>
  (Z04 t39 2).bind fun t40 =>
  (ld1 h t40).bind fun t41 =>
  (Z1z [(.int .i64 0),(.int .i64 0)] [(0,1,t8),(1,1,t26)]).bind fun t44 =>
  (Z0e t7).bind fun t46 =>
  (Z04 t46 1).bind fun t47 =>
  (ld1 h t47).bind fun t48 =>
  (Z2d t48).bind fun t49 =>
  (Z0D P h 118 t41 t44 t49).bind fun h1 =>
  (Z0e t7).bind fun t52 =>
  (Z04 t52 1).bind fun t53 =>
  (ld1 h1 t53).bind fun t54 =>
  (Z1z [(.int .i64 0),(.int .i64 0)] [(0,1,t8),(1,1,t26)]).bind fun t57 =>
  (Z7R [(.int .i64 0),(.int .i64 0)] [(0,2,t57)]).bind fun r2 =>
  (Z6e (newB h1 (256*(c+1+1+1+1)+8) r2) (256*(c+1+1+1+1)+9) 2 16 t54 (.slice (some ⟨(256*(c+1+1+1+1)+8),0,none⟩) 1 1)).bind fun r3 =>
  (Z0e t7).bind fun t60 =>
  (Z04 t60 1).bind fun t61 =>
  (stN r3.2 1 t61 r3.1).bind fun h5 =>
  some ⟨.normal,[t1,t2,t7,t8,t22,t23,t26],h5,(c+1+1+1+1+1),df⟩)
  (some ⟨.normal,[t1,t2,t7,t8,t22,t23,t26],h,(c+1+1+1),df⟩):Option (Rt H)).bind fun r6 =>
 cond (Z0u r6.e .normal)
  ((Z00 P .add 3 (r6.v 6) (.int .i64 1)).bind fun t62 =>
  some ⟨.normal,[r6.v 0,r6.v 1,r6.v 2,r6.v 3,r6.v 4,r6.v 5,t62],r6.h,(r6.c+1),r6.df⟩)
  (none))
 (some ⟨(.exit 2),[t1,t2,t7,t8,t22,t23,t26],h,(c+1),df⟩)
theorem Z4V (o:Orc H) (rd:Option Nat) (t1 t2 t7 t8 t22 t23 t26:Value) (h:H) (c:Nat) (df:List Nat):jx P o 65 rd Z3e (Z0l [1,2,7,8,22,23,26] [t1,t2,t7,t8,t22,t23,t26]) h c df (Klp [1,2,7,8,22,23,26])=Z4m o rd t1 t2 t7 t8 t22 t23 t26 h c df:=by kernel_rfl
noncomputable def Z4n (o:Orc H) (rd:Option Nat) (t1 t2 t7 t22 t23:Value) (h:H) (c:Nat) (df:List Nat):Option (Rt H) :=
 (Z00 P .lss 3 t23 t22).bind fun t24 =>
 Z08 t24
 ((o (Z9S rd) [t1,t2,t7,t23,t22,t23,(.int .i64 0)] h (c+1+1+1) df).bind fun r0 =>
 cond (Z0u r0.e (.exit 2))
  ((Z00 P .add 3 (r0.v 5) (.int .i64 1)).bind fun t63 =>
  some ⟨.normal,[r0.v 0,r0.v 1,r0.v 2,r0.v 4,t63],r0.h,(r0.c+1),r0.df⟩)
  (none))
 (some ⟨(.exit 0),[t1,t2,t7,t22,t23],h,(c+1),df⟩)
theorem Z4W (o:Orc H) (rd:Option Nat) (t1 t2 t7 t22 t23:Value) (h:H) (c:Nat) (df:List Nat):jx P o 65 rd Z3f (Z0l [1,2,7,22,23] [t1,t2,t7,t22,t23]) h c df (Klp [1,2,7,22,23])=Z4n o rd t1 t2 t7 t22 t23 h c df:=by kernel_rfl
noncomputable def ZhD (o:Orc H) (t0 t1 t2:Value) (h:H) (c:Nat):Option (Rt H) :=
 (Z0e t0).bind fun t11 =>
 (Z04 t11 0).bind fun t12 =>
 (ldN h 1 t12).bind fun t13 =>
 (Z1z [(.slice none 0 0),(.slice none 0 0),(.map none)] [(0,1,t13),(1,1,(.slice none 0 0)),(2,1,(.map (some (256*(c+1)+4))))]).bind fun t15 =>
 (bif (t15:Value).cells.toList.all Z07 then
 (Z0e t0).bind fun t18 =>
 (Z04 t18 0).bind fun t19 =>
 (Z04 t19 0).bind fun t20 =>
 (ld1 (newB (HeapC.set h (256*(c+1)+4) (.map [])) (256*(c+1)+6) (t15:Value).cells.toList) t20).bind fun t21 =>
 (Z2d t21).bind fun t22 =>
 (o (Z9T none) [t1,t2,(ptrTo (256*(c+1)+6)),t22,(.int .i64 0)] (newB (HeapC.set h (256*(c+1)+4) (.map [])) (256*(c+1)+6) (t15:Value).cells.toList) (c+1+1+1) []).bind fun r0 =>
 cond (Z0u r0.e (.exit 0))
 ((Z09 r0.h r0.df).bind fun h1 =>
 some ⟨.ret,[r0.v 2],h1,(r0.c+1),[]⟩)
 (none)
 else none)
theorem ZeC (o:Orc H) (t0 t1 t2:Value) (h:H) (c:Nat):jx P o 65 none f60_c (Z0l (List.range 3) [t0,t1,t2]) h c [] (Kfn P Try.f60.results.toList)=ZhD o t0 t1 t2 h c:=by kernel_rfl
theorem f60_go {t0 t1 t2:Value} {h:FH} {c:Nat} {df:List Nat} {r:Rt FH} (e:ZhD G t0 t1 t2 h c=some r):G (.fn 60) [t0,t1,t2] h c df=some r:=Z0r (a:=ZcP) bk_60 rfl (fun args h c=>by cases args <;> rfl) rfl ((ZeC G t0 t1 t2 h c).trans e)

variable {H:Type} [HeapC H]
noncomputable def Z3d (o:Orc H) (rd:Option Nat) (t0 t3 t4 t5 t17 t18:Value) (h:H) (c:Nat) (df:List Nat):Option (Rt H) :=
 (Z00 P .lss 3 t18 (.int .i64 4)).bind fun t19 =>
 Z08 t19
 ((ixV 4 true 5 t17 t18).bind fun t21 =>
 (stN (newB h (256*(c+1)+2) [(.int .i64 0),(.int .i64 0),(.int .i64 0),(.int .i64 0),(.int .i64 0)]) 5 (ptrTo (256*(c+1)+2)) t21).bind fun h1 =>
 (ixA 2 1 t3 (.int .i64 1)).bind fun t23 =>
 (ld1 h1 t23).bind fun t24 =>
 (Z00 P .neq 3 t18 t24).bind fun t25 =>
 (gd t25 true h1 (c+1+1+1) (Z04 (ptrTo (256*(c+1)+2)) 0)).bind fun r2 =>
 (gd t25 true r2.2.1 r2.2.2 (ld1 r2.2.1 r2.1)).bind fun r3 =>
 (gd t25 true r3.2.1 r3.2.2 (Z00 P .geq 3 r3.1 (.int .i64 0))).bind fun r4 =>
 (Z0B t25 r4.1 (.bool false)).bind fun t30 =>
 (Z08 t30
  ((Z0e t0).bind fun t33 =>
  (Z04 t33 2).bind fun t34 =>
  (ld1 r4.2.1 t34).bind fun t35 =>
  (Z04 (ptrTo (256*(c+1)+2)) 0).bind fun t36 =>
  (ld1 r4.2.1 t36).bind fun t37 =>
  (ixA 2 1 t3 (.int .i64 1)).bind fun t38 =>
  (ld1 r4.2.1 t38).bind fun t39 =>
  (Z04 (ptrTo (256*(c+1)+2)) 1).bind fun t40 =>
  (ixA 4 1 t40 t39).bind fun t41 =>
  (ld1 r4.2.1 t41).bind fun t42 =>
  (Z1z [(.int .i64 0),(.int .i64 0)] [(0,1,t37),(1,1,t42)]).bind fun t43 =>
  (Z5t P r4.2.1 118 t35 t43 false).bind fun t44 =>
  (ixA 4 1 t5 t18).bind fun t45 =>
  (stN r4.2.1 1 t45 t44).bind fun h6 =>
  some ⟨.normal,[t0,t3,t4,t5,t17,t18],h6,(r4.2.2+1),df⟩)
  (some ⟨.normal,[t0,t3,t4,t5,t17,t18],r4.2.1,r4.2.2,df⟩):Option (Rt H)).bind fun r7 =>
 cond (Z0u r7.e .normal)
  ((Z00 P .add 3 (r7.v 5) (.int .i64 1)).bind fun t46 =>
  some ⟨.normal,[r7.v 0,r7.v 1,r7.v 2,r7.v 3,r7.v 4,t46],r7.h,(r7.c+1),r7.df⟩)
  (none))
 (some ⟨(.exit 0),[t0,t3,t4,t5,t17,t18],h,(c+1),df⟩)
theorem Z2K (o:Orc H) (rd:Option Nat) (t0 t3 t4 t5 t17 t18:Value) (h:H) (c:Nat) (df:List Nat):jx P o 48 rd Z3c (Z0l [0,3,4,5,17,18] [t0,t3,t4,t5,t17,t18]) h c df (Klp [0,3,4,5,17,18])=Z3d o rd t0 t3 t4 t5 t17 t18 h c df:=by kernel_rfl
noncomputable def ZhC (o:Orc H) (t0 t1:Value) (h:H) (c:Nat):Option (Rt H) :=
 (bif (t1:Value).cells.toList.all Z07 then
 (Z1z [(.int .i64 0),(.int .i64 0),(.int .i64 0),(.int .i64 0)] [(0,1,(.int .i64 (-1))),(1,1,(.int .i64 (-1))),(2,1,(.int .i64 (-1))),(3,1,(.int .i64 (-1)))]).bind fun t8 =>
 (stN (newB (newB (newB h (256*c+0) (t1:Value).cells.toList) (256*c+1) [(.int .i64 0),(.int .i64 0),(.int .i64 0),(.int .i64 0)]) (256*(c+1)+1) [(.int .i64 0),(.int .i64 0),(.int .i64 0),(.int .i64 0)]) 4 (ptrTo (256*(c+1)+1)) t8).bind fun h1 =>
 (Z0e t0).bind fun t10 =>
 (Z04 t10 0).bind fun t11 =>
 (Z04 t11 0).bind fun t12 =>
 (ld1 h1 t12).bind fun t13 =>
 (ixA 2 1 (ptrTo (256*c+0)) (.int .i64 0)).bind fun t14 =>
 (ld1 h1 t14).bind fun t15 =>
 (ixS 20 t13 t15).bind fun t16 =>
 (ldN h1 20 t16).bind fun t17 =>
 (o (Z9R none) [t0,(ptrTo (256*c+0)),(ptrTo (256*c+1)),(ptrTo (256*(c+1)+1)),t17,(.int .i64 0)] h1 (c+1+1+1) []).bind fun r2 =>
 cond (Z0u r2.e (.exit 0))
 ((ldN r2.h 4 (r2.v 3)).bind fun t47 =>
 (stN r2.h 4 (r2.v 2) t47).bind fun h4 =>
 (Z09 h4 r2.df).bind fun h5 =>
 (ldN h5 4 (r2.v 2)).bind fun v6 =>
 some ⟨.ret,[v6],h5,(r2.c+1),[]⟩)
 (none)
 else none)
theorem ZeB (o:Orc H) (t0 t1:Value) (h:H) (c:Nat):jx P o 48 none f61_c (Z0l (List.range 2) [t0,t1]) h c [] (Kfn P Try.f61.results.toList)=ZhC o t0 t1 h c:=by kernel_rfl
theorem f61_go {t0 t1:Value} {h:FH} {c:Nat} {df:List Nat} {r:Rt FH} (e:ZhC G t0 t1 h c=some r):G (.fn 61) [t0,t1] h c df=some (gcR h c [] r):=Z0r (a:=ZcO) bk_61 rfl (fun args h c=>by cases args <;> rfl) rfl ((ZeB G t0 t1 h c).trans e)
noncomputable def Z73 (o:Orc H) (rd:Option Nat) (t2 t3 t4 t5 t7 t8 t9 t10 t11 t14:Value) (h:H) (c:Nat) (df:List Nat):Option (Rt H) :=
 (Z00 P .lss 3 t14 (.int .i64 4)).bind fun t92 =>
 Z08 t92
 ((Z00 P .add 3 t8 (.int .i64 1)).bind fun t97 =>
 (ixS 1 t4 t97).bind fun t98 =>
 (ld1 h t98).bind fun t99 =>
 (Zfh t99 t14).bind fun t101 =>
 (Z00 P .lss 5 t101 (.int .u8 48)).bind fun t103 =>
 (gd t103 false h (c+1+1+1) (some t101)).bind fun r0 =>
 (gd t103 false r0.2.1 r0.2.2 (Z00 P .gtr 5 r0.1 (.int .u8 57))).bind fun r1 =>
 (Z0B t103 (.bool true) r1.1).bind fun t107 =>
 Z08 t107
  ((Z1z [(.slice none 0 0)] []).bind fun t108 =>
  (stN r1.2.1 1 t2 t108).bind fun h3 =>
  some ⟨.ret,[t2,(.int .i64 4),t4,t5,t7,t8,t9,t10,t11,t14],h3,(r1.2.2+1),df⟩)
  ((Z00 P .sub 5 t101 (.int .u8 48)).bind fun t112 =>
  (cnvI .i64 t112).bind fun t113 =>
  (ixA 4 5 t10 t11).bind fun t114 =>
  (Z04 t114 1).bind fun t115 =>
  (ixA 4 1 t115 t14).bind fun t116 =>
  (stN r1.2.1 1 t116 t113).bind fun h6 =>
  (Z00 P .add 3 t14 (.int .i64 1)).bind fun t94 =>
  some ⟨.normal,[t2,t3,t4,t5,t7,t8,t9,t10,t11,t94],h6,(r1.2.2+1+1),df⟩))
 (some ⟨(.exit 4),[t2,t3,t4,t5,t7,t8,t9,t10,t11,t14],h,(c+1),df⟩)
theorem Zb1 (o:Orc H) (rd:Option Nat) (t2 t3 t4 t5 t7 t8 t9 t10 t11 t14:Value) (h:H) (c:Nat) (df:List Nat):jx P o 135 rd Z39 (Z0l [2,3,4,5,7,8,9,10,11,14] [t2,t3,t4,t5,t7,t8,t9,t10,t11,t14]) h c df (Klp [2,3,4,5,7,8,9,10,11,14])=Z73 o rd t2 t3 t4 t5 t7 t8 t9 t10 t11 t14 h c df:=by kernel_rfl
noncomputable def Z74 (o:Orc H) (rd:Option Nat) (t2 t3 t4 t5 t7 t8 t9 t10 t11:Value) (h:H) (c:Nat) (df:List Nat):Option (Rt H) :=
 (Z00 P .lss 3 t11 (.int .i64 4)).bind fun t42 =>
 Z08 t42
 (((Z2d t4).bind fun t47 =>
  (Z00 P .geq 3 t8 t47).bind fun t48 =>
  Z08 t48
   ((Z1z [(.slice none 0 0)] []).bind fun t49 =>
   (stN h 1 t2 t49).bind fun h1 =>
   some ⟨.ret,[t2,(.int .i64 4),t4,t5,t7,t8,t9,t10,t11],h1,(c+1+1+1),df⟩)
   ((ixS 1 t4 t8).bind fun t52 =>
   (ld1 h t52).bind fun t53 =>
   (Z00 P .eql 9 t53 (.string (ByteArray.mk #[45]))).bind fun t54 =>
   Z08 t54
    ((ixA 4 5 t10 t11).bind fun t56 =>
    (Z04 t56 0).bind fun t57 =>
    (stN h 1 t57 (.int .i64 (-1))).bind fun h4 =>
    (Z00 P .add 3 t8 (.int .i64 1)).bind fun t59 =>
    some ⟨.normal,[t2,t3,t4,t5,t7,t59,t9,t10,t11],h4,(c+1+1+1+1+1),df⟩)
    ((ixS 1 t4 t8).bind fun t63 =>
    (ld1 h t63).bind fun t64 =>
    (callF o 84 [t64] h (c+1+1+1+1)).bind fun r6 =>
    (Z46 r6.1 0).bind fun t66 =>
    (Z46 r6.1 1).bind fun t67 =>
    (Z1X .not t67).bind fun t69 =>
    (gd t69 false r6.2.1 (r6.2.2+1) (some t8)).bind fun r7 =>
    (gd t69 false r7.2.1 r7.2.2 (Z00 P .add 3 r7.1 (.int .i64 1))).bind fun r8 =>
    (gd t69 false r8.2.1 r8.2.2 (some t4)).bind fun r9 =>
    (gg t69 false r9.2.1 r9.2.2 (((Z2d r9.1).bind fun v=>some (v,r9.2.1)).bind fun r=>some (r.1,r.2,r9.2.2))).bind fun r10 =>
    (gd t69 false r10.2.1 r10.2.2 (Z00 P .geq 3 r8.1 r10.1)).bind fun r11 =>
    (Z0B t69 (.bool true) r11.1).bind fun t76 =>
    (gd t76 false r11.2.1 r11.2.2 (some t4)).bind fun r12 =>
    (gd t76 false r12.2.1 r12.2.2 (some t8)).bind fun r13 =>
    (gd t76 false r13.2.1 r13.2.2 (Z00 P .add 3 r13.1 (.int .i64 1))).bind fun r14 =>
    (gd t76 false r14.2.1 r14.2.2 (ixS 1 r12.1 r14.1)).bind fun r15 =>
    (gd t76 false r15.2.1 r15.2.2 (ld1 r15.2.1 r15.1)).bind fun r16 =>
    (gg t76 false r16.2.1 r16.2.2 (((ZbZ P r16.2.1 9 r16.1).bind fun v=>some (v,r16.2.1)).bind fun r=>some (r.1,r.2,r16.2.2))).bind fun r17 =>
    (gd t76 false r17.2.1 r17.2.2 (Z00 P .neq 3 r17.1 (.int .i64 4))).bind fun r18 =>
    (Z0B t76 (.bool true) r18.1).bind fun t85 =>
    Z08 t85
     ((Z1z [(.slice none 0 0)] []).bind fun t86 =>
     (stN r18.2.1 1 t2 t86).bind fun h20 =>
     some ⟨.ret,[t2,(.int .i64 4),t4,t5,t7,t8,t9,t10,t11],h20,(r18.2.2+1),df⟩)
     ((ixA 4 5 t10 t11).bind fun t89 =>
     (Z04 t89 0).bind fun t90 =>
     (stN r18.2.1 1 t90 t66).bind fun h23 =>
     (o (ZfD rd) [t2,t3,t4,t5,t7,t8,t9,t10,t11,(.int .i64 0)] h23 (r18.2.2+1+1) df).bind fun r24 =>
     cond (Z0u r24.e (.exit 4))
      ((Z00 P .add 3 (r24.v 5) (.int .i64 2)).bind fun t118 =>
      some ⟨.normal,[r24.v 0,r24.v 1,r24.v 2,r24.v 3,r24.v 4,t118,r24.v 6,r24.v 7,r24.v 8],r24.h,(r24.c+1),r24.df⟩)
      (cond (Z0u r24.e .ret)
       (some ⟨.ret,[r24.v 0,r24.v 1,r24.v 2,r24.v 3,r24.v 4,r24.v 5,r24.v 6,r24.v 7,r24.v 8],r24.h,r24.c,r24.df⟩)
       (none))))):Option (Rt H)).bind fun r26 =>
 cond (Z0u r26.e .ret)
  (some ⟨.ret,[r26.v 0,r26.v 1,r26.v 2,r26.v 3,r26.v 4,r26.v 5,r26.v 6,r26.v 7,r26.v 8],r26.h,r26.c,r26.df⟩)
  (cond (Z0u r26.e .normal)
   ((Z00 P .add 3 (r26.v 8) (.int .i64 1)).bind fun t44 =>
   some ⟨.normal,[r26.v 0,r26.v 1,r26.v 2,r26.v 3,r26.v 4,r26.v 5,r26.v 6,r26.v 7,t44],r26.h,(r26.c+1),r26.df⟩)
   (none)))
 (some ⟨(.exit 2),[t2,t3,t4,t5,t7,t8,t9,t10,t11],h,(c+1),df⟩)
theorem Zb2 (o:Orc H) (rd:Option Nat) (t2 t3 t4 t5 t7 t8 t9 t10 t11:Value) (h:H) (c:Nat) (df:List Nat):jx P o 135 rd Z3a (Z0l [2,3,4,5,7,8,9,10,11] [t2,t3,t4,t5,t7,t8,t9,t10,t11]) h c df (Klp [2,3,4,5,7,8,9,10,11])=Z74 o rd t2 t3 t4 t5 t7 t8 t9 t10 t11 h c df:=by kernel_rfl
noncomputable def Z75 (o:Orc H) (rd:Option Nat) (t2 t3 t4 t5 t7 t8 t9:Value) (h:H) (c:Nat) (df:List Nat):Option (Rt H) :=
 (Z00 P .lss 3 t9 t5).bind fun t38 =>
 Z08 t38
 ((o (ZfE rd) [t2,t3,t4,t5,t7,t8,t9,(ptrTo (256*(c+1)+0)),(.int .i64 0)] (newB h (256*(c+1)+0) [(.int .i64 0),(.int .i64 0),(.int .i64 0),(.int .i64 0),(.int .i64 0),(.int .i64 0),(.int .i64 0),(.int .i64 0),(.int .i64 0),(.int .i64 0),(.int .i64 0),(.int .i64 0),(.int .i64 0),(.int .i64 0),(.int .i64 0),(.int .i64 0),(.int .i64 0),(.int .i64 0),(.int .i64 0),(.int .i64 0)]) (c+1+1+1) df).bind fun r0 =>
 cond (Z0u r0.e (.exit 2))
  ((Z04 (r0.v 4) 0).bind fun t119 =>
  (ld1 r0.h t119).bind fun t120 =>
  (ldN r0.h 20 (r0.v 7)).bind fun t121 =>
  (Z7R [(.int .i64 0),(.int .i64 0),(.int .i64 0),(.int .i64 0),(.int .i64 0),(.int .i64 0),(.int .i64 0),(.int .i64 0),(.int .i64 0),(.int .i64 0),(.int .i64 0),(.int .i64 0),(.int .i64 0),(.int .i64 0),(.int .i64 0),(.int .i64 0),(.int .i64 0),(.int .i64 0),(.int .i64 0),(.int .i64 0)] [(0,20,t121)]).bind fun r1 =>
  (Z6e (newB r0.h (256*r0.c+3) r1) (256*r0.c+4) 20 160 t120 (.slice (some ⟨(256*r0.c+3),0,none⟩) 1 1)).bind fun r2 =>
  (Z04 (r0.v 4) 0).bind fun t124 =>
  (stN r2.2 1 t124 r2.1).bind fun h4 =>
  (Z00 P .add 3 (r0.v 6) (.int .i64 1)).bind fun t40 =>
  some ⟨.normal,[r0.v 0,r0.v 1,r0.v 2,r0.v 3,r0.v 4,r0.v 5,t40],h4,(r0.c+1+1),r0.df⟩)
  (cond (Z0u r0.e .ret)
   (some ⟨.ret,[r0.v 0,r0.v 1,r0.v 2,r0.v 3,r0.v 4,r0.v 5,r0.v 6],r0.h,r0.c,r0.df⟩)
   (none)))
 (some ⟨(.exit 0),[t2,t3,t4,t5,t7,t8,t9],h,(c+1),df⟩)
theorem Zb3 (o:Orc H) (rd:Option Nat) (t2 t3 t4 t5 t7 t8 t9:Value) (h:H) (c:Nat) (df:List Nat):jx P o 135 rd Z3b (Z0l [2,3,4,5,7,8,9] [t2,t3,t4,t5,t7,t8,t9]) h c df (Klp [2,3,4,5,7,8,9])=Z75 o rd t2 t3 t4 t5 t7 t8 t9 h c df:=by kernel_rfl
noncomputable def Znf (o:Orc H) (t0:Value) (h:H) (c:Nat):Option (Rt H) :=
 (ZbZ P (newB h (256*c+0) [(.slice none 0 0)]) 9 t0).bind fun t17 =>
 (Z00 P .gtr 3 t17 (.int .i64 200000)).bind fun t18 =>
 Z08 t18
 ((Z1z [(.slice none 0 0)] []).bind fun t19 =>
 (stN (newB h (256*c+0) [(.slice none 0 0)]) 1 (ptrTo (256*c+0)) t19).bind fun h1 =>
 (ldN h1 1 (ptrTo (256*c+0))).bind fun v2 =>
 some ⟨.ret,[.tuple #[v2,(.int .i64 2)]],h1,(c+1+1+1),[]⟩)
 ((callF o 83 [t0] (newB h (256*c+0) [(.slice none 0 0)]) (c+1+1+1)).bind fun r3 =>
 (Z2d r3.1).bind fun t23 =>
 (Z00 P .eql 3 t23 (.int .i64 0)).bind fun t24 =>
 Z08 t24
  ((Z1z [(.slice none 0 0)] []).bind fun t25 =>
  (stN r3.2.1 1 (ptrTo (256*c+0)) t25).bind fun h5 =>
  (ldN h5 1 (ptrTo (256*c+0))).bind fun v6 =>
  some ⟨.ret,[.tuple #[v6,(.int .i64 4)]],h5,(r3.2.2+1+1),[]⟩)
  ((ixS 1 r3.1 (.int .i64 0)).bind fun t28 =>
  (ld1 r3.2.1 t28).bind fun t29 =>
  (callF o 84 [t29] r3.2.1 (r3.2.2+1+1)).bind fun r7 =>
  (Z46 r7.1 0).bind fun t31 =>
  (Z46 r7.1 1).bind fun t32 =>
  (Z1X .not t32).bind fun t34 =>
  Z08 t34
   ((Z1z [(.slice none 0 0)] []).bind fun t35 =>
   (stN r7.2.1 1 (ptrTo (256*c+0)) t35).bind fun h9 =>
   (ldN h9 1 (ptrTo (256*c+0))).bind fun v10 =>
   some ⟨.ret,[.tuple #[v10,(.int .i64 4)]],h9,(r7.2.2+1+1),[]⟩)
   ((o (ZfF none) [(ptrTo (256*c+0)),(.int .i64 0),r3.1,t31,(ptrTo (256*(r7.2.2+1)+0)),(.int .i64 1),(.int .i64 0)] (newB r7.2.1 (256*(r7.2.2+1)+0) [(.slice none 0 0)]) (r7.2.2+1+1+1+1) []).bind fun r11 =>
   cond (Z0u r11.e (.exit 0))
    ((Z2d (r11.v 2)).bind fun t127 =>
    (Z00 P .neq 3 (r11.v 5) t127).bind fun t128 =>
    Z08 t128
     ((Z1z [(.slice none 0 0)] []).bind fun t129 =>
     (stN r11.h 1 (r11.v 0) t129).bind fun h15 =>
     (Z09 h15 r11.df).bind fun h16 =>
     (ldN h16 1 (r11.v 0)).bind fun v17 =>
     some ⟨.ret,[.tuple #[v17,(.int .i64 4)]],h16,(r11.c+1+1),[]⟩)
     ((ldN r11.h 1 (r11.v 4)).bind fun t130 =>
     (callF o 14 [t130] r11.h (r11.c+1+1)).bind fun r18 =>
     (Z00 P .neq 33 r18.1 (.int .i64 0)).bind fun t132 =>
     Z08 t132
      ((Z1z [(.slice none 0 0)] []).bind fun t133 =>
      (stN r18.2.1 1 (r11.v 0) t133).bind fun h20 =>
      (Z09 h20 r11.df).bind fun h21 =>
      (ldN h21 1 (r11.v 0)).bind fun v22 =>
      some ⟨.ret,[.tuple #[v22,(.int .i64 7)]],h21,(r18.2.2+1),[]⟩)
      ((ldN r18.2.1 1 (r11.v 4)).bind fun t134 =>
      (stN r18.2.1 1 (r11.v 0) t134).bind fun h24 =>
      (Z09 h24 r11.df).bind fun h25 =>
      (ldN h25 1 (r11.v 0)).bind fun v26 =>
      some ⟨.ret,[.tuple #[v26,(.int .i64 0)]],h25,(r18.2.2+1),[]⟩)))
    (cond (Z0u r11.e .ret)
     ((Z09 r11.h r11.df).bind fun h12 =>
     (ldN h12 1 (r11.v 0)).bind fun v13 =>
     some ⟨.ret,[.tuple #[v13,r11.v 1]],h12,r11.c,[]⟩)
     (none)))))
theorem ZkM (o:Orc H) (t0:Value) (h:H) (c:Nat):jx P o 135 none f62_c (Z0l (List.range 1) [t0]) h c [] (Kfn P Try.f62.results.toList)=Znf o t0 h c:=by kernel_rfl
noncomputable def ZhB (o:Orc H) (t0:Value) (h:H) (c:Nat):Option (Rt H) :=
 (bif (t0:Value).cells.toList.all Z07 then
 some ⟨.ret,[(.func (.func 85) [].toArray [(ptrTo (256*c+0))].toArray)],(newB h (256*c+0) (t0:Value).cells.toList),(c+1+1),[]⟩
 else none)
theorem ZeA (o:Orc H) (t0:Value) (h:H) (c:Nat):jx P o 4 none f63_c (Z0l (List.range 1) [t0]) h c [] (Kfn P Try.f63.results.toList)=ZhB o t0 h c:=by kernel_rfl
theorem f63_go {t0:Value} {h:FH} {c:Nat} {df:List Nat} {r:Rt FH} (e:ZhB G t0 h c=some r):G (.fn 63) [t0] h c df=some r:=Z0r (a:=ZcN) bk_63 rfl (fun args h c=>by cases args <;> rfl) rfl ((ZeA G t0 h c).trans e)
noncomputable def Z2g (o:Orc H) (rd:Option Nat) (t2 t3 t6 t7:Value) (h:H) (c:Nat) (df:List Nat):Option (Rt H) :=
 (Z00 P .lss 3 t7 (.int .i64 4)).bind fun t8 =>
 Z08 t8
 ((ixV 4 false 1 t6 t7).bind fun t10 =>
 (ixA 4 1 t3 t10).bind fun t13 =>
 (stN h 1 t13 t7).bind fun h1 =>
 (Z00 P .add 3 t7 (.int .i64 1)).bind fun t14 =>
 some ⟨.normal,[t2,t3,t6,t14],h1,(c+1+1+1+1),df⟩)
 (some ⟨(.exit 0),[t2,t3,t6,t7],h,(c+1),df⟩)
theorem Z4U (o:Orc H) (rd:Option Nat) (t2 t3 t6 t7:Value) (h:H) (c:Nat) (df:List Nat):jx P o 16 rd Z38 (Z0l [2,3,6,7] [t2,t3,t6,t7]) h c df (Klp [2,3,6,7])=Z2g o rd t2 t3 t6 t7 h c df:=by kernel_rfl
noncomputable def ZhA (o:Orc H) (t0:Value) (h:H) (c:Nat):Option (Rt H) :=
 (bif (t0:Value).cells.toList.all Z07 then
 (ldN (newB (newB (newB h (256*c+0) (t0:Value).cells.toList) (256*c+1) [(.int .i64 0),(.int .i64 0),(.int .i64 0),(.int .i64 0)]) (256*(c+1)+0) [(.int .i64 0),(.int .i64 0),(.int .i64 0),(.int .i64 0)]) 4 (ptrTo (256*c+0))).bind fun t6 =>
 (o (Z4l none) [(ptrTo (256*c+1)),(ptrTo (256*(c+1)+0)),t6,(.int .i64 0)] (newB (newB (newB h (256*c+0) (t0:Value).cells.toList) (256*c+1) [(.int .i64 0),(.int .i64 0),(.int .i64 0),(.int .i64 0)]) (256*(c+1)+0) [(.int .i64 0),(.int .i64 0),(.int .i64 0),(.int .i64 0)]) (c+1+1+1) []).bind fun r0 =>
 cond (Z0u r0.e (.exit 0))
 ((ldN r0.h 4 (r0.v 1)).bind fun t15 =>
 (stN r0.h 4 (r0.v 0) t15).bind fun h2 =>
 (Z09 h2 r0.df).bind fun h3 =>
 (ldN h3 4 (r0.v 0)).bind fun v4 =>
 some ⟨.ret,[v4],h3,(r0.c+1),[]⟩)
 (none)
 else none)
theorem Zez (o:Orc H) (t0:Value) (h:H) (c:Nat):jx P o 16 none f64_c (Z0l (List.range 1) [t0]) h c [] (Kfn P Try.f64.results.toList)=ZhA o t0 h c:=by kernel_rfl
theorem f64_go {t0:Value} {h:FH} {c:Nat} {df:List Nat} {r:Rt FH} (e:ZhA G t0 h c=some r):G (.fn 64) [t0] h c df=some (gcR h c [] r):=Z0r (a:=ZcM) bk_64 rfl (fun args h c=>by cases args <;> rfl) rfl ((Zez G t0 h c).trans e)
theorem ZfC {rd:Option Nat} {t2 t3 t6 t7:Value} {h:FH} {c:Nat} {df:List Nat} {q r:Rt FH} (e:Z2g G rd t2 t3 t6 t7 h c df=some q) (hq:q.e = .normal) (k:G (Z4l rd) q.vs (gcR h c df q).h (gcR h c df q).c q.df=some r):G (Z4l rd) [t2,t3,t6,t7] h c df=some r:=Z0K ((Z4U G rd t2 t3 t6 t7 h c df).trans e) hq k
theorem ZfB {rd:Option Nat} {t2 t3 t6 t7:Value} {h:FH} {c:Nat} {df:List Nat} {q:Rt FH} (e:Z2g G rd t2 t3 t6 t7 h c df=some q) (hq:q.e ≠ .normal):G (Z4l rd) [t2,t3,t6,t7] h c df=some (gcR h c df q):=Z0L ((Z4U G rd t2 t3 t6 t7 h c df).trans e) hq
noncomputable def Z2f (o:Orc H) (rd:Option Nat) (t0 t1 t4 t5 t6 t7 t9 t23 t24 t25 t29:Value) (h:H) (c:Nat) (df:List Nat):Option (Rt H) :=
 (Z00 P .lss 3 t29 (.int .i64 4)).bind fun t30 =>
 Z08 t30
 (((ixA 2 1 t9 (.int .i64 1)).bind fun t33 =>
  (ld1 h t33).bind fun t34 =>
  (Z00 P .eql 3 t29 t34).bind fun t35 =>
  Z08 t35
   (some ⟨.normal,[t0,t1,t4,t5,t6,t7,t9,t23,t24,t25,t29],h,(c+1+1+1),df⟩)
   ((ixA 2 1 t9 (.int .i64 0)).bind fun t38 =>
   (ld1 h t38).bind fun t39 =>
   (Z00 P .mul 3 (.int .i64 16) t39).bind fun t40 =>
   (ixA 2 1 t9 (.int .i64 1)).bind fun t41 =>
   (ld1 h t41).bind fun t42 =>
   (Z00 P .mul 3 (.int .i64 4) t42).bind fun t43 =>
   (Z00 P .add 3 t40 t43).bind fun t44 =>
   (Z00 P .add 3 t44 t29).bind fun t46 =>
   (ixS 1 t1 t46).bind fun t47 =>
   (ld1 h t47).bind fun t48 =>
   (Z0D P h 146 t6 t48 (.bool true)).bind fun h1 =>
   (Z0e t0).bind fun t50 =>
   (Z04 t50 0).bind fun t51 =>
   (Z04 t51 0).bind fun t52 =>
   (ld1 h1 t52).bind fun t53 =>
   (ixA 2 1 t9 (.int .i64 0)).bind fun t54 =>
   (ld1 h1 t54).bind fun t55 =>
   (ixS 20 t53 t55).bind fun t57 =>
   (ixA 4 5 t57 t29).bind fun t58 =>
   (Z04 t58 0).bind fun t59 =>
   (ld1 h1 t59).bind fun t60 =>
   (Z00 P .lss 3 t60 (.int .i64 0)).bind fun t61 =>
   (Z08 t61
    ((Z04 t5 1).bind fun t62 =>
    (ld1 h1 t62).bind fun t63 =>
    (Z00 P .add 3 t63 (.int .i64 1)).bind fun t64 =>
    (Z04 t5 1).bind fun t65 =>
    (stN h1 1 t65 t64).bind fun h3 =>
    (Z04 t5 4).bind fun t66 =>
    (stN h3 1 t66 (.bool false)).bind fun h5 =>
    some ⟨.normal,[t0,t1,t4,t5,t6,t7,t9,t23,t24,t25,t29],h5,(c+1+1+1+1+1+1+1),df⟩)
    ((Z00 P .add 3 t7 (.int .i64 1)).bind fun t68 =>
    some ⟨.normal,[t0,t1,t4,t5,t6,t68,t9,t23,t24,t25,t29],h1,(c+1+1+1+1+1+1),df⟩):Option (Rt H)).bind fun r7 =>
   cond (Z0u r7.e .normal)
    (some ⟨.normal,[r7.v 0,r7.v 1,r7.v 2,r7.v 3,r7.v 4,r7.v 5,r7.v 6,r7.v 7,r7.v 8,r7.v 9,r7.v 10],r7.h,r7.c,r7.df⟩)
    (none)):Option (Rt H)).bind fun r8 =>
 cond (Z0u r8.e .normal)
  ((Z00 P .add 3 (r8.v 10) (.int .i64 1)).bind fun t69 =>
  some ⟨.normal,[r8.v 0,r8.v 1,r8.v 2,r8.v 3,r8.v 4,r8.v 5,r8.v 6,r8.v 7,r8.v 8,r8.v 9,t69],r8.h,(r8.c+1),r8.df⟩)
  (none))
 (some ⟨(.exit 2),[t0,t1,t4,t5,t6,t7,t9,t23,t24,t25,t29],h,(c+1),df⟩)
theorem Z23 (o:Orc H) (rd:Option Nat) (t0 t1 t4 t5 t6 t7 t9 t23 t24 t25 t29:Value) (h:H) (c:Nat) (df:List Nat):jx P o 90 rd Z36 (Z0l [0,1,4,5,6,7,9,23,24,25,29] [t0,t1,t4,t5,t6,t7,t9,t23,t24,t25,t29]) h c df (Klp [0,1,4,5,6,7,9,23,24,25,29])=Z2f o rd t0 t1 t4 t5 t6 t7 t9 t23 t24 t25 t29 h c df:=by kernel_rfl
noncomputable def Z4k (o:Orc H) (rd:Option Nat) (t0 t1 t4 t5 t6 t7 t23 t24 t25:Value) (h:H) (c:Nat) (df:List Nat):Option (Rt H) :=
 (Z00 P .lss 3 t25 t24).bind fun t26 =>
 Z08 t26
 ((ixS 2 t23 t25).bind fun t27 =>
 (ldN h 2 t27).bind fun t28 =>
 (stN (newB h (256*(c+1)+2) [(.int .i64 0),(.int .i64 0)]) 2 (ptrTo (256*(c+1)+2)) t28).bind fun h1 =>
 (o (Z9P rd) [t0,t1,t4,t5,t6,t7,(ptrTo (256*(c+1)+2)),t23,t24,t25,(.int .i64 0)] h1 (c+1+1+1) df).bind fun r2 =>
 cond (Z0u r2.e (.exit 2))
  ((Z00 P .add 3 (r2.v 9) (.int .i64 1)).bind fun t70 =>
  some ⟨.normal,[r2.v 0,r2.v 1,r2.v 2,r2.v 3,r2.v 4,r2.v 5,r2.v 7,r2.v 8,t70],r2.h,(r2.c+1),r2.df⟩)
  (none))
 (some ⟨(.exit 0),[t0,t1,t4,t5,t6,t7,t23,t24,t25],h,(c+1),df⟩)
theorem Z4T (o:Orc H) (rd:Option Nat) (t0 t1 t4 t5 t6 t7 t23 t24 t25:Value) (h:H) (c:Nat) (df:List Nat):jx P o 90 rd Z37 (Z0l [0,1,4,5,6,7,23,24,25] [t0,t1,t4,t5,t6,t7,t23,t24,t25]) h c df (Klp [0,1,4,5,6,7,23,24,25])=Z4k o rd t0 t1 t4 t5 t6 t7 t23 t24 t25 h c df:=by kernel_rfl
noncomputable def Zhz (o:Orc H) (t0 t1:Value) (h:H) (c:Nat):Option (Rt H) :=
 (Z0e t0).bind fun t12 =>
 (Z04 t12 1).bind fun t13 =>
 (ld1 (newB h (256*c+0) [(.int .i64 0),(.int .i64 0),(.int .i64 0),(.int .i64 0),(.bool false),(.bool false)]) t13).bind fun t14 =>
 (Z2d t14).bind fun t15 =>
 (callF o 86 [t0] (newB h (256*c+0) [(.int .i64 0),(.int .i64 0),(.int .i64 0),(.int .i64 0),(.bool false),(.bool false)]) (c+1+1)).bind fun r0 =>
 (Z1z [(.int .i64 0),(.int .i64 0),(.int .i64 0),(.int .i64 0),(.bool false),(.bool false)] [(0,1,t15),(4,1,(.bool true)),(5,1,r0.1)]).bind fun t18 =>
 (stN (newB r0.2.1 (256*(c+1)+8) [(.int .i64 0),(.int .i64 0),(.int .i64 0),(.int .i64 0),(.bool false),(.bool false)]) 6 (ptrTo (256*(c+1)+8)) t18).bind fun h2 =>
 (bif (Z1f (Z2t t13) (newB h (256*c+0) [(.int .i64 0),(.int .i64 0),(.int .i64 0),(.int .i64 0),(.bool false),(.bool false)]) r0.2.1 && (Z1f (Z2t t14) (newB h (256*c+0) [(.int .i64 0),(.int .i64 0),(.int .i64 0),(.int .i64 0),(.bool false),(.bool false)]) r0.2.1 && true)) then
 (Z0e t0).bind fun t21 =>
 (Z04 t21 1).bind fun t22 =>
 (ld1 (HeapC.set h2 (256*r0.2.2+0) (.map [])) t22).bind fun t23 =>
 (Z2d t23).bind fun t24 =>
 (o (Z9Q none) [t0,t1,(ptrTo (256*c+0)),(ptrTo (256*(c+1)+8)),(.map (some (256*r0.2.2+0))),(.int .i64 0),t23,t24,(.int .i64 0)] (HeapC.set h2 (256*r0.2.2+0) (.map [])) (r0.2.2+1+1+1) []).bind fun r3 =>
 cond (Z0u r3.e (.exit 0))
 ((Z04 (r3.v 3) 1).bind fun t71 =>
 (ld1 r3.h t71).bind fun t72 =>
 (Z00 P .quo 3 (r3.v 5) (.int .i64 2)).bind fun t74 =>
 (Z00 P .add 3 t72 t74).bind fun t75 =>
 (Z04 (r3.v 3) 1).bind fun t76 =>
 (stN r3.h 1 t76 t75).bind fun h5 =>
 (ZbZ P h5 146 (r3.v 4)).bind fun t78 =>
 (Z04 (r3.v 3) 2).bind fun t79 =>
 (stN h5 1 t79 t78).bind fun h7 =>
 (Z04 (r3.v 3) 2).bind fun t80 =>
 (ld1 h7 t80).bind fun t81 =>
 (Z04 (r3.v 3) 1).bind fun t82 =>
 (ld1 h7 t82).bind fun t83 =>
 (Z00 P .sub 3 t81 t83).bind fun t84 =>
 (Z04 (r3.v 3) 0).bind fun t85 =>
 (ld1 h7 t85).bind fun t86 =>
 (Z00 P .add 3 t84 t86).bind fun t87 =>
 (Z04 (r3.v 3) 3).bind fun t88 =>
 (stN h7 1 t88 t87).bind fun h9 =>
 (ldN h9 6 (r3.v 3)).bind fun t89 =>
 (stN h9 6 (r3.v 2) t89).bind fun h11 =>
 (Z09 h11 r3.df).bind fun h12 =>
 (ldN h12 6 (r3.v 2)).bind fun v13 =>
 some ⟨.ret,[v13],h12,(r3.c+1+1+1+1),[]⟩)
 (none)
 else none)
theorem Zey (o:Orc H) (t0 t1:Value) (h:H) (c:Nat):jx P o 90 none f65_c (Z0l (List.range 2) [t0,t1]) h c [] (Kfn P Try.f65.results.toList)=Zhz o t0 t1 h c:=by kernel_rfl
theorem f65_go {t0 t1:Value} {h:FH} {c:Nat} {df:List Nat} {r:Rt FH} (e:Zhz G t0 t1 h c=some r):G (.fn 65) [t0,t1] h c df=some (gcR h c [] r):=Z0r (a:=ZcL) bk_65 rfl (fun args h c=>by cases args <;> rfl) rfl ((Zey G t0 t1 h c).trans e)
noncomputable def Z4j (o:Orc H) (rd:Option Nat) (t2 t3 t10 t11:Value) (h:H) (c:Nat) (df:List Nat):Option (Rt H) :=
 (Z00 P .lss 3 t11 t10).bind fun t12 =>
 Z08 t12
 ((Z04 t3 0).bind fun t14 =>
 (ld1 h t14).bind fun t15 =>
 (ixS 1 t15 t11).bind fun t18 =>
 (stN h 1 t18 t11).bind fun h1 =>
 (Z00 P .add 3 t11 (.int .i64 1)).bind fun t19 =>
 some ⟨.normal,[t2,t3,t10,t19],h1,(c+1+1+1+1),df⟩)
 (some ⟨(.exit 0),[t2,t3,t10,t11],h,(c+1),df⟩)
theorem Z4S (o:Orc H) (rd:Option Nat) (t2 t3 t10 t11:Value) (h:H) (c:Nat) (df:List Nat):jx P o 21 rd Z35 (Z0l [2,3,10,11] [t2,t3,t10,t11]) h c df (Klp [2,3,10,11])=Z4j o rd t2 t3 t10 t11 h c df:=by kernel_rfl
noncomputable def Zhy (o:Orc H) (t0:Value) (h:H) (c:Nat):Option (Rt H) :=
 (mkS 1 8 [(.int .i64 0)] t0 t0).bind fun r0 =>
 (Z1z [(.slice none 0 0)] [(0,1,(.slice (some ⟨(256*(c+1)+1),0,none⟩) r0.2.1 r0.2.2))]).bind fun t7 =>
 (stN (newB (newB (newB h (256*c+0) [(.slice none 0 0)]) (256*(c+1)+1) r0.1) (256*(c+1)+3) [(.slice none 0 0)]) 1 (ptrTo (256*(c+1)+3)) t7).bind fun h2 =>
 (Z04 (ptrTo (256*(c+1)+3)) 0).bind fun t8 =>
 (ld1 h2 t8).bind fun t9 =>
 (Z2d t9).bind fun t10 =>
 (o (Z9O none) [(ptrTo (256*c+0)),(ptrTo (256*(c+1)+3)),t10,(.int .i64 0)] h2 (c+1+1+1) []).bind fun r3 =>
 cond (Z0u r3.e (.exit 0))
 ((ldN r3.h 1 (r3.v 1)).bind fun t20 =>
 (stN r3.h 1 (r3.v 0) t20).bind fun h5 =>
 (Z09 h5 r3.df).bind fun h6 =>
 (ldN h6 1 (r3.v 0)).bind fun v7 =>
 some ⟨.ret,[v7],h6,(r3.c+1),[]⟩)
 (none)
theorem Zex (o:Orc H) (t0:Value) (h:H) (c:Nat):jx P o 21 none f66_c (Z0l (List.range 1) [t0]) h c [] (Kfn P Try.f66.results.toList)=Zhy o t0 h c:=by kernel_rfl
theorem f66_go {t0:Value} {h:FH} {c:Nat} {df:List Nat} {r:Rt FH} (e:Zhy G t0 h c=some r):G (.fn 66) [t0] h c df=some r:=Z0r (a:=ZcK) bk_66 rfl (fun args h c=>by cases args <;> rfl) rfl ((Zex G t0 h c).trans e)
noncomputable def ZfA (o:Orc H) (t0 t1 t2:Value) (h:H) (c:Nat):Option (Rt H) :=
 (callF o 68 [t0,t1] h (c+1)).bind fun r0 =>
 (callF o 68 [t0,t2] r0.2.1 r0.2.2).bind fun r1 =>
 (Z0e t0).bind fun t13 =>
 (Z04 t13 0).bind fun t14 =>
 (ld1 r1.2.1 t14).bind fun t15 =>
 (Z5f max2 [r0.1,r1.1]).bind fun t18 =>
 (Z5f min2 [r0.1,r1.1]).bind fun t21 =>
 (ixS 1 t15 t18).bind fun t22 =>
 (stN r1.2.1 1 t22 t21).bind fun h5 =>
 some ⟨.ret,[.tuple #[]],h5,(r1.2.2+1),[]⟩
theorem Zew (o:Orc H) (t0 t1 t2:Value) (h:H) (c:Nat):jx P o 23 none f67_c (Z0l (List.range 3) [t0,t1,t2]) h c [] (Kfn P Try.f67.results.toList)=ZfA o t0 t1 t2 h c:=by kernel_rfl
theorem f67_go {t0 t1 t2:Value} {h:FH} {c:Nat} {df:List Nat} {r:Rt FH} (e:ZfA G t0 t1 t2 h c=some r):G (.fn 67) [t0,t1,t2] h c df=some (gcR h c [] r):=Z0r (a:=ZcJ) bk_67 rfl (fun args h c=>by cases args <;> rfl) rfl ((Zew G t0 t1 t2 h c).trans e)
end Go.Proofs.Ytdodippbpdechaa
