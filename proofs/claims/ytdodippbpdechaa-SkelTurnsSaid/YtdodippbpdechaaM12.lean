/- Parts of a proof: S6 S7. Conditions: none. -/
import Derived.Test.YtdodippbpdechaaM9
set_option linter.all false
set_option maxRecDepth 100000
namespace Go.Proofs.Ytdodippbpdechaa
open Go Go.Ab Go.Proofs
variable {H:Type} [HeapC H]
noncomputable def Z5D (o:Orc H) (rd:Option Nat) (t0 t1:Value) (h:H) (c:Nat) (df:List Nat):Option (Rt H) :=
 (Z0e t0).bind fun t6 =>
 (Z04 t6 0).bind fun t7 =>
 (ld1 h t7).bind fun t8 =>
 (ixS 1 t8 t1).bind fun t10 =>
 (ld1 h t10).bind fun t11 =>
 (Z00 P .neq 3 t11 t1).bind fun t13 =>
 Z08 t13
 ((Z0e t0).bind fun t15 =>
 (Z04 t15 0).bind fun t16 =>
 (ld1 h t16).bind fun t17 =>
 (Z0e t0).bind fun t20 =>
 (Z04 t20 0).bind fun t21 =>
 (ld1 h t21).bind fun t22 =>
 (Z0e t0).bind fun t24 =>
 (Z04 t24 0).bind fun t25 =>
 (ld1 h t25).bind fun t26 =>
 (ixS 1 t26 t1).bind fun t28 =>
 (ld1 h t28).bind fun t29 =>
 (ixS 1 t22 t29).bind fun t30 =>
 (ld1 h t30).bind fun t31 =>
 (ixS 1 t17 t1).bind fun t32 =>
 (stN h 1 t32 t31).bind fun h1 =>
 (Z0e t0).bind fun t34 =>
 (Z04 t34 0).bind fun t35 =>
 (ld1 h1 t35).bind fun t36 =>
 (ixS 1 t36 t1).bind fun t38 =>
 (ld1 h1 t38).bind fun t39 =>
 some ⟨.normal,[t0,t39],h1,(c+1+1+1),df⟩)
 (some ⟨(.exit 0),[t0,t1],h,(c+1),df⟩)
theorem Z6u (o:Orc H) (rd:Option Nat) (t0 t1:Value) (h:H) (c:Nat) (df:List Nat):jx P o 41 rd Z34 (Z0l [0,1] [t0,t1]) h c df (Klp [0,1])=Z5D o rd t0 t1 h c df:=by kernel_rfl
noncomputable def Zfz (o:Orc H) (t0 t1:Value) (h:H) (c:Nat):Option (Rt H) :=
 (o (Z9N none) [t0,t1] h (c+1) []).bind fun r0 =>
 cond (Z0u r0.e (.exit 0))
 ((Z09 r0.h r0.df).bind fun h1 =>
 some ⟨.ret,[r0.v 1],h1,(r0.c+1),[]⟩)
 (none)
theorem Zev (o:Orc H) (t0 t1:Value) (h:H) (c:Nat):jx P o 41 none f68_c (Z0l (List.range 2) [t0,t1]) h c [] (Kfn P Try.f68.results.toList)=Zfz o t0 t1 h c:=by kernel_rfl
theorem f68_go {t0 t1:Value} {h:FH} {c:Nat} {df:List Nat} {r:Rt FH} (e:Zfz G t0 t1 h c=some r):G (.fn 68) [t0,t1] h c df=some (gcR h c [] r):=Z0r (a:=ZcI) bk_68 rfl (fun args h c=>by cases args <;> rfl) rfl ((Zev G t0 t1 h c).trans e)
noncomputable def Znc (o:Orc H) (t0:Value) (h:H) (c:Nat):Option (Rt H) :=
 (bif (t0:Value).cells.toList.all Z07 then
 (Z04 (ptrTo (256*c+0)) 1).bind fun t3 =>
 (ld1 (newB h (256*c+0) (t0:Value).cells.toList) t3).bind fun t4 =>
 some ⟨.ret,[t4],(newB h (256*c+0) (t0:Value).cells.toList),(c+1+1),[]⟩
 else none)
theorem ZkL (o:Orc H) (t0:Value) (h:H) (c:Nat):jx P o 5 none f69_c (Z0l (List.range 1) [t0]) h c [] (Kfn P Try.f69.results.toList)=Znc o t0 h c:=by kernel_rfl
noncomputable def Zna (o:Orc H) (t0:Value) (h:H) (c:Nat):Option (Rt H) :=
 (bif (t0:Value).cells.toList.all Z07 then
 (Z04 (ptrTo (256*c+0)) 0).bind fun t3 =>
 (ld1 (newB h (256*c+0) (t0:Value).cells.toList) t3).bind fun t4 =>
 (Z1X .not t4).bind fun t5 =>
 (gd t5 true (newB h (256*c+0) (t0:Value).cells.toList) (c+1+1) (Z04 (ptrTo (256*c+0)) 2)).bind fun r0 =>
 (gd t5 true r0.2.1 r0.2.2 (ld1 r0.2.1 r0.1)).bind fun r1 =>
 (Z0B t5 r1.1 (.bool false)).bind fun t9 =>
 some ⟨.ret,[t9],r1.2.1,r1.2.2,[]⟩
 else none)
theorem ZkK (o:Orc H) (t0:Value) (h:H) (c:Nat):jx P o 10 none f70_c (Z0l (List.range 1) [t0]) h c [] (Kfn P Try.f70.results.toList)=Zna o t0 h c:=by kernel_rfl
noncomputable def Zn8 (o:Orc H) (t0:Value) (h:H) (c:Nat):Option (Rt H) :=
 (bif (t0:Value).cells.toList.all Z07 then
 (Z04 (ptrTo (256*c+0)) 0).bind fun t3 =>
 (ld1 (newB h (256*c+0) (t0:Value).cells.toList) t3).bind fun t4 =>
 (Z1X .not t4).bind fun t5 =>
 some ⟨.ret,[t5],(newB h (256*c+0) (t0:Value).cells.toList),(c+1+1),[]⟩
 else none)
theorem ZkJ (o:Orc H) (t0:Value) (h:H) (c:Nat):jx P o 6 none f71_c (Z0l (List.range 1) [t0]) h c [] (Kfn P Try.f71.results.toList)=Zn8 o t0 h c:=by kernel_rfl
noncomputable def Zn6 (o:Orc H) (t0:Value) (h:H) (c:Nat):Option (Rt H) :=
 (bif (t0:Value).cells.toList.all Z07 then
 (Z04 (ptrTo (256*c+0)) 3).bind fun t3 =>
 (ld1 (newB h (256*c+0) (t0:Value).cells.toList) t3).bind fun t4 =>
 some ⟨.ret,[t4],(newB h (256*c+0) (t0:Value).cells.toList),(c+1+1),[]⟩
 else none)
theorem ZkI (o:Orc H) (t0:Value) (h:H) (c:Nat):jx P o 5 none f72_c (Z0l (List.range 1) [t0]) h c [] (Kfn P Try.f72.results.toList)=Zn6 o t0 h c:=by kernel_rfl
noncomputable def Z5C (o:Orc H) (rd:Option Nat) (t0 t2 t3 t5:Value) (h:H) (c:Nat) (df:List Nat):Option (Rt H) :=
 (ldN h 5 t5).bind fun t9 =>
 (Z3V o h (c+1) t0 [t9]).bind fun r0 =>
 Z08 r0.1
 ((Z04 t2 0).bind fun t11 =>
 (ld1 r0.2.1 t11).bind fun t12 =>
 (Z04 t5 0).bind fun t13 =>
 (ld1 r0.2.1 t13).bind fun t14 =>
 (ld1 r0.2.1 t3).bind fun t15 =>
 (Z04 t5 1).bind fun t16 =>
 (ixA 4 1 t16 t15).bind fun t17 =>
 (ld1 r0.2.1 t17).bind fun t18 =>
 (ixS 20 t12 t14).bind fun t19 =>
 (ixA 4 5 t19 t18).bind fun t20 =>
 (ldN r0.2.1 5 t20).bind fun t21 =>
 (stN (newB r0.2.1 (256*r0.2.2+11) [(.int .i64 0),(.int .i64 0),(.int .i64 0),(.int .i64 0),(.int .i64 0)]) 5 (ptrTo (256*r0.2.2+11)) t21).bind fun h2 =>
 (Z04 (ptrTo (256*r0.2.2+11)) 0).bind fun t22 =>
 (ld1 h2 t22).bind fun t23 =>
 (Z00 P .lss 3 t23 (.int .i64 0)).bind fun t24 =>
 Z08 t24
  (some ⟨.ret,[t0,t2,t3,t5],h2,(r0.2.2+1+1),df⟩)
  ((Z04 (ptrTo (256*r0.2.2+11)) 0).bind fun t25 =>
  (ld1 h2 t25).bind fun t26 =>
  (Z04 (ptrTo (256*r0.2.2+11)) 1).bind fun t27 =>
  (ldN h2 4 t27).bind fun t28 =>
  (Z04 t5 1).bind fun t29 =>
  (ldN h2 4 t29).bind fun t30 =>
  (Z1z [(.int .i64 0),(.int .i64 0),(.int .i64 0),(.int .i64 0)] [(0,1,(.int .i64 0)),(1,1,(.int .i64 1)),(2,1,(.int .i64 3)),(3,1,(.int .i64 2))]).bind fun t31 =>
  (callF o 79 [t30,t31] h2 (r0.2.2+1+1+1)).bind fun r3 =>
  (callF o 79 [t28,r3.1] r3.2.1 r3.2.2).bind fun r4 =>
  (Z1z [(.int .i64 0),(.int .i64 0),(.int .i64 0),(.int .i64 0),(.int .i64 0)] [(0,1,t26),(1,4,r4.1)]).bind fun t34 =>
  (stN r4.2.1 5 t5 t34).bind fun h6 =>
  (bif (Z1f (Z2t t25) h2 r3.2.1 && (Z1f (Z2t t25) r3.2.1 r4.2.1 && (Z1f (Z2t t27) h2 r3.2.1 && true))) then
  (ldN h6 5 t5).bind fun t35 =>
  (stN (newB h6 (256*(r4.2.2+1)+0) [(.int .i64 0),(.int .i64 0),(.int .i64 0),(.int .i64 0),(.int .i64 0)]) 5 (ptrTo (256*(r4.2.2+1)+0)) t35).bind fun h9 =>
  some ⟨.normal,[t0,t2,t3,(ptrTo (256*(r4.2.2+1)+0))],h9,(r4.2.2+1+1),df⟩
  else none)))
 (some ⟨(.exit 0),[t0,t2,t3,t5],r0.2.1,r0.2.2,df⟩)
theorem Z4R (o:Orc H) (rd:Option Nat) (t0 t2 t3 t5:Value) (h:H) (c:Nat) (df:List Nat):jx P o 36 rd Z72 (Z0l [0,2,3,5] [t0,t2,t3,t5]) h c df (Klp [0,2,3,5])=Z5C o rd t0 t2 t3 t5 h c df:=by kernel_rfl
noncomputable def Zn4 (o:Orc H) (t0 t1 t2 t3:Value) (h:H) (c:Nat):Option (Rt H) :=
 (ldN h 5 t1).bind fun t7 =>
 (stN (newB h (256*c+1) [(.int .i64 0),(.int .i64 0),(.int .i64 0),(.int .i64 0),(.int .i64 0)]) 5 (ptrTo (256*c+1)) t7).bind fun h1 =>
 (o (Z9M none) [t0,t2,t3,(ptrTo (256*c+1))] h1 (c+1) []).bind fun r2 =>
 cond (Z0u r2.e (.exit 0))
 ((Z09 r2.h r2.df).bind fun h4 =>
 some ⟨.ret,[.tuple #[]],h4,r2.c,[]⟩)
 (cond (Z0u r2.e .ret)
  ((Z09 r2.h r2.df).bind fun h3 =>
  some ⟨.ret,[.tuple #[]],h3,r2.c,[]⟩)
  (none))
theorem ZkH (o:Orc H) (t0 t1 t2 t3:Value) (h:H) (c:Nat):jx P o 36 none f78_c (Z0l (List.range 4) [t0,t1,t2,t3]) h c [] (Kfn P Try.f78.results.toList)=Zn4 o t0 t1 t2 t3 h c:=by kernel_rfl
theorem f78_go {t0 t1 t2 t3:Value} {h:FH} {c:Nat} {df:List Nat} {r:Rt FH} (e:Zn4 G t0 t1 t2 t3 h c=some r):G (.fn 78) [t0,t1,t2,t3] h c df=some r:=Z0r (a:=ZkG) bk_78 rfl (fun args h c=>by cases args <;> rfl) rfl ((ZkH G t0 t1 t2 t3 h c).trans e)
noncomputable def Zn3 (o:Orc H) (t0 t1:Value) (h:H) (c:Nat):Option (Rt H) :=
 (bif (t0:Value).cells.toList.all Z07 then
 (bif (t1:Value).cells.toList.all Z07 then
 (ldN (newB (newB (newB h (256*c+0) (t0:Value).cells.toList) (256*c+1) (t1:Value).cells.toList) (256*c+2) [(.int .i64 0),(.int .i64 0),(.int .i64 0),(.int .i64 0)]) 4 (ptrTo (256*c+0))).bind fun t5 =>
 (callF o 56 [t5] (newB (newB (newB h (256*c+0) (t0:Value).cells.toList) (256*c+1) (t1:Value).cells.toList) (256*c+2) [(.int .i64 0),(.int .i64 0),(.int .i64 0),(.int .i64 0)]) (c+1+1)).bind fun r0 =>
 (Z1X .not r0.1).bind fun t7 =>
 (gd t7 false r0.2.1 r0.2.2 (ldN r0.2.1 4 (ptrTo (256*c+1)))).bind fun r1 =>
 (gg t7 false r1.2.1 r1.2.2 (callF o 56 [r1.1] r1.2.1 r1.2.2)).bind fun r2 =>
 (gd t7 false r2.2.1 r2.2.2 (Z1X .not r2.1)).bind fun r3 =>
 (Z0B t7 (.bool true) r3.1).bind fun t12 =>
 Z08 t12
 ((Z1z [(.int .i64 0),(.int .i64 0),(.int .i64 0),(.int .i64 0)] []).bind fun t13 =>
 (stN r3.2.1 4 (ptrTo (256*c+2)) t13).bind fun h5 =>
 (ldN h5 4 (ptrTo (256*c+2))).bind fun v6 =>
 some ⟨.ret,[v6],h5,(r3.2.2+1),[]⟩)
 ((ldN r3.2.1 4 (ptrTo (256*c+0))).bind fun t14 =>
 (ldN r3.2.1 4 (ptrTo (256*c+1))).bind fun t15 =>
 (callF o 90 [t14,t15] r3.2.1 (r3.2.2+1)).bind fun r7 =>
 (stN r7.2.1 4 (ptrTo (256*c+2)) r7.1).bind fun h9 =>
 (ldN h9 4 (ptrTo (256*c+2))).bind fun v10 =>
 some ⟨.ret,[v10],h9,r7.2.2,[]⟩)
 else none)
 else none)
theorem ZkF (o:Orc H) (t0 t1:Value) (h:H) (c:Nat):jx P o 17 none f79_c (Z0l (List.range 2) [t0,t1]) h c [] (Kfn P Try.f79.results.toList)=Zn3 o t0 t1 h c:=by kernel_rfl
theorem f79_go {t0 t1:Value} {h:FH} {c:Nat} {df:List Nat} {r:Rt FH} (e:Zn3 G t0 t1 h c=some r):G (.fn 79) [t0,t1] h c df=some (gcR h c [] r):=Z0r (a:=ZkE) bk_79 rfl (fun args h c=>by cases args <;> rfl) rfl ((ZkF G t0 t1 h c).trans e)
noncomputable def Z71 (o:Orc H) (rd:Option Nat) (t0 t3 t4 t5:Value) (h:H) (c:Nat) (df:List Nat):Option (Rt H) :=
 (ZbZ P h 9 t0).bind fun t9 =>
 (Z00 P .leq 3 t5 t9).bind fun t10 =>
 Z08 t10
 ((ZbZ P h 9 t0).bind fun t15 =>
 (Z00 P .eql 3 t5 t15).bind fun t16 =>
 (gd t16 false h (c+1+1) (some t0)).bind fun r0 =>
 (gd t16 false r0.2.1 r0.2.2 (some t5)).bind fun r1 =>
 (gd t16 false r1.2.1 r1.2.2 (Zfh r0.1 r1.1)).bind fun r2 =>
 (gd t16 false r2.2.1 r2.2.2 (Z00 P .eql 5 r2.1 (.int .u8 32))).bind fun r3 =>
 (Z0B t16 (.bool true) r3.1).bind fun t22 =>
 (Z1X .not t22).bind fun t24 =>
 (gd t24 true r3.2.1 (r3.2.2+1) (some t4)).bind fun r4 =>
 (gd t24 true r4.2.1 r4.2.2 (Z00 P .lss 3 r4.1 (.int .i64 0))).bind fun r5 =>
 (Z0B t24 r5.1 (.bool false)).bind fun t28 =>
 (Z08 t28
  (some ⟨.normal,[t0,t3,t5,t5,t22],r5.2.1,(r5.2.2+1),df⟩)
  (some ⟨.normal,[t0,t3,t4,t5,t22],r5.2.1,r5.2.2,df⟩):Option (Rt H)).bind fun r7 =>
 cond (Z0u r7.e .normal)
  (((gv (r7.v 4) true).bind fun w=>cond w (Z6N r7.h (r7.c+1) (some (r7.v 2))) (some (undef,r7.h,(r7.c+1)))).bind fun r8 =>
  ((gv (r7.v 4) true).bind fun w=>cond w (Z6N r8.2.1 r8.2.2 (Z00 P .geq 3 r8.1 (.int .i64 0))) (some (undef,r8.2.1,r8.2.2))).bind fun r9 =>
  (Z0B (r7.v 4) r9.1 (.bool false)).bind fun t34 =>
  (Z08 t34
   ((slStrV (r7.v 0) (some (r7.v 2)) (some (r7.v 3))).bind fun t39 =>
   (Z7R [(.string (ByteArray.mk #[]))] [(0,1,t39)]).bind fun r10 =>
   (Z6e (newB r9.2.1 (256*r9.2.2+5) r10) (256*r9.2.2+6) 1 16 (r7.v 1) (.slice (some ⟨(256*r9.2.2+5),0,none⟩) 1 1)).bind fun r11 =>
   some ⟨.normal,[r7.v 0,r11.1,(.int .i64 (-1)),r7.v 3],r11.2,(r9.2.2+1+1),r7.df⟩)
   (some ⟨.normal,[r7.v 0,r7.v 1,r7.v 2,r7.v 3],r9.2.1,r9.2.2,r7.df⟩):Option (Rt H)).bind fun r14 =>
  cond (Z0u r14.e .normal)
   ((Z00 P .add 3 (r14.v 3) (.int .i64 1)).bind fun t12 =>
   some ⟨.normal,[r14.v 0,r14.v 1,r14.v 2,t12],r14.h,(r14.c+1),r14.df⟩)
   (none))
  (none))
 (some ⟨(.exit 0),[t0,t3,t4,t5],h,(c+1),df⟩)
theorem ZaS (o:Orc H) (rd:Option Nat) (t0 t3 t4 t5:Value) (h:H) (c:Nat) (df:List Nat):jx P o 43 rd Z33 (Z0l [0,3,4,5] [t0,t3,t4,t5]) h c df (Klp [0,3,4,5])=Z71 o rd t0 t3 t4 t5 h c df:=by kernel_rfl
noncomputable def Zn1 (o:Orc H) (t0:Value) (h:H) (c:Nat):Option (Rt H) :=
 (o (Zfs none) [t0,(.slice none 0 0),(.int .i64 (-1)),(.int .i64 0)] h (c+1+1+1+1) []).bind fun r0 =>
 cond (Z0u r0.e (.exit 0))
 ((Z09 r0.h r0.df).bind fun h1 =>
 some ⟨.ret,[r0.v 1],h1,(r0.c+1),[]⟩)
 (none)
theorem ZkD (o:Orc H) (t0:Value) (h:H) (c:Nat):jx P o 43 none f83_c (Z0l (List.range 1) [t0]) h c [] (Kfn P Try.f83.results.toList)=Zn1 o t0 h c:=by kernel_rfl
noncomputable def Z70 (o:Orc H) (rd:Option Nat) (t0 t2 t3 t4 t5:Value) (h:H) (c:Nat) (df:List Nat):Option (Rt H) :=
 (ZbZ P h 9 t0).bind fun t26 =>
 (Z00 P .lss 3 t5 t26).bind fun t27 =>
 Z08 t27
 ((Zfh t0 t5).bind fun t32 =>
 (Z00 P .lss 5 t32 (.int .u8 48)).bind fun t33 =>
 (gd t33 false h (c+1+1) (some t0)).bind fun r0 =>
 (gd t33 false r0.2.1 r0.2.2 (some t5)).bind fun r1 =>
 (gd t33 false r1.2.1 r1.2.2 (Zfh r0.1 r1.1)).bind fun r2 =>
 (gd t33 false r2.2.1 r2.2.2 (Z00 P .gtr 5 r2.1 (.int .u8 57))).bind fun r3 =>
 (Z0B t33 (.bool true) r3.1).bind fun t39 =>
 Z08 t39
  (some ⟨.ret,[t0,(.int .i64 0),(.bool false),t4,t5],r3.2.1,(r3.2.2+1),df⟩)
  ((Z00 P .mul 3 (.int .i64 10) t4).bind fun t41 =>
  (Zfh t0 t5).bind fun t44 =>
  (Z00 P .sub 5 t44 (.int .u8 48)).bind fun t45 =>
  (cnvI .i64 t45).bind fun t46 =>
  (Z00 P .add 3 t41 t46).bind fun t47 =>
  (Z00 P .add 3 t5 (.int .i64 1)).bind fun t29 =>
  some ⟨.normal,[t0,t2,t3,t47,t29],r3.2.1,(r3.2.2+1+1),df⟩))
 (some ⟨(.exit 0),[t0,t2,t3,t4,t5],h,(c+1),df⟩)
theorem ZaR (o:Orc H) (rd:Option Nat) (t0 t2 t3 t4 t5:Value) (h:H) (c:Nat) (df:List Nat):jx P o 51 rd Z32 (Z0l [0,2,3,4,5] [t0,t2,t3,t4,t5]) h c df (Klp [0,2,3,4,5])=Z70 o rd t0 t2 t3 t4 t5 h c df:=by kernel_rfl
noncomputable def Zn0 (o:Orc H) (t0:Value) (h:H) (c:Nat):Option (Rt H) :=
 (ZbZ P h 9 t0).bind fun t7 =>
 (Z00 P .lss 3 t7 (.int .i64 1)).bind fun t8 =>
 (gd t8 false h (c+1+1) (some t0)).bind fun r0 =>
 (gg t8 false r0.2.1 r0.2.2 (((ZbZ P r0.2.1 9 r0.1).bind fun v=>some (v,r0.2.1)).bind fun r=>some (r.1,r.2,r0.2.2))).bind fun r1 =>
 (gd t8 false r1.2.1 r1.2.2 (Z00 P .gtr 3 r1.1 (.int .i64 4))).bind fun r2 =>
 (Z0B t8 (.bool true) r2.1).bind fun t13 =>
 (gd t13 false r2.2.1 r2.2.2 (some t0)).bind fun r3 =>
 (gg t13 false r3.2.1 r3.2.2 (((ZbZ P r3.2.1 9 r3.1).bind fun v=>some (v,r3.2.1)).bind fun r=>some (r.1,r.2,r3.2.2))).bind fun r4 =>
 (gd t13 false r4.2.1 r4.2.2 (Z00 P .gtr 3 r4.1 (.int .i64 1))).bind fun r5 =>
 (gd t13 false r5.2.1 r5.2.2 (some r5.1)).bind fun r6 =>
 (gd r6.1 true r6.2.1 r6.2.2 (some t0)).bind fun r7 =>
 (gd r6.1 true r7.2.1 r7.2.2 (Zfh r7.1 (.int .i64 0))).bind fun r8 =>
 (gd r6.1 true r8.2.1 r8.2.2 (Z00 P .eql 5 r8.1 (.int .u8 48))).bind fun r9 =>
 (gg t13 false r9.2.1 r9.2.2 (Z8r r9.2.1 r9.2.2 r6.1 r9.1 (.bool false))).bind fun r10 =>
 (Z0B t13 (.bool true) r10.1).bind fun t23 =>
 Z08 t23
 (some ⟨.ret,[.tuple #[(.int .i64 0),(.bool false)]],r10.2.1,(r10.2.2+1),[]⟩)
 ((o (Zfq none) [t0,(.int .i64 0),(.bool false),(.int .i64 0),(.int .i64 0)] r10.2.1 (r10.2.2+1+1) []).bind fun r11 =>
 cond (Z0u r11.e (.exit 0))
  ((Z00 P .leq 3 (r11.v 3) (.int .i64 1000)).bind fun t50 =>
  (Z09 r11.h r11.df).bind fun h13 =>
  some ⟨.ret,[.tuple #[r11.v 3,t50]],h13,(r11.c+1),[]⟩)
  (cond (Z0u r11.e .ret)
   ((Z09 r11.h r11.df).bind fun h12 =>
   some ⟨.ret,[.tuple #[r11.v 1,r11.v 2]],h12,r11.c,[]⟩)
   (none)))
theorem ZkC (o:Orc H) (t0:Value) (h:H) (c:Nat):jx P o 51 none f84_c (Z0l (List.range 1) [t0]) h c [] (Kfn P Try.f84.results.toList)=Zn0 o t0 h c:=by kernel_rfl
noncomputable def Z1R (o:Orc H) (rd:Option Nat) (t0 t1 t3 t8 t9 t16 t17:Value) (h:H) (c:Nat) (df:List Nat):Option (Rt H) :=
 (Z00 P .lss 3 t17 (.int .i64 4)).bind fun t18 =>
 Z08 t18
 ((ixV 4 true 5 t16 t17).bind fun t20 =>
 (stN (newB h (256*(c+1)+2) [(.int .i64 0),(.int .i64 0),(.int .i64 0),(.int .i64 0),(.int .i64 0)]) 5 (ptrTo (256*(c+1)+2)) t20).bind fun h1 =>
 (Z1z [(.int .i64 0),(.int .i64 0)] [(0,1,t3),(1,1,t17)]).bind fun t24 =>
 (ldN h1 5 (ptrTo (256*(c+1)+2))).bind fun t25 =>
 (Z3V o h1 (c+1+1+1) t0 [t24,t25]).bind fun r2 =>
 (Z1X .not r2.1).bind fun t27 =>
 Z08 t27
  (some ⟨.ret,[t0,t1,t3,t8,t9,t16,t17],r2.2.1,r2.2.2,df⟩)
  ((Z00 P .add 3 t17 (.int .i64 1)).bind fun t28 =>
  some ⟨.normal,[t0,t1,t3,t8,t9,t16,t28],r2.2.1,(r2.2.2+1),df⟩))
 (some ⟨(.exit 2),[t0,t1,t3,t8,t9,t16,t17],h,(c+1),df⟩)
theorem Z4P (o:Orc H) (rd:Option Nat) (t0 t1 t3 t8 t9 t16 t17:Value) (h:H) (c:Nat) (df:List Nat):jx P o 30 rd Z30 (Z0l [0,1,3,8,9,16,17] [t0,t1,t3,t8,t9,t16,t17]) h c df (Klp [0,1,3,8,9,16,17])=Z1R o rd t0 t1 t3 t8 t9 t16 t17 h c df:=by kernel_rfl
noncomputable def Z1S (o:Orc H) (rd:Option Nat) (t0 t1 t8 t9:Value) (h:H) (c:Nat) (df:List Nat):Option (Rt H) :=
 (Z00 P .lss 3 t9 t8).bind fun t10 =>
 Z08 t10
 ((Z04 t1 0).bind fun t12 =>
 (ld1 h t12).bind fun t13 =>
 (ixS 20 t13 t9).bind fun t15 =>
 (ldN h 20 t15).bind fun t16 =>
 (o (Z4h rd) [t0,t1,t9,t8,t9,t16,(.int .i64 0)] h (c+1+1+1) df).bind fun r0 =>
 cond (Z0u r0.e (.exit 2))
  ((Z00 P .add 3 (r0.v 4) (.int .i64 1)).bind fun t29 =>
  some ⟨.normal,[r0.v 0,r0.v 1,r0.v 3,t29],r0.h,(r0.c+1),r0.df⟩)
  (cond (Z0u r0.e .ret)
   (some ⟨.ret,[r0.v 0,r0.v 1,r0.v 3,r0.v 4],r0.h,r0.c,r0.df⟩)
   (none)))
 (some ⟨(.exit 0),[t0,t1,t8,t9],h,(c+1),df⟩)
theorem Z4Q (o:Orc H) (rd:Option Nat) (t0 t1 t8 t9:Value) (h:H) (c:Nat) (df:List Nat):jx P o 30 rd Z31 (Z0l [0,1,8,9] [t0,t1,t8,t9]) h c df (Klp [0,1,8,9])=Z1S o rd t0 t1 t8 t9 h c df:=by kernel_rfl
noncomputable def Zfn (o:Orc H) (t0 t1:Value) (h:H) (c:Nat):Option (Rt H) :=
 (Z04 t1 0).bind fun t6 =>
 (ld1 h t6).bind fun t7 =>
 (Z2d t7).bind fun t8 =>
 (o (Z4i none) [t0,t1,t8,(.int .i64 0)] h (c+1) []).bind fun r0 =>
 cond (Z0u r0.e (.exit 0))
 ((Z09 r0.h r0.df).bind fun h2 =>
 some ⟨.ret,[.tuple #[]],h2,r0.c,[]⟩)
 (cond (Z0u r0.e .ret)
  ((Z09 r0.h r0.df).bind fun h1 =>
  some ⟨.ret,[.tuple #[]],h1,r0.c,[]⟩)
  (none))
theorem Zeu (o:Orc H) (t0 t1:Value) (h:H) (c:Nat):jx P o 30 none f85_c (Z0l (List.range 2) [t0,t1]) h c [] (Kfn P Try.f85.results.toList)=Zfn o t0 t1 h c:=by kernel_rfl
theorem ZlQ {t0 t1:Value} {h:FH} {c:Nat} {df:List Nat} {r:Rt FH} (e:Zfn G t0 t1 h c=some r):G (.fn 85) [t0,t1] h c df=some r:=Z0r (a:=ZcH) bk_85 rfl (fun args h c=>by cases args <;> rfl) rfl ((Zeu G t0 t1 h c).trans e)
theorem Zfo {rd:Option Nat} {t0 t1 t3 t8 t9 t16 t17:Value} {h:FH} {c:Nat} {df:List Nat} {q r:Rt FH} (e:Z1R G rd t0 t1 t3 t8 t9 t16 t17 h c df=some q) (hq:q.e = .normal) (k:G (Z4h rd) q.vs q.h q.c q.df=some r):G (Z4h rd) [t0,t1,t3,t8,t9,t16,t17] h c df=some r:=Z0K ((Z4P G rd t0 t1 t3 t8 t9 t16 t17 h c df).trans e) hq k
theorem Z9K {rd:Option Nat} {t0 t1 t3 t8 t9 t16 t17:Value} {h:FH} {c:Nat} {df:List Nat} {q:Rt FH} (e:Z1R G rd t0 t1 t3 t8 t9 t16 t17 h c df=some q) (hq:q.e ≠ .normal):G (Z4h rd) [t0,t1,t3,t8,t9,t16,t17] h c df=some q:=Z0L ((Z4P G rd t0 t1 t3 t8 t9 t16 t17 h c df).trans e) hq
theorem Zfp {rd:Option Nat} {t0 t1 t8 t9:Value} {h:FH} {c:Nat} {df:List Nat} {q r:Rt FH} (e:Z1S G rd t0 t1 t8 t9 h c df=some q) (hq:q.e = .normal) (k:G (Z4i rd) q.vs q.h q.c q.df=some r):G (Z4i rd) [t0,t1,t8,t9] h c df=some r:=Z0K ((Z4Q G rd t0 t1 t8 t9 h c df).trans e) hq k
theorem Z9L {rd:Option Nat} {t0 t1 t8 t9:Value} {h:FH} {c:Nat} {df:List Nat} {q:Rt FH} (e:Z1S G rd t0 t1 t8 t9 h c df=some q) (hq:q.e ≠ .normal):G (Z4i rd) [t0,t1,t8,t9] h c df=some q:=Z0L ((Z4Q G rd t0 t1 t8 t9 h c df).trans e) hq
noncomputable def Z1Q (o:Orc H) (rd:Option Nat) (t0 t2 t3 t5 t6 t7 t18 t19 t50 t51:Value) (h:H) (c:Nat) (df:List Nat):Option (Rt H) :=
 (Z00 P .lss 3 t51 (.int .i64 4)).bind fun t52 =>
 Z08 t52
 (((ixV 4 false 1 t50 t51).bind fun t54 =>
  (Z00 P .lss 3 t54 (.int .i64 0)).bind fun t56 =>
  Z08 t56
   (some ⟨.normal,[t0,t2,t3,t5,t6,t7,t18,t19,t50,t51],h,(c+1+1+1),df⟩)
   ((ixS 1 t5 t6).bind fun t60 =>
   (ld1 h t60).bind fun t61 =>
   (ixS 1 t3 t61).bind fun t62 =>
   (ld1 h t62).bind fun t63 =>
   (Z1X .neg t63).bind fun t64 =>
   (Z0e t0).bind fun t66 =>
   (Z04 t66 0).bind fun t67 =>
   (Z04 t67 0).bind fun t68 =>
   (ld1 h t68).bind fun t69 =>
   (ixA 2 1 t7 (.int .i64 0)).bind fun t70 =>
   (ld1 h t70).bind fun t71 =>
   (ixS 20 t69 t71).bind fun t73 =>
   (ixA 4 5 t73 t51).bind fun t74 =>
   (Z04 t74 1).bind fun t75 =>
   (ldN h 4 t75).bind fun t76 =>
   (callF o 91 [t76] h (c+1+1+1+1)).bind fun r0 =>
   (Z00 P .mul 3 t64 r0.1).bind fun t78 =>
   (bif (Z1f (Z2t t60) h r0.2.1 && (Z1f (Z2t t62) h r0.2.1 && true)) then
   (ixS 1 t3 t54).bind fun t81 =>
   (ld1 r0.2.1 t81).bind fun t82 =>
   (Z00 P .eql 3 t82 (.int .i64 0)).bind fun t83 =>
   (Z08 t83
    ((ixS 1 t3 t54).bind fun t87 =>
    (stN r0.2.1 1 t87 t78).bind fun h2 =>
    (Z7R [(.int .i64 0)] [(0,1,t54)]).bind fun r3 =>
    (Z6e (newB h2 (256*(r0.2.2+1+1)+2) r3) (256*(r0.2.2+1+1)+3) 1 8 t5 (.slice (some ⟨(256*(r0.2.2+1+1)+2),0,none⟩) 1 1)).bind fun r4 =>
    some ⟨.normal,[t0,t2,t3,r4.1,t6,t7,t18,t19,t50,t51],r4.2,(r0.2.2+1+1+1),df⟩)
    ((ixS 1 t3 t54).bind fun t94 =>
    (ld1 r0.2.1 t94).bind fun t95 =>
    (Z00 P .neq 3 t95 t78).bind fun t97 =>
    Z08 t97
     (some ⟨.ret,[t0,(.bool false),t3,t5,t6,t7,t18,t19,t50,t51],r0.2.1,(r0.2.2+1+1+1),df⟩)
     (some ⟨.normal,[t0,t2,t3,t5,t6,t7,t18,t19,t50,t51],r0.2.1,(r0.2.2+1+1),df⟩)):Option (Rt H)).bind fun r7 =>
   cond (Z0u r7.e .normal)
    (some ⟨.normal,[r7.v 0,r7.v 1,r7.v 2,r7.v 3,r7.v 4,r7.v 5,r7.v 6,r7.v 7,r7.v 8,r7.v 9],r7.h,r7.c,r7.df⟩)
    (cond (Z0u r7.e .ret)
     (some ⟨.ret,[r7.v 0,r7.v 1,r7.v 2,r7.v 3,r7.v 4,r7.v 5,r7.v 6,r7.v 7,r7.v 8,r7.v 9],r7.h,r7.c,r7.df⟩)
     (none))
   else none)):Option (Rt H)).bind fun r8 =>
 cond (Z0u r8.e .normal)
  ((Z00 P .add 3 (r8.v 9) (.int .i64 1)).bind fun t98 =>
  some ⟨.normal,[r8.v 0,r8.v 1,r8.v 2,r8.v 3,r8.v 4,r8.v 5,r8.v 6,r8.v 7,r8.v 8,t98],r8.h,(r8.c+1),r8.df⟩)
  (cond (Z0u r8.e .ret)
   (some ⟨.ret,[r8.v 0,r8.v 1,r8.v 2,r8.v 3,r8.v 4,r8.v 5,r8.v 6,r8.v 7,r8.v 8,r8.v 9],r8.h,r8.c,r8.df⟩)
   (none)))
 (some ⟨(.exit 4),[t0,t2,t3,t5,t6,t7,t18,t19,t50,t51],h,(c+1),df⟩)
theorem Z1u (o:Orc H) (rd:Option Nat) (t0 t2 t3 t5 t6 t7 t18 t19 t50 t51:Value) (h:H) (c:Nat) (df:List Nat):jx P o 100 rd Z2W (Z0l [0,2,3,5,6,7,18,19,50,51] [t0,t2,t3,t5,t6,t7,t18,t19,t50,t51]) h c df (Klp [0,2,3,5,6,7,18,19,50,51])=Z1Q o rd t0 t2 t3 t5 t6 t7 t18 t19 t50 t51 h c df:=by kernel_rfl
noncomputable def Z2Z (o:Orc H) (rd:Option Nat) (t0 t2 t3 t5 t6 t18 t19:Value) (h:H) (c:Nat) (df:List Nat):Option (Rt H) :=
 (Z2d t5).bind fun t34 =>
 (Z00 P .lss 3 t6 t34).bind fun t35 =>
 Z08 t35
 ((Z0e t0).bind fun t39 =>
 (Z04 t39 1).bind fun t40 =>
 (ld1 h t40).bind fun t41 =>
 (ixS 1 t5 t6).bind fun t44 =>
 (ld1 h t44).bind fun t45 =>
 (ixS 2 t41 t45).bind fun t46 =>
 (ldN h 2 t46).bind fun t47 =>
 (stN (newB h (256*(c+1)+10) [(.int .i64 0),(.int .i64 0)]) 2 (ptrTo (256*(c+1)+10)) t47).bind fun h1 =>
 (ldN h1 2 (ptrTo (256*(c+1)+10))).bind fun t49 =>
 (callF o 61 [t0,t49] h1 (c+1+1+1)).bind fun r2 =>
 (o (Z9H rd) [t0,t2,t3,t5,t6,(ptrTo (256*(c+1)+10)),t18,t19,r2.1,(.int .i64 0)] r2.2.1 r2.2.2 df).bind fun r3 =>
 cond (Z0u r3.e (.exit 4))
  ((Z00 P .add 3 (r3.v 4) (.int .i64 1)).bind fun t37 =>
  some ⟨.normal,[r3.v 0,r3.v 1,r3.v 2,r3.v 3,t37,r3.v 6,r3.v 7],r3.h,(r3.c+1),r3.df⟩)
  (cond (Z0u r3.e .ret)
   (some ⟨.ret,[r3.v 0,r3.v 1,r3.v 2,r3.v 3,r3.v 4,r3.v 6,r3.v 7],r3.h,r3.c,r3.df⟩)
   (none)))
 (some ⟨(.exit 2),[t0,t2,t3,t5,t6,t18,t19],h,(c+1),df⟩)
theorem Z2J (o:Orc H) (rd:Option Nat) (t0 t2 t3 t5 t6 t18 t19:Value) (h:H) (c:Nat) (df:List Nat):jx P o 100 rd Z2X (Z0l [0,2,3,5,6,18,19] [t0,t2,t3,t5,t6,t18,t19]) h c df (Klp [0,2,3,5,6,18,19])=Z2Z o rd t0 t2 t3 t5 t6 t18 t19 h c df:=by kernel_rfl
noncomputable def Z2e (o:Orc H) (rd:Option Nat) (t0 t2 t3 t18 t19:Value) (h:H) (c:Nat) (df:List Nat):Option (Rt H) :=
 (Z00 P .lss 3 t19 t18).bind fun t20 =>
 Z08 t20
 (((ixS 1 t3 t19).bind fun t24 =>
  (ld1 h t24).bind fun t25 =>
  (Z00 P .neq 3 t25 (.int .i64 0)).bind fun t26 =>
  Z08 t26
   (some ⟨.normal,[t0,t2,t3,t18,t19],h,(c+1+1+1),df⟩)
   ((ixS 1 t3 t19).bind fun t29 =>
   (stN h 1 t29 (.int .i64 1)).bind fun h1 =>
   (Z7R [(.int .i64 0)] [(0,1,t19)]).bind fun r2 =>
   (o (Z9I rd) [t0,t2,t3,(.slice (some ⟨(256*(c+1+1+1+1)+1),0,none⟩) 1 1),(.int .i64 0),t18,t19] (newB h1 (256*(c+1+1+1+1)+1) r2) (c+1+1+1+1+1+1) df).bind fun r3 =>
   cond (Z0u r3.e (.exit 2))
    (some ⟨.normal,[r3.v 0,r3.v 1,r3.v 2,r3.v 5,r3.v 6],r3.h,r3.c,r3.df⟩)
    (cond (Z0u r3.e .ret)
     (some ⟨.ret,[r3.v 0,r3.v 1,r3.v 2,r3.v 5,r3.v 6],r3.h,r3.c,r3.df⟩)
     (none))):Option (Rt H)).bind fun r4 =>
 cond (Z0u r4.e .normal)
  ((Z00 P .add 3 (r4.v 4) (.int .i64 1)).bind fun t99 =>
  some ⟨.normal,[r4.v 0,r4.v 1,r4.v 2,r4.v 3,t99],r4.h,(r4.c+1),r4.df⟩)
  (cond (Z0u r4.e .ret)
   (some ⟨.ret,[r4.v 0,r4.v 1,r4.v 2,r4.v 3,r4.v 4],r4.h,r4.c,r4.df⟩)
   (none)))
 (some ⟨(.exit 0),[t0,t2,t3,t18,t19],h,(c+1),df⟩)
theorem Z22 (o:Orc H) (rd:Option Nat) (t0 t2 t3 t18 t19:Value) (h:H) (c:Nat) (df:List Nat):jx P o 100 rd Z2Y (Z0l [0,2,3,18,19] [t0,t2,t3,t18,t19]) h c df (Klp [0,2,3,18,19])=Z2e o rd t0 t2 t3 t18 t19 h c df:=by kernel_rfl
noncomputable def Zhw (o:Orc H) (t0:Value) (h:H) (c:Nat):Option (Rt H) :=
 (Z0e t0).bind fun t12 =>
 (Z04 t12 1).bind fun t13 =>
 (ld1 h t13).bind fun t14 =>
 (Z2d t14).bind fun t15 =>
 (mkS 1 8 [(.int .i64 0)] t15 t15).bind fun r0 =>
 (Z2d (.slice (some ⟨(256*(c+1)+5),0,none⟩) r0.2.1 r0.2.2)).bind fun t18 =>
 (o (Z9J none) [t0,(.bool false),(.slice (some ⟨(256*(c+1)+5),0,none⟩) r0.2.1 r0.2.2),t18,(.int .i64 0)] (newB h (256*(c+1)+5) r0.1) (c+1+1+1) []).bind fun r1 =>
 cond (Z0u r1.e (.exit 0))
 ((Z09 r1.h r1.df).bind fun h3 =>
 some ⟨.ret,[(.bool true)],h3,(r1.c+1),[]⟩)
 (cond (Z0u r1.e .ret)
  ((Z09 r1.h r1.df).bind fun h2 =>
  some ⟨.ret,[r1.v 1],h2,r1.c,[]⟩)
  (none))
theorem Zet (o:Orc H) (t0:Value) (h:H) (c:Nat):jx P o 100 none f86_c (Z0l (List.range 1) [t0]) h c [] (Kfn P Try.f86.results.toList)=Zhw o t0 h c:=by kernel_rfl
theorem f86_go {t0:Value} {h:FH} {c:Nat} {df:List Nat} {r:Rt FH} (e:Zhw G t0 h c=some r):G (.fn 86) [t0] h c df=some (gcR h c [] r):=Z0r (a:=ZcG) bk_86 rfl (fun args h c=>by cases args <;> rfl) rfl ((Zet G t0 h c).trans e)

variable {H:Type} [HeapC H]
noncomputable def ZmZ (o:Orc H) (t0 t1:Value) (h:H) (c:Nat):Option (Rt H) :=
 (bif (t0:Value).cells.toList.all Z07 then
 (bif (t1:Value).cells.toList.all Z07 then
 (ixA 4 1 (ptrTo (256*c+1)) (.int .i64 0)).bind fun t5 =>
 (ld1 (newB (newB (newB h (256*c+0) (t0:Value).cells.toList) (256*c+1) (t1:Value).cells.toList) (256*c+2) [(.int .i64 0),(.int .i64 0),(.int .i64 0),(.int .i64 0)]) t5).bind fun t6 =>
 (ixA 4 1 (ptrTo (256*c+0)) t6).bind fun t7 =>
 (ld1 (newB (newB (newB h (256*c+0) (t0:Value).cells.toList) (256*c+1) (t1:Value).cells.toList) (256*c+2) [(.int .i64 0),(.int .i64 0),(.int .i64 0),(.int .i64 0)]) t7).bind fun t8 =>
 (ixA 4 1 (ptrTo (256*c+1)) (.int .i64 1)).bind fun t9 =>
 (ld1 (newB (newB (newB h (256*c+0) (t0:Value).cells.toList) (256*c+1) (t1:Value).cells.toList) (256*c+2) [(.int .i64 0),(.int .i64 0),(.int .i64 0),(.int .i64 0)]) t9).bind fun t10 =>
 (ixA 4 1 (ptrTo (256*c+0)) t10).bind fun t11 =>
 (ld1 (newB (newB (newB h (256*c+0) (t0:Value).cells.toList) (256*c+1) (t1:Value).cells.toList) (256*c+2) [(.int .i64 0),(.int .i64 0),(.int .i64 0),(.int .i64 0)]) t11).bind fun t12 =>
 (ixA 4 1 (ptrTo (256*c+1)) (.int .i64 2)).bind fun t13 =>
 (ld1 (newB (newB (newB h (256*c+0) (t0:Value).cells.toList) (256*c+1) (t1:Value).cells.toList) (256*c+2) [(.int .i64 0),(.int .i64 0),(.int .i64 0),(.int .i64 0)]) t13).bind fun t14 =>
 (ixA 4 1 (ptrTo (256*c+0)) t14).bind fun t15 =>
 (ld1 (newB (newB (newB h (256*c+0) (t0:Value).cells.toList) (256*c+1) (t1:Value).cells.toList) (256*c+2) [(.int .i64 0),(.int .i64 0),(.int .i64 0),(.int .i64 0)]) t15).bind fun t16 =>
 (ixA 4 1 (ptrTo (256*c+1)) (.int .i64 3)).bind fun t17 =>
 (ld1 (newB (newB (newB h (256*c+0) (t0:Value).cells.toList) (256*c+1) (t1:Value).cells.toList) (256*c+2) [(.int .i64 0),(.int .i64 0),(.int .i64 0),(.int .i64 0)]) t17).bind fun t18 =>
 (ixA 4 1 (ptrTo (256*c+0)) t18).bind fun t19 =>
 (ld1 (newB (newB (newB h (256*c+0) (t0:Value).cells.toList) (256*c+1) (t1:Value).cells.toList) (256*c+2) [(.int .i64 0),(.int .i64 0),(.int .i64 0),(.int .i64 0)]) t19).bind fun t20 =>
 (Z1z [(.int .i64 0),(.int .i64 0),(.int .i64 0),(.int .i64 0)] [(0,1,t8),(1,1,t12),(2,1,t16),(3,1,t20)]).bind fun t21 =>
 (stN (newB (newB (newB h (256*c+0) (t0:Value).cells.toList) (256*c+1) (t1:Value).cells.toList) (256*c+2) [(.int .i64 0),(.int .i64 0),(.int .i64 0),(.int .i64 0)]) 4 (ptrTo (256*c+2)) t21).bind fun h1 =>
 (ldN h1 4 (ptrTo (256*c+2))).bind fun v2 =>
 some ⟨.ret,[v2],h1,(c+1+1),[]⟩
 else none)
 else none)
theorem ZkB (o:Orc H) (t0 t1:Value) (h:H) (c:Nat):jx P o 22 none f90_c (Z0l (List.range 2) [t0,t1]) h c [] (Kfn P Try.f90.results.toList)=ZmZ o t0 t1 h c:=by kernel_rfl
theorem f90_go {t0 t1:Value} {h:FH} {c:Nat} {df:List Nat} {r:Rt FH} (e:ZmZ G t0 t1 h c=some r):G (.fn 90) [t0,t1] h c df=some (gcR h c [] r):=Z0r (a:=ZkA) bk_90 rfl (fun args h c=>by cases args <;> rfl) rfl ((ZkB G t0 t1 h c).trans e)
noncomputable def Zhv (o:Orc H) (t0:Value) (h:H) (c:Nat):Option (Rt H) :=
 (bif (t0:Value).cells.toList.all Z07 then
 (ldN (newB h (256*c+0) (t0:Value).cells.toList) 4 (ptrTo (256*c+0))).bind fun t3 =>
 (callF o 56 [t3] (newB h (256*c+0) (t0:Value).cells.toList) (c+1+1)).bind fun r0 =>
 (Z1X .not r0.1).bind fun t5 =>
 Z08 t5
 (some ⟨.ret,[(.int .i64 0)],r0.2.1,(r0.2.2+1),[]⟩)
 ((ldN r0.2.1 4 (ptrTo (256*c+0))).bind fun t6 =>
 (callF o 92 [t6] r0.2.1 (r0.2.2+1)).bind fun r1 =>
 some ⟨.ret,[r1.1],r1.2.1,r1.2.2,[]⟩)
 else none)
theorem Zes (o:Orc H) (t0:Value) (h:H) (c:Nat):jx P o 8 none f91_c (Z0l (List.range 1) [t0]) h c [] (Kfn P Try.f91.results.toList)=Zhv o t0 h c:=by kernel_rfl
theorem f91_go {t0:Value} {h:FH} {c:Nat} {df:List Nat} {r:Rt FH} (e:Zhv G t0 h c=some r):G (.fn 91) [t0] h c df=some (gcR h c [] r):=Z0r (a:=ZcF) bk_91 rfl (fun args h c=>by cases args <;> rfl) rfl ((Zes G t0 h c).trans e)
noncomputable def Z4f (o:Orc H) (rd:Option Nat) (t1 t3 t4 t6 t9 t10:Value) (h:H) (c:Nat) (df:List Nat):Option (Rt H) :=
 (Z00 P .lss 3 t10 t9).bind fun t11 =>
 Z08 t11
 ((ixA 4 1 t1 t10).bind fun t14 =>
 (ld1 h t14).bind fun t15 =>
 (ixA 4 1 t1 t4).bind fun t17 =>
 (ld1 h t17).bind fun t18 =>
 (Z00 P .gtr 3 t15 t18).bind fun t19 =>
 (Z08 t19
  ((Z1X .neg t3).bind fun t21 =>
  some ⟨.normal,[t1,t21,t4,t6,t9,t10],h,(c+1+1+1+1),df⟩)
  (some ⟨.normal,[t1,t3,t4,t6,t9,t10],h,(c+1+1+1),df⟩):Option (Rt H)).bind fun r1 =>
 cond (Z0u r1.e .normal)
  ((Z00 P .add 3 (r1.v 5) (.int .i64 1)).bind fun t22 =>
  some ⟨.normal,[r1.v 0,r1.v 1,r1.v 2,r1.v 3,r1.v 4,t22],r1.h,(r1.c+1),r1.df⟩)
  (none))
 (some ⟨(.exit 2),[t1,t3,t4,t6,t9,t10],h,(c+1),df⟩)
theorem Z4N (o:Orc H) (rd:Option Nat) (t1 t3 t4 t6 t9 t10:Value) (h:H) (c:Nat) (df:List Nat):jx P o 25 rd Z2U (Z0l [1,3,4,6,9,10] [t1,t3,t4,t6,t9,t10]) h c df (Klp [1,3,4,6,9,10])=Z4f o rd t1 t3 t4 t6 t9 t10 h c df:=by kernel_rfl
noncomputable def Z4g (o:Orc H) (rd:Option Nat) (t1 t3 t6:Value) (h:H) (c:Nat) (df:List Nat):Option (Rt H) :=
 (Z00 P .lss 3 t6 (.int .i64 4)).bind fun t7 =>
 Z08 t7
 ((o (Z9F rd) [t1,t3,t6,t6,t6,(.int .i64 0)] h (c+1+1+1) df).bind fun r0 =>
 cond (Z0u r0.e (.exit 2))
  ((Z00 P .add 3 (r0.v 3) (.int .i64 1)).bind fun t23 =>
  some ⟨.normal,[r0.v 0,r0.v 1,t23],r0.h,(r0.c+1),r0.df⟩)
  (none))
 (some ⟨(.exit 0),[t1,t3,t6],h,(c+1),df⟩)
theorem Z4O (o:Orc H) (rd:Option Nat) (t1 t3 t6:Value) (h:H) (c:Nat) (df:List Nat):jx P o 25 rd Z2V (Z0l [1,3,6] [t1,t3,t6]) h c df (Klp [1,3,6])=Z4g o rd t1 t3 t6 h c df:=by kernel_rfl
noncomputable def Zht (o:Orc H) (t0:Value) (h:H) (c:Nat):Option (Rt H) :=
 (bif (t0:Value).cells.toList.all Z07 then
 (o (Z9G none) [(ptrTo (256*c+0)),(.int .i64 1),(.int .i64 0)] (newB h (256*c+0) (t0:Value).cells.toList) (c+1+1+1) []).bind fun r0 =>
 cond (Z0u r0.e (.exit 0))
 ((Z09 r0.h r0.df).bind fun h1 =>
 some ⟨.ret,[r0.v 1],h1,(r0.c+1),[]⟩)
 (none)
 else none)
theorem Zer (o:Orc H) (t0:Value) (h:H) (c:Nat):jx P o 25 none f92_c (Z0l (List.range 1) [t0]) h c [] (Kfn P Try.f92.results.toList)=Zht o t0 h c:=by kernel_rfl
theorem f92_go {t0:Value} {h:FH} {c:Nat} {df:List Nat} {r:Rt FH} (e:Zht G t0 h c=some r):G (.fn 92) [t0] h c df=some (gcR h c [] r):=Z0r (a:=ZcE) bk_92 rfl (fun args h c=>by cases args <;> rfl) rfl ((Zer G t0 h c).trans e)
end Go.Proofs.Ytdodippbpdechaa
