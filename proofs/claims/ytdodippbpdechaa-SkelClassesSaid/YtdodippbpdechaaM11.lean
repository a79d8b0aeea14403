/- Parts of a proof: S5 S6. Conditions: none. -/
import Derived.Test.YtdodippbpdechaaM8
set_option linter.all false
set_option maxRecDepth 100000
set_option maxHeartbeats 4000000
namespace Go.Proofs.Ytdodippbpdechaa
open Go Go.Ab Go.Proofs
variable {H:Type} [HeapC H]
noncomputable def Z1Z (o:Orc H) (rd:Option Nat) (t2 t3 t6 t7:Value) (h:H) (c:Nat) (df:List Nat):Option (Rt H) :=
 (Z00 P .lss 3 t7 (.int .i64 4)).bind fun t8 =>
 Z09 t8
 ((ixV 4 false 1 t6 t7).bind fun t9 =>
 (Z00 P .lss 3 t9 (.int .i64 0)).bind fun t11 =>
 (gd t11 false h (c+1+1+1) (some t9)).bind fun r0 =>
 (gd t11 false r0.2.1 r0.2.2 (Z00 P .gtr 3 r0.1 (.int .i64 3))).bind fun r1 =>
 (Z0C t11 (.bool true) r1.1).bind fun t15 =>
 Z09 t15
  (some ⟨.ret,[(.bool false),t3,t6,t7],r1.2.1,(r1.2.2+1),df⟩)
  ((Z00 P .shl 3 (.int .i64 1) t9).bind fun t18 =>
  (Z00 P .or 3 t3 t18).bind fun t19 =>
  (Z00 P .add 3 t7 (.int .i64 1)).bind fun t20 =>
  some ⟨.normal,[t2,t19,t6,t20],r1.2.1,(r1.2.2+1+1),df⟩))
 (some ⟨(.exit 0),[t2,t3,t6,t7],h,(c+1),df⟩)
theorem Z5d (o:Orc H) (rd:Option Nat) (t2 t3 t6 t7:Value) (h:H) (c:Nat) (df:List Nat):jx P o 23 rd Z3t (Z0h [2,3,6,7] [t2,t3,t6,t7]) h c df (Klp [2,3,6,7])=Z1Z o rd t2 t3 t6 t7 h c df:=by kernel_rfl
noncomputable def ZjM (o:Orc H) (t0:Value) (h:H) (c:Nat):Option (Rt H) :=
 (bif (t0:Value).cells.toList.all Z08 then
 (ldN (newB h (256*c+0) (t0:Value).cells.toList) 4 (ptrTo (256*c+0))).bind fun t6 =>
 (o (Z4w none) [(.bool false),(.int .i64 0),t6,(.int .i64 0)] (newB h (256*c+0) (t0:Value).cells.toList) (c+1+1+1) []).bind fun r0 =>
 cond (Z0r r0.e (.exit 0))
 ((Z00 P .eql 3 (r0.v 1) (.int .i64 15)).bind fun t22 =>
 (Z0a r0.h r0.df).bind fun h2 =>
 some ⟨.ret,[t22],h2,(r0.c+1),[]⟩)
 (cond (Z0r r0.e .ret)
  ((Z0a r0.h r0.df).bind fun h1 =>
  some ⟨.ret,[r0.v 0],h1,r0.c,[]⟩)
  (none))
 else none)
theorem ZgI (o:Orc H) (t0:Value) (h:H) (c:Nat):jx P o 23 none f56_c (Z0h (List.range 1) [t0]) h c [] (Kfn P Try.f56.results.toList)=ZjM o t0 h c:=by kernel_rfl
theorem f56_go {t0:Value} {h:FH} {c:Nat} {df:List Nat} {r:Rt FH} (e:ZjM G t0 h c=some r):G (.fn 56) [t0] h c df=some (gcR h c [] r):=Z0f (a:=ZeN) bk_56 rfl (fun args h c=>by cases args <;> rfl) rfl ((ZgI G t0 h c).trans e)
theorem Zi1 {rd:Option Nat} {t2 t3 t6 t7:Value} {h:FH} {c:Nat} {df:List Nat} {q r:Rt FH} (e:Z1Z G rd t2 t3 t6 t7 h c df=some q) (hq:q.e = .normal) (k:G (Z4w rd) q.vs (gcR h c df q).h (gcR h c df q).c q.df=some r):G (Z4w rd) [t2,t3,t6,t7] h c df=some r:=Z0U ((Z5d G rd t2 t3 t6 t7 h c df).trans e) hq k
theorem ZbP {rd:Option Nat} {t2 t3 t6 t7:Value} {h:FH} {c:Nat} {df:List Nat} {q:Rt FH} (e:Z1Z G rd t2 t3 t6 t7 h c df=some q) (hq:q.e ≠ .normal):G (Z4w rd) [t2,t3,t6,t7] h c df=some (gcR h c df q):=Z0V ((Z5d G rd t2 t3 t6 t7 h c df).trans e) hq
noncomputable def Z4v (o:Orc H) (rd:Option Nat) (t4 t5 t7 t8 t9 t16 t17 t18 t23 t24:Value) (h:H) (c:Nat) (df:List Nat):Option (Rt H) :=
 (Z00 P .lss 3 t9 (.int .i64 4)).bind fun t29 =>
 (gd t29 true h (c+1) (Z03 t8 0)).bind fun r0 =>
 (gd t29 true r0.2.1 r0.2.2 (ld1 r0.2.1 r0.1)).bind fun r1 =>
 (gd t29 true r1.2.1 r1.2.2 (Z00 P .geq 3 r1.1 (.int .i64 0))).bind fun r2 =>
 (Z0C t29 r2.1 (.bool false)).bind fun t34 =>
 Z09 t34
 ((Z00 P .neq 3 t9 t7).bind fun t39 =>
 (Z09 t39
  ((Z00 P .mul 3 (.int .i64 4) t5).bind fun t42 =>
  (Z00 P .add 3 t42 t9).bind fun t44 =>
  (Z03 t8 0).bind fun t45 =>
  (ld1 r2.2.1 t45).bind fun t46 =>
  (Z00 P .mul 3 (.int .i64 4) t46).bind fun t47 =>
  (Z03 t8 1).bind fun t49 =>
  (ixA 4 1 t49 t9).bind fun t50 =>
  (ld1 r2.2.1 t50).bind fun t51 =>
  (Z00 P .add 3 t47 t51).bind fun t52 =>
  (callF o 81 [t4,t44,t52] r2.2.1 (r2.2.2+1+1)).bind fun r3 =>
  some ⟨.normal,[t4,t5,t7,t8,t9,t16,t17,t18,t23,t24],r3.2.1,r3.2.2,df⟩)
  (some ⟨.normal,[t4,t5,t7,t8,t9,t16,t17,t18,t23,t24],r2.2.1,(r2.2.2+1),df⟩):Option (Rt H)).bind fun r4 =>
 cond (Z0r r4.e .normal)
  ((Z00 P .add 3 (r4.v 4) (.int .i64 1)).bind fun t36 =>
  some ⟨.normal,[r4.v 0,r4.v 1,r4.v 2,r4.v 3,t36,r4.v 5,r4.v 6,r4.v 7,r4.v 8,r4.v 9],r4.h,(r4.c+1),r4.df⟩)
  (none))
 (some ⟨(.exit 4),[t4,t5,t7,t8,t9,t16,t17,t18,t23,t24],r2.2.1,r2.2.2,df⟩)
theorem Z2V (o:Orc H) (rd:Option Nat) (t4 t5 t7 t8 t9 t16 t17 t18 t23 t24:Value) (h:H) (c:Nat) (df:List Nat):jx P o 60 rd Z8F (Z0h [4,5,7,8,9,16,17,18,23,24] [t4,t5,t7,t8,t9,t16,t17,t18,t23,t24]) h c df (Klp [4,5,7,8,9,16,17,18,23,24])=Z4v o rd t4 t5 t7 t8 t9 t16 t17 t18 t23 t24 h c df:=by kernel_rfl
noncomputable def Z8I (o:Orc H) (rd:Option Nat) (t4 t5 t16 t17 t18 t23 t24:Value) (h:H) (c:Nat) (df:List Nat):Option (Rt H) :=
 (Z00 P .lss 3 t24 (.int .i64 4)).bind fun t25 =>
 Z09 t25
 ((ixV 4 true 5 t23 t24).bind fun t27 =>
 (stN (newB h (256*(c+1)+2) [(.int .i64 0),(.int .i64 0),(.int .i64 0),(.int .i64 0),(.int .i64 0)]) 5 (ptrTo (256*(c+1)+2)) t27).bind fun h1 =>
 (o (ZbM rd) [t4,t5,t24,(ptrTo (256*(c+1)+2)),(.int .i64 0),t16,t17,t18,t23,t24] h1 (c+1+1+1) df).bind fun r2 =>
 cond (Z0r r2.e (.exit 4))
  ((Z00 P .add 3 (r2.v 9) (.int .i64 1)).bind fun t54 =>
  some ⟨.normal,[r2.v 0,r2.v 1,r2.v 5,r2.v 6,r2.v 7,r2.v 8,t54],r2.h,(r2.c+1),r2.df⟩)
  (none))
 (some ⟨(.exit 2),[t4,t5,t16,t17,t18,t23,t24],h,(c+1),df⟩)
theorem Z7g (o:Orc H) (rd:Option Nat) (t4 t5 t16 t17 t18 t23 t24:Value) (h:H) (c:Nat) (df:List Nat):jx P o 60 rd Z8G (Z0h [4,5,16,17,18,23,24] [t4,t5,t16,t17,t18,t23,t24]) h c df (Klp [4,5,16,17,18,23,24])=Z8I o rd t4 t5 t16 t17 t18 t23 t24 h c df:=by kernel_rfl
noncomputable def Z8J (o:Orc H) (rd:Option Nat) (t4 t16 t17 t18:Value) (h:H) (c:Nat) (df:List Nat):Option (Rt H) :=
 (Z00 P .lss 3 t18 t17).bind fun t19 =>
 Z09 t19
 ((ixS 20 t16 t18).bind fun t21 =>
 (ldN h 20 t21).bind fun t22 =>
 (stN (newB h (256*(c+1)+3) [(.int .i64 0),(.int .i64 0),(.int .i64 0),(.int .i64 0),(.int .i64 0),(.int .i64 0),(.int .i64 0),(.int .i64 0),(.int .i64 0),(.int .i64 0),(.int .i64 0),(.int .i64 0),(.int .i64 0),(.int .i64 0),(.int .i64 0),(.int .i64 0),(.int .i64 0),(.int .i64 0),(.int .i64 0),(.int .i64 0)]) 20 (ptrTo (256*(c+1)+3)) t22).bind fun h1 =>
 (ldN h1 20 (ptrTo (256*(c+1)+3))).bind fun t23 =>
 (o (ZbN rd) [t4,t18,t16,t17,t18,t23,(.int .i64 0)] h1 (c+1+1+1) df).bind fun r2 =>
 cond (Z0r r2.e (.exit 2))
  ((Z00 P .add 3 (r2.v 4) (.int .i64 1)).bind fun t55 =>
  some ⟨.normal,[r2.v 0,r2.v 2,r2.v 3,t55],r2.h,(r2.c+1),r2.df⟩)
  (none))
 (some ⟨(.exit 0),[t4,t16,t17,t18],h,(c+1),df⟩)
theorem Z7h (o:Orc H) (rd:Option Nat) (t4 t16 t17 t18:Value) (h:H) (c:Nat) (df:List Nat):jx P o 60 rd Z8H (Z0h [4,16,17,18] [t4,t16,t17,t18]) h c df (Klp [4,16,17,18])=Z8J o rd t4 t16 t17 t18 h c df:=by kernel_rfl
noncomputable def ZpY (o:Orc H) (t0:Value) (h:H) (c:Nat):Option (Rt H) :=
 (bif (t0:Value).cells.toList.all Z08 then
 (Z03 (ptrTo (256*c+0)) 0).bind fun t10 =>
 (ld1 (newB h (256*c+0) (t0:Value).cells.toList) t10).bind fun t11 =>
 (Z1q t11).bind fun t12 =>
 (Z00 P .mul 3 (.int .i64 4) t12).bind fun t13 =>
 (callF o 80 [t13] (newB h (256*c+0) (t0:Value).cells.toList) (c+1+1)).bind fun r0 =>
 (Z03 (ptrTo (256*c+0)) 0).bind fun t15 =>
 (ld1 r0.2.1 t15).bind fun t16 =>
 (Z1q t16).bind fun t17 =>
 (o (ZbO none) [r0.1,t16,t17,(.int .i64 0)] r0.2.1 (r0.2.2+1) []).bind fun r1 =>
 cond (Z0r r1.e (.exit 0))
 ((callF o 82 [r1.v 0] r1.h (r1.c+1)).bind fun r2 =>
 (Z19 r2.1 0).bind fun t58 =>
 (Z19 r2.1 1).bind fun t59 =>
 (Z0a r2.2.1 r1.df).bind fun h3 =>
 some ⟨.ret,[.tuple #[t58,t59]],h3,r2.2.2,[]⟩)
 (none)
 else none)
theorem Znh (o:Orc H) (t0:Value) (h:H) (c:Nat):jx P o 60 none f59_c (Z0h (List.range 1) [t0]) h c [] (Kfn P Try.f59.results.toList)=ZpY o t0 h c:=by kernel_rfl
theorem f59_go {t0:Value} {h:FH} {c:Nat} {df:List Nat} {r:Rt FH} (e:ZpY G t0 h c=some r):G (.fn 59) [t0] h c df=some r:=Z0f (a:=Zng) bk_59 rfl (fun args h c=>by cases args <;> rfl) rfl ((Znh G t0 h c).trans e)
noncomputable def Z4t (o:Orc H) (rd:Option Nat) (t1 t2 t7 t8 t22 t23 t26:Value) (h:H) (c:Nat) (df:List Nat):Option (Rt H) :=
 (Z00 P .lss 3 t26 (.int .i64 4)).bind fun t27 =>
 Z09 t27
 ((Z00 P .mul 3 (.int .i64 4) t8).bind fun t31 =>
 (Z00 P .add 3 t31 t26).bind fun t33 =>
 (ixS 1 t1 t33).bind fun t34 =>
 (ld1 h t34).bind fun t35 =>
 (Z00 P .eql 3 t35 t2).bind fun t37 =>
 (Z09 t37
  ((Z0e t7).bind fun t39 =>
  (Z03 t39 2).bind fun t40 =>
  (ld1 h t40).bind fun t41 =>
  (Z1K [(.int .i64 0),(.int .i64 0)] [(0,1,t8),(1,1,t26)]).bind fun t44 =>
  (Z0e t7).bind fun t46 =>
  (Z03 t46 1).bind fun t47 =>
  (ld1 h t47).bind fun t48 =>
  (Z1q t48).bind fun t49 =>
  (Z0P P h 118 t41 t44 t49).bind fun h1 =>
  (Z0e t7).bind fun t52 =>
  (Z03 t52 1).bind fun t53 =>
  (ld1 h1 t53).bind fun t54 =>
  (Z1K [(.int .i64 0),(.int .i64 0)] [(0,1,t8),(1,1,t26)]).bind fun t57 =>
  (Z9D [(.int .i64 0),(.int .i64 0)] [(0,2,t57)]).bind fun r2 =>
  (Z5D (newB h1 (256*(c+1+1+1+1)+8) r2) (256*(c+1+1+1+1)+9) 2 16 t54 (.slice (some ⟨(256*(c+1+1+1+1)+8),0,none⟩) 1 1)).bind fun r3 =>
  (Z0e t7).bind fun t60 =>
  (Z03 t60 1).bind fun t61 =>
  (stN r3.2 1 t61 r3.1).bind fun h5 =>
  some ⟨.normal,[t1,t2,t7,t8,t22,t23,t26],h5,(c+1+1+1+1+1),df⟩)
  (some ⟨.normal,[t1,t2,t7,t8,t22,t23,t26],h,(c+1+1+1),df⟩):Option (Rt H)).bind fun r6 =>
 cond (Z0r r6.e .normal)
  ((Z00 P .add 3 (r6.v 6) (.int .i64 1)).bind fun t62 =>
  some ⟨.normal,[r6.v 0,r6.v 1,r6.v 2,r6.v 3,r6.v 4,r6.v 5,t62],r6.h,(r6.c+1),r6.df⟩)
  (none))
 (some ⟨(.exit 2),[t1,t2,t7,t8,t22,t23,t26],h,(c+1),df⟩)
theorem Z5b (o:Orc H) (rd:Option Nat) (t1 t2 t7 t8 t22 t23 t26:Value) (h:H) (c:Nat) (df:List Nat):jx P o 65 rd Z3r (Z0h [1,2,7,8,22,23,26] [t1,t2,t7,t8,t22,t23,t26]) h c df (Klp [1,2,7,8,22,23,26])=Z4t o rd t1 t2 t7 t8 t22 t23 t26 h c df:=by kernel_rfl
noncomputable def Z4u (o:Orc H) (rd:Option Nat) (t1 t2 t7 t22 t23:Value) (h:H) (c:Nat) (df:List Nat):Option (Rt H) :=
 (Z00 P .lss 3 t23 t22).bind fun t24 =>
 Z09 t24
 ((o (ZbK rd) [t1,t2,t7,t23,t22,t23,(.int .i64 0)] h (c+1+1+1) df).bind fun r0 =>
 cond (Z0r r0.e (.exit 2))
  ((Z00 P .add 3 (r0.v 5) (.int .i64 1)).bind fun t63 =>
  some ⟨.normal,[r0.v 0,r0.v 1,r0.v 2,r0.v 4,t63],r0.h,(r0.c+1),r0.df⟩)
  (none))
 (some ⟨(.exit 0),[t1,t2,t7,t22,t23],h,(c+1),df⟩)
theorem Z5c (o:Orc H) (rd:Option Nat) (t1 t2 t7 t22 t23:Value) (h:H) (c:Nat) (df:List Nat):jx P o 65 rd Z3s (Z0h [1,2,7,22,23] [t1,t2,t7,t22,t23]) h c df (Klp [1,2,7,22,23])=Z4u o rd t1 t2 t7 t22 t23 h c df:=by kernel_rfl
noncomputable def ZjL (o:Orc H) (t0 t1 t2:Value) (h:H) (c:Nat):Option (Rt H) :=
 (Z0e t0).bind fun t11 =>
 (Z03 t11 0).bind fun t12 =>
 (ldN h 1 t12).bind fun t13 =>
 (Z1K [(.slice none 0 0),(.slice none 0 0),(.map none)] [(0,1,t13),(1,1,(.slice none 0 0)),(2,1,(.map (some (256*(c+1)+4))))]).bind fun t15 =>
 (bif (t15:Value).cells.toList.all Z08 then
 (Z0e t0).bind fun t18 =>
 (Z03 t18 0).bind fun t19 =>
 (Z03 t19 0).bind fun t20 =>
 (ld1 (newB (HeapC.set h (256*(c+1)+4) (.map [])) (256*(c+1)+6) (t15:Value).cells.toList) t20).bind fun t21 =>
 (Z1q t21).bind fun t22 =>
 (o (ZbL none) [t1,t2,(ptrTo (256*(c+1)+6)),t22,(.int .i64 0)] (newB (HeapC.set h (256*(c+1)+4) (.map [])) (256*(c+1)+6) (t15:Value).cells.toList) (c+1+1+1) []).bind fun r0 =>
 cond (Z0r r0.e (.exit 0))
 ((Z0a r0.h r0.df).bind fun h1 =>
 some ⟨.ret,[r0.v 2],h1,(r0.c+1),[]⟩)
 (none)
 else none)
theorem ZgH (o:Orc H) (t0 t1 t2:Value) (h:H) (c:Nat):jx P o 65 none f60_c (Z0h (List.range 3) [t0,t1,t2]) h c [] (Kfn P Try.f60.results.toList)=ZjL o t0 t1 t2 h c:=by kernel_rfl
theorem f60_go {t0 t1 t2:Value} {h:FH} {c:Nat} {df:List Nat} {r:Rt FH} (e:ZjL G t0 t1 t2 h c=some r):G (.fn 60) [t0,t1,t2] h c df=some r:=Z0f (a:=ZeM) bk_60 rfl (fun args h c=>by cases args <;> rfl) rfl ((ZgH G t0 t1 t2 h c).trans e)
noncomputable def Z3q (o:Orc H) (rd:Option Nat) (t0 t3 t4 t5 t17 t18:Value) (h:H) (c:Nat) (df:List Nat):Option (Rt H) :=
 (Z00 P .lss 3 t18 (.int .i64 4)).bind fun t19 =>
 Z09 t19
 ((ixV 4 true 5 t17 t18).bind fun t21 =>
 (stN (newB h (256*(c+1)+2) [(.int .i64 0),(.int .i64 0),(.int .i64 0),(.int .i64 0),(.int .i64 0)]) 5 (ptrTo (256*(c+1)+2)) t21).bind fun h1 =>
 (ixA 2 1 t3 (.int .i64 1)).bind fun t23 =>
 (ld1 h1 t23).bind fun t24 =>
 (Z00 P .neq 3 t18 t24).bind fun t25 =>
 (gd t25 true h1 (c+1+1+1) (Z03 (ptrTo (256*(c+1)+2)) 0)).bind fun r2 =>
 (gd t25 true r2.2.1 r2.2.2 (ld1 r2.2.1 r2.1)).bind fun r3 =>
 (gd t25 true r3.2.1 r3.2.2 (Z00 P .geq 3 r3.1 (.int .i64 0))).bind fun r4 =>
 (Z0C t25 r4.1 (.bool false)).bind fun t30 =>
 (Z09 t30
  ((Z0e t0).bind fun t33 =>
  (Z03 t33 2).bind fun t34 =>
  (ld1 r4.2.1 t34).bind fun t35 =>
  (Z03 (ptrTo (256*(c+1)+2)) 0).bind fun t36 =>
  (ld1 r4.2.1 t36).bind fun t37 =>
  (ixA 2 1 t3 (.int .i64 1)).bind fun t38 =>
  (ld1 r4.2.1 t38).bind fun t39 =>
  (Z03 (ptrTo (256*(c+1)+2)) 1).bind fun t40 =>
  (ixA 4 1 t40 t39).bind fun t41 =>
  (ld1 r4.2.1 t41).bind fun t42 =>
  (Z1K [(.int .i64 0),(.int .i64 0)] [(0,1,t37),(1,1,t42)]).bind fun t43 =>
  (Z5Q P r4.2.1 118 t35 t43 false).bind fun t44 =>
  (ixA 4 1 t5 t18).bind fun t45 =>
  (stN r4.2.1 1 t45 t44).bind fun h6 =>
  some ⟨.normal,[t0,t3,t4,t5,t17,t18],h6,(r4.2.2+1),df⟩)
  (some ⟨.normal,[t0,t3,t4,t5,t17,t18],r4.2.1,r4.2.2,df⟩):Option (Rt H)).bind fun r7 =>
 cond (Z0r r7.e .normal)
  ((Z00 P .add 3 (r7.v 5) (.int .i64 1)).bind fun t46 =>
  some ⟨.normal,[r7.v 0,r7.v 1,r7.v 2,r7.v 3,r7.v 4,t46],r7.h,(r7.c+1),r7.df⟩)
  (none))
 (some ⟨(.exit 0),[t0,t3,t4,t5,t17,t18],h,(c+1),df⟩)
theorem Z2U (o:Orc H) (rd:Option Nat) (t0 t3 t4 t5 t17 t18:Value) (h:H) (c:Nat) (df:List Nat):jx P o 48 rd Z3p (Z0h [0,3,4,5,17,18] [t0,t3,t4,t5,t17,t18]) h c df (Klp [0,3,4,5,17,18])=Z3q o rd t0 t3 t4 t5 t17 t18 h c df:=by kernel_rfl
noncomputable def ZjK (o:Orc H) (t0 t1:Value) (h:H) (c:Nat):Option (Rt H) :=
 (bif (t1:Value).cells.toList.all Z08 then
 (Z1K [(.int .i64 0),(.int .i64 0),(.int .i64 0),(.int .i64 0)] [(0,1,(.int .i64 (-1))),(1,1,(.int .i64 (-1))),(2,1,(.int .i64 (-1))),(3,1,(.int .i64 (-1)))]).bind fun t8 =>
 (stN (newB (newB (newB h (256*c+0) (t1:Value).cells.toList) (256*c+1) [(.int .i64 0),(.int .i64 0),(.int .i64 0),(.int .i64 0)]) (256*(c+1)+1) [(.int .i64 0),(.int .i64 0),(.int .i64 0),(.int .i64 0)]) 4 (ptrTo (256*(c+1)+1)) t8).bind fun h1 =>
 (Z0e t0).bind fun t10 =>
 (Z03 t10 0).bind fun t11 =>
 (Z03 t11 0).bind fun t12 =>
 (ld1 h1 t12).bind fun t13 =>
 (ixA 2 1 (ptrTo (256*c+0)) (.int .i64 0)).bind fun t14 =>
 (ld1 h1 t14).bind fun t15 =>
 (ixS 20 t13 t15).bind fun t16 =>
 (ldN h1 20 t16).bind fun t17 =>
 (o (ZbJ none) [t0,(ptrTo (256*c+0)),(ptrTo (256*c+1)),(ptrTo (256*(c+1)+1)),t17,(.int .i64 0)] h1 (c+1+1+1) []).bind fun r2 =>
 cond (Z0r r2.e (.exit 0))
 ((ldN r2.h 4 (r2.v 3)).bind fun t47 =>
 (stN r2.h 4 (r2.v 2) t47).bind fun h4 =>
 (Z0a h4 r2.df).bind fun h5 =>
 (ldN h5 4 (r2.v 2)).bind fun v6 =>
 some ⟨.ret,[v6],h5,(r2.c+1),[]⟩)
 (none)
 else none)
theorem ZgG (o:Orc H) (t0 t1:Value) (h:H) (c:Nat):jx P o 48 none f61_c (Z0h (List.range 2) [t0,t1]) h c [] (Kfn P Try.f61.results.toList)=ZjK o t0 t1 h c:=by kernel_rfl
theorem f61_go {t0 t1:Value} {h:FH} {c:Nat} {df:List Nat} {r:Rt FH} (e:ZjK G t0 t1 h c=some r):G (.fn 61) [t0,t1] h c df=some (gcR h c [] r):=Z0f (a:=ZeL) bk_61 rfl (fun args h c=>by cases args <;> rfl) rfl ((ZgG G t0 t1 h c).trans e)
noncomputable def Z8C (o:Orc H) (rd:Option Nat) (t2 t3 t4 t5 t7 t8 t9 t10 t11 t14:Value) (h:H) (c:Nat) (df:List Nat):Option (Rt H) :=
 (Z00 P .lss 3 t14 (.int .i64 4)).bind fun t92 =>
 Z09 t92
 ((Z00 P .add 3 t8 (.int .i64 1)).bind fun t97 =>
 (ixS 1 t4 t97).bind fun t98 =>
 (ld1 h t98).bind fun t99 =>
 (ZhD t99 t14).bind fun t101 =>
 (Z00 P .lss 5 t101 (.int .u8 48)).bind fun t103 =>
 (gd t103 false h (c+1+1+1) (some t101)).bind fun r0 =>
 (gd t103 false r0.2.1 r0.2.2 (Z00 P .gtr 5 r0.1 (.int .u8 57))).bind fun r1 =>
 (Z0C t103 (.bool true) r1.1).bind fun t107 =>
 Z09 t107
  ((Z1K [(.slice none 0 0)] []).bind fun t108 =>
  (stN r1.2.1 1 t2 t108).bind fun h3 =>
  some ⟨.ret,[t2,(.int .i64 4),t4,t5,t7,t8,t9,t10,t11,t14],h3,(r1.2.2+1),df⟩)
  ((Z00 P .sub 5 t101 (.int .u8 48)).bind fun t112 =>
  (cnvI .i64 t112).bind fun t113 =>
  (ixA 4 5 t10 t11).bind fun t114 =>
  (Z03 t114 1).bind fun t115 =>
  (ixA 4 1 t115 t14).bind fun t116 =>
  (stN r1.2.1 1 t116 t113).bind fun h6 =>
  (Z00 P .add 3 t14 (.int .i64 1)).bind fun t94 =>
  some ⟨.normal,[t2,t3,t4,t5,t7,t8,t9,t10,t11,t94],h6,(r1.2.2+1+1),df⟩))
 (some ⟨(.exit 4),[t2,t3,t4,t5,t7,t8,t9,t10,t11,t14],h,(c+1),df⟩)
theorem Zd0 (o:Orc H) (rd:Option Nat) (t2 t3 t4 t5 t7 t8 t9 t10 t11 t14:Value) (h:H) (c:Nat) (df:List Nat):jx P o 135 rd Z3m (Z0h [2,3,4,5,7,8,9,10,11,14] [t2,t3,t4,t5,t7,t8,t9,t10,t11,t14]) h c df (Klp [2,3,4,5,7,8,9,10,11,14])=Z8C o rd t2 t3 t4 t5 t7 t8 t9 t10 t11 t14 h c df:=by kernel_rfl
noncomputable def Z8D (o:Orc H) (rd:Option Nat) (t2 t3 t4 t5 t7 t8 t9 t10 t11:Value) (h:H) (c:Nat) (df:List Nat):Option (Rt H) :=
 (Z00 P .lss 3 t11 (.int .i64 4)).bind fun t42 =>
 Z09 t42
 (((Z1q t4).bind fun t47 =>
  (Z00 P .geq 3 t8 t47).bind fun t48 =>
  Z09 t48
   ((Z1K [(.slice none 0 0)] []).bind fun t49 =>
   (stN h 1 t2 t49).bind fun h1 =>
   some ⟨.ret,[t2,(.int .i64 4),t4,t5,t7,t8,t9,t10,t11],h1,(c+1+1+1),df⟩)
   ((ixS 1 t4 t8).bind fun t52 =>
   (ld1 h t52).bind fun t53 =>
   (Z00 P .eql 9 t53 (.string (ByteArray.mk #[45]))).bind fun t54 =>
   Z09 t54
    ((ixA 4 5 t10 t11).bind fun t56 =>
    (Z03 t56 0).bind fun t57 =>
    (stN h 1 t57 (.int .i64 (-1))).bind fun h4 =>
    (Z00 P .add 3 t8 (.int .i64 1)).bind fun t59 =>
    some ⟨.normal,[t2,t3,t4,t5,t7,t59,t9,t10,t11],h4,(c+1+1+1+1+1),df⟩)
    ((ixS 1 t4 t8).bind fun t63 =>
    (ld1 h t63).bind fun t64 =>
    (callF o 84 [t64] h (c+1+1+1+1)).bind fun r6 =>
    (Z19 r6.1 0).bind fun t66 =>
    (Z19 r6.1 1).bind fun t67 =>
    (Z2g .not t67).bind fun t69 =>
    (gd t69 false r6.2.1 (r6.2.2+1) (some t8)).bind fun r7 =>
    (gd t69 false r7.2.1 r7.2.2 (Z00 P .add 3 r7.1 (.int .i64 1))).bind fun r8 =>
    (gd t69 false r8.2.1 r8.2.2 (some t4)).bind fun r9 =>
    (gg t69 false r9.2.1 r9.2.2 (((Z1q r9.1).bind fun v=>some (v,r9.2.1)).bind fun r=>some (r.1,r.2,r9.2.2))).bind fun r10 =>
    (gd t69 false r10.2.1 r10.2.2 (Z00 P .geq 3 r8.1 r10.1)).bind fun r11 =>
    (Z0C t69 (.bool true) r11.1).bind fun t76 =>
    (gd t76 false r11.2.1 r11.2.2 (some t4)).bind fun r12 =>
    (gd t76 false r12.2.1 r12.2.2 (some t8)).bind fun r13 =>
    (gd t76 false r13.2.1 r13.2.2 (Z00 P .add 3 r13.1 (.int .i64 1))).bind fun r14 =>
    (gd t76 false r14.2.1 r14.2.2 (ixS 1 r12.1 r14.1)).bind fun r15 =>
    (gd t76 false r15.2.1 r15.2.2 (ld1 r15.2.1 r15.1)).bind fun r16 =>
    (gg t76 false r16.2.1 r16.2.2 (((ZdZ P r16.2.1 9 r16.1).bind fun v=>some (v,r16.2.1)).bind fun r=>some (r.1,r.2,r16.2.2))).bind fun r17 =>
    (gd t76 false r17.2.1 r17.2.2 (Z00 P .neq 3 r17.1 (.int .i64 4))).bind fun r18 =>
    (Z0C t76 (.bool true) r18.1).bind fun t85 =>
    Z09 t85
     ((Z1K [(.slice none 0 0)] []).bind fun t86 =>
     (stN r18.2.1 1 t2 t86).bind fun h20 =>
     some ⟨.ret,[t2,(.int .i64 4),t4,t5,t7,t8,t9,t10,t11],h20,(r18.2.2+1),df⟩)
     ((ixA 4 5 t10 t11).bind fun t89 =>
     (Z03 t89 0).bind fun t90 =>
     (stN r18.2.1 1 t90 t66).bind fun h23 =>
     (o (ZhX rd) [t2,t3,t4,t5,t7,t8,t9,t10,t11,(.int .i64 0)] h23 (r18.2.2+1+1) df).bind fun r24 =>
     cond (Z0r r24.e (.exit 4))
      ((Z00 P .add 3 (r24.v 5) (.int .i64 2)).bind fun t118 =>
      some ⟨.normal,[r24.v 0,r24.v 1,r24.v 2,r24.v 3,r24.v 4,t118,r24.v 6,r24.v 7,r24.v 8],r24.h,(r24.c+1),r24.df⟩)
      (cond (Z0r r24.e .ret)
       (some ⟨.ret,[r24.v 0,r24.v 1,r24.v 2,r24.v 3,r24.v 4,r24.v 5,r24.v 6,r24.v 7,r24.v 8],r24.h,r24.c,r24.df⟩)
       (none))))):Option (Rt H)).bind fun r26 =>
 cond (Z0r r26.e .ret)
  (some ⟨.ret,[r26.v 0,r26.v 1,r26.v 2,r26.v 3,r26.v 4,r26.v 5,r26.v 6,r26.v 7,r26.v 8],r26.h,r26.c,r26.df⟩)
  (cond (Z0r r26.e .normal)
   ((Z00 P .add 3 (r26.v 8) (.int .i64 1)).bind fun t44 =>
   some ⟨.normal,[r26.v 0,r26.v 1,r26.v 2,r26.v 3,r26.v 4,r26.v 5,r26.v 6,r26.v 7,t44],r26.h,(r26.c+1),r26.df⟩)
   (none)))
 (some ⟨(.exit 2),[t2,t3,t4,t5,t7,t8,t9,t10,t11],h,(c+1),df⟩)
theorem Zd1 (o:Orc H) (rd:Option Nat) (t2 t3 t4 t5 t7 t8 t9 t10 t11:Value) (h:H) (c:Nat) (df:List Nat):jx P o 135 rd Z3n (Z0h [2,3,4,5,7,8,9,10,11] [t2,t3,t4,t5,t7,t8,t9,t10,t11]) h c df (Klp [2,3,4,5,7,8,9,10,11])=Z8D o rd t2 t3 t4 t5 t7 t8 t9 t10 t11 h c df:=by kernel_rfl
noncomputable def Z8E (o:Orc H) (rd:Option Nat) (t2 t3 t4 t5 t7 t8 t9:Value) (h:H) (c:Nat) (df:List Nat):Option (Rt H) :=
 (Z00 P .lss 3 t9 t5).bind fun t38 =>
 Z09 t38
 ((o (ZhY rd) [t2,t3,t4,t5,t7,t8,t9,(ptrTo (256*(c+1)+0)),(.int .i64 0)] (newB h (256*(c+1)+0) [(.int .i64 0),(.int .i64 0),(.int .i64 0),(.int .i64 0),(.int .i64 0),(.int .i64 0),(.int .i64 0),(.int .i64 0),(.int .i64 0),(.int .i64 0),(.int .i64 0),(.int .i64 0),(.int .i64 0),(.int .i64 0),(.int .i64 0),(.int .i64 0),(.int .i64 0),(.int .i64 0),(.int .i64 0),(.int .i64 0)]) (c+1+1+1) df).bind fun r0 =>
 cond (Z0r r0.e (.exit 2))
  ((Z03 (r0.v 4) 0).bind fun t119 =>
  (ld1 r0.h t119).bind fun t120 =>
  (ldN r0.h 20 (r0.v 7)).bind fun t121 =>
  (Z9D [(.int .i64 0),(.int .i64 0),(.int .i64 0),(.int .i64 0),(.int .i64 0),(.int .i64 0),(.int .i64 0),(.int .i64 0),(.int .i64 0),(.int .i64 0),(.int .i64 0),(.int .i64 0),(.int .i64 0),(.int .i64 0),(.int .i64 0),(.int .i64 0),(.int .i64 0),(.int .i64 0),(.int .i64 0),(.int .i64 0)] [(0,20,t121)]).bind fun r1 =>
  (Z5D (newB r0.h (256*r0.c+3) r1) (256*r0.c+4) 20 160 t120 (.slice (some ⟨(256*r0.c+3),0,none⟩) 1 1)).bind fun r2 =>
  (Z03 (r0.v 4) 0).bind fun t124 =>
  (stN r2.2 1 t124 r2.1).bind fun h4 =>
  (Z00 P .add 3 (r0.v 6) (.int .i64 1)).bind fun t40 =>
  some ⟨.normal,[r0.v 0,r0.v 1,r0.v 2,r0.v 3,r0.v 4,r0.v 5,t40],h4,(r0.c+1+1),r0.df⟩)
  (cond (Z0r r0.e .ret)
   (some ⟨.ret,[r0.v 0,r0.v 1,r0.v 2,r0.v 3,r0.v 4,r0.v 5,r0.v 6],r0.h,r0.c,r0.df⟩)
   (none)))
 (some ⟨(.exit 0),[t2,t3,t4,t5,t7,t8,t9],h,(c+1),df⟩)
theorem Zd2 (o:Orc H) (rd:Option Nat) (t2 t3 t4 t5 t7 t8 t9:Value) (h:H) (c:Nat) (df:List Nat):jx P o 135 rd Z3o (Z0h [2,3,4,5,7,8,9] [t2,t3,t4,t5,t7,t8,t9]) h c df (Klp [2,3,4,5,7,8,9])=Z8E o rd t2 t3 t4 t5 t7 t8 t9 h c df:=by kernel_rfl
noncomputable def ZpX (o:Orc H) (t0:Value) (h:H) (c:Nat):Option (Rt H) :=
 (ZdZ P (newB h (256*c+0) [(.slice none 0 0)]) 9 t0).bind fun t17 =>
 (Z00 P .gtr 3 t17 (.int .i64 200000)).bind fun t18 =>
 Z09 t18
 ((Z1K [(.slice none 0 0)] []).bind fun t19 =>
 (stN (newB h (256*c+0) [(.slice none 0 0)]) 1 (ptrTo (256*c+0)) t19).bind fun h1 =>
 (ldN h1 1 (ptrTo (256*c+0))).bind fun v2 =>
 some ⟨.ret,[.tuple #[v2,(.int .i64 2)]],h1,(c+1+1+1),[]⟩)
 ((callF o 83 [t0] (newB h (256*c+0) [(.slice none 0 0)]) (c+1+1+1)).bind fun r3 =>
 (Z1q r3.1).bind fun t23 =>
 (Z00 P .eql 3 t23 (.int .i64 0)).bind fun t24 =>
 Z09 t24
  ((Z1K [(.slice none 0 0)] []).bind fun t25 =>
  (stN r3.2.1 1 (ptrTo (256*c+0)) t25).bind fun h5 =>
  (ldN h5 1 (ptrTo (256*c+0))).bind fun v6 =>
  some ⟨.ret,[.tuple #[v6,(.int .i64 4)]],h5,(r3.2.2+1+1),[]⟩)
  ((ixS 1 r3.1 (.int .i64 0)).bind fun t28 =>
  (ld1 r3.2.1 t28).bind fun t29 =>
  (callF o 84 [t29] r3.2.1 (r3.2.2+1+1)).bind fun r7 =>
  (Z19 r7.1 0).bind fun t31 =>
  (Z19 r7.1 1).bind fun t32 =>
  (Z2g .not t32).bind fun t34 =>
  Z09 t34
   ((Z1K [(.slice none 0 0)] []).bind fun t35 =>
   (stN r7.2.1 1 (ptrTo (256*c+0)) t35).bind fun h9 =>
   (ldN h9 1 (ptrTo (256*c+0))).bind fun v10 =>
   some ⟨.ret,[.tuple #[v10,(.int .i64 4)]],h9,(r7.2.2+1+1),[]⟩)
   ((o (ZhZ none) [(ptrTo (256*c+0)),(.int .i64 0),r3.1,t31,(ptrTo (256*(r7.2.2+1)+0)),(.int .i64 1),(.int .i64 0)] (newB r7.2.1 (256*(r7.2.2+1)+0) [(.slice none 0 0)]) (r7.2.2+1+1+1+1) []).bind fun r11 =>
   cond (Z0r r11.e (.exit 0))
    ((Z1q (r11.v 2)).bind fun t127 =>
    (Z00 P .neq 3 (r11.v 5) t127).bind fun t128 =>
    Z09 t128
     ((Z1K [(.slice none 0 0)] []).bind fun t129 =>
     (stN r11.h 1 (r11.v 0) t129).bind fun h15 =>
     (Z0a h15 r11.df).bind fun h16 =>
     (ldN h16 1 (r11.v 0)).bind fun v17 =>
     some ⟨.ret,[.tuple #[v17,(.int .i64 4)]],h16,(r11.c+1+1),[]⟩)
     ((ldN r11.h 1 (r11.v 4)).bind fun t130 =>
     (callF o 14 [t130] r11.h (r11.c+1+1)).bind fun r18 =>
     (Z00 P .neq 33 r18.1 (.int .i64 0)).bind fun t132 =>
     Z09 t132
      ((Z1K [(.slice none 0 0)] []).bind fun t133 =>
      (stN r18.2.1 1 (r11.v 0) t133).bind fun h20 =>
      (Z0a h20 r11.df).bind fun h21 =>
      (ldN h21 1 (r11.v 0)).bind fun v22 =>
      some ⟨.ret,[.tuple #[v22,(.int .i64 7)]],h21,(r18.2.2+1),[]⟩)
      ((ldN r18.2.1 1 (r11.v 4)).bind fun t134 =>
      (stN r18.2.1 1 (r11.v 0) t134).bind fun h24 =>
      (Z0a h24 r11.df).bind fun h25 =>
      (ldN h25 1 (r11.v 0)).bind fun v26 =>
      some ⟨.ret,[.tuple #[v26,(.int .i64 0)]],h25,(r18.2.2+1),[]⟩)))
    (cond (Z0r r11.e .ret)
     ((Z0a r11.h r11.df).bind fun h12 =>
     (ldN h12 1 (r11.v 0)).bind fun v13 =>
     some ⟨.ret,[.tuple #[v13,r11.v 1]],h12,r11.c,[]⟩)
     (none)))))
theorem Znf (o:Orc H) (t0:Value) (h:H) (c:Nat):jx P o 135 none f62_c (Z0h (List.range 1) [t0]) h c [] (Kfn P Try.f62.results.toList)=ZpX o t0 h c:=by kernel_rfl
noncomputable def ZjJ (o:Orc H) (t0:Value) (h:H) (c:Nat):Option (Rt H) :=
 (bif (t0:Value).cells.toList.all Z08 then
 some ⟨.ret,[(.func (.func 85) [].toArray [(ptrTo (256*c+0))].toArray)],(newB h (256*c+0) (t0:Value).cells.toList),(c+1+1),[]⟩
 else none)
theorem ZgF (o:Orc H) (t0:Value) (h:H) (c:Nat):jx P o 4 none f63_c (Z0h (List.range 1) [t0]) h c [] (Kfn P Try.f63.results.toList)=ZjJ o t0 h c:=by kernel_rfl
theorem f63_go {t0:Value} {h:FH} {c:Nat} {df:List Nat} {r:Rt FH} (e:ZjJ G t0 h c=some r):G (.fn 63) [t0] h c df=some r:=Z0f (a:=ZeK) bk_63 rfl (fun args h c=>by cases args <;> rfl) rfl ((ZgF G t0 h c).trans e)

variable {H:Type} [HeapC H]
noncomputable def Z2t (o:Orc H) (rd:Option Nat) (t2 t3 t6 t7:Value) (h:H) (c:Nat) (df:List Nat):Option (Rt H) :=
 (Z00 P .lss 3 t7 (.int .i64 4)).bind fun t8 =>
 Z09 t8
 ((ixV 4 false 1 t6 t7).bind fun t10 =>
 (ixA 4 1 t3 t10).bind fun t13 =>
 (stN h 1 t13 t7).bind fun h1 =>
 (Z00 P .add 3 t7 (.int .i64 1)).bind fun t14 =>
 some ⟨.normal,[t2,t3,t6,t14],h1,(c+1+1+1+1),df⟩)
 (some ⟨(.exit 0),[t2,t3,t6,t7],h,(c+1),df⟩)
theorem Z5a (o:Orc H) (rd:Option Nat) (t2 t3 t6 t7:Value) (h:H) (c:Nat) (df:List Nat):jx P o 16 rd Z3l (Z0h [2,3,6,7] [t2,t3,t6,t7]) h c df (Klp [2,3,6,7])=Z2t o rd t2 t3 t6 t7 h c df:=by kernel_rfl
noncomputable def ZjI (o:Orc H) (t0:Value) (h:H) (c:Nat):Option (Rt H) :=
 (bif (t0:Value).cells.toList.all Z08 then
 (ldN (newB (newB (newB h (256*c+0) (t0:Value).cells.toList) (256*c+1) [(.int .i64 0),(.int .i64 0),(.int .i64 0),(.int .i64 0)]) (256*(c+1)+0) [(.int .i64 0),(.int .i64 0),(.int .i64 0),(.int .i64 0)]) 4 (ptrTo (256*c+0))).bind fun t6 =>
 (o (Z4s none) [(ptrTo (256*c+1)),(ptrTo (256*(c+1)+0)),t6,(.int .i64 0)] (newB (newB (newB h (256*c+0) (t0:Value).cells.toList) (256*c+1) [(.int .i64 0),(.int .i64 0),(.int .i64 0),(.int .i64 0)]) (256*(c+1)+0) [(.int .i64 0),(.int .i64 0),(.int .i64 0),(.int .i64 0)]) (c+1+1+1) []).bind fun r0 =>
 cond (Z0r r0.e (.exit 0))
 ((ldN r0.h 4 (r0.v 1)).bind fun t15 =>
 (stN r0.h 4 (r0.v 0) t15).bind fun h2 =>
 (Z0a h2 r0.df).bind fun h3 =>
 (ldN h3 4 (r0.v 0)).bind fun v4 =>
 some ⟨.ret,[v4],h3,(r0.c+1),[]⟩)
 (none)
 else none)
theorem ZgE (o:Orc H) (t0:Value) (h:H) (c:Nat):jx P o 16 none f64_c (Z0h (List.range 1) [t0]) h c [] (Kfn P Try.f64.results.toList)=ZjI o t0 h c:=by kernel_rfl
theorem f64_go {t0:Value} {h:FH} {c:Nat} {df:List Nat} {r:Rt FH} (e:ZjI G t0 h c=some r):G (.fn 64) [t0] h c df=some (gcR h c [] r):=Z0f (a:=ZeJ) bk_64 rfl (fun args h c=>by cases args <;> rfl) rfl ((ZgE G t0 h c).trans e)
theorem ZhW {rd:Option Nat} {t2 t3 t6 t7:Value} {h:FH} {c:Nat} {df:List Nat} {q r:Rt FH} (e:Z2t G rd t2 t3 t6 t7 h c df=some q) (hq:q.e = .normal) (k:G (Z4s rd) q.vs (gcR h c df q).h (gcR h c df q).c q.df=some r):G (Z4s rd) [t2,t3,t6,t7] h c df=some r:=Z0U ((Z5a G rd t2 t3 t6 t7 h c df).trans e) hq k
theorem ZhV {rd:Option Nat} {t2 t3 t6 t7:Value} {h:FH} {c:Nat} {df:List Nat} {q:Rt FH} (e:Z2t G rd t2 t3 t6 t7 h c df=some q) (hq:q.e ≠ .normal):G (Z4s rd) [t2,t3,t6,t7] h c df=some (gcR h c df q):=Z0V ((Z5a G rd t2 t3 t6 t7 h c df).trans e) hq
noncomputable def Z2s (o:Orc H) (rd:Option Nat) (t0 t1 t4 t5 t6 t7 t9 t23 t24 t25 t29:Value) (h:H) (c:Nat) (df:List Nat):Option (Rt H) :=
 (Z00 P .lss 3 t29 (.int .i64 4)).bind fun t30 =>
 Z09 t30
 (((ixA 2 1 t9 (.int .i64 1)).bind fun t33 =>
  (ld1 h t33).bind fun t34 =>
  (Z00 P .eql 3 t29 t34).bind fun t35 =>
  Z09 t35
   (some ⟨.normal,[t0,t1,t4,t5,t6,t7,t9,t23,t24,t25,t29],h,(c+1+1+1),df⟩)
   ((ixA 2 1 t9 (.int .i64 0)).bind fun t38 =>
   (ld1 h t38).bind fun t39 =>
   (Z00 P .mul 3 (.int .i64 16) t39).bind fun t40 =>
   (ixA 2 1 t9 (.int .i64 1)).bind fun t41 =>
   (ld1 h t41).bind fun t42 =>
   (Z00 P .mul 3 (.int .i64 4) t42).bind fun t43 =>
   (Z00 P .add 3 t40 t43).bind fun t44 =>
   (Z00 P .add 3 t44 t29).bind fun t46 =>
   (ixS 1 t1 t46).bind fun t47 =>
   (ld1 h t47).bind fun t48 =>
   (Z0P P h 146 t6 t48 (.bool true)).bind fun h1 =>
   (Z0e t0).bind fun t50 =>
   (Z03 t50 0).bind fun t51 =>
   (Z03 t51 0).bind fun t52 =>
   (ld1 h1 t52).bind fun t53 =>
   (ixA 2 1 t9 (.int .i64 0)).bind fun t54 =>
   (ld1 h1 t54).bind fun t55 =>
   (ixS 20 t53 t55).bind fun t57 =>
   (ixA 4 5 t57 t29).bind fun t58 =>
   (Z03 t58 0).bind fun t59 =>
   (ld1 h1 t59).bind fun t60 =>
   (Z00 P .lss 3 t60 (.int .i64 0)).bind fun t61 =>
   (Z09 t61
    ((Z03 t5 1).bind fun t62 =>
    (ld1 h1 t62).bind fun t63 =>
    (Z00 P .add 3 t63 (.int .i64 1)).bind fun t64 =>
    (Z03 t5 1).bind fun t65 =>
    (stN h1 1 t65 t64).bind fun h3 =>
    (Z03 t5 4).bind fun t66 =>
    (stN h3 1 t66 (.bool false)).bind fun h5 =>
    some ⟨.normal,[t0,t1,t4,t5,t6,t7,t9,t23,t24,t25,t29],h5,(c+1+1+1+1+1+1+1),df⟩)
    ((Z00 P .add 3 t7 (.int .i64 1)).bind fun t68 =>
    some ⟨.normal,[t0,t1,t4,t5,t6,t68,t9,t23,t24,t25,t29],h1,(c+1+1+1+1+1+1),df⟩):Option (Rt H)).bind fun r7 =>
   cond (Z0r r7.e .normal)
    (some ⟨.normal,[r7.v 0,r7.v 1,r7.v 2,r7.v 3,r7.v 4,r7.v 5,r7.v 6,r7.v 7,r7.v 8,r7.v 9,r7.v 10],r7.h,r7.c,r7.df⟩)
    (none)):Option (Rt H)).bind fun r8 =>
 cond (Z0r r8.e .normal)
  ((Z00 P .add 3 (r8.v 10) (.int .i64 1)).bind fun t69 =>
  some ⟨.normal,[r8.v 0,r8.v 1,r8.v 2,r8.v 3,r8.v 4,r8.v 5,r8.v 6,r8.v 7,r8.v 8,r8.v 9,t69],r8.h,(r8.c+1),r8.df⟩)
  (none))
 (some ⟨(.exit 2),[t0,t1,t4,t5,t6,t7,t9,t23,t24,t25,t29],h,(c+1),df⟩)
theorem Z29 (o:Orc H) (rd:Option Nat) (t0 t1 t4 t5 t6 t7 t9 t23 t24 t25 t29:Value) (h:H) (c:Nat) (df:List Nat):jx P o 90 rd Z3j (Z0h [0,1,4,5,6,7,9,23,24,25,29] [t0,t1,t4,t5,t6,t7,t9,t23,t24,t25,t29]) h c df (Klp [0,1,4,5,6,7,9,23,24,25,29])=Z2s o rd t0 t1 t4 t5 t6 t7 t9 t23 t24 t25 t29 h c df:=by kernel_rfl
noncomputable def Z4r (o:Orc H) (rd:Option Nat) (t0 t1 t4 t5 t6 t7 t23 t24 t25:Value) (h:H) (c:Nat) (df:List Nat):Option (Rt H) :=
 (Z00 P .lss 3 t25 t24).bind fun t26 =>
 Z09 t26
 ((ixS 2 t23 t25).bind fun t27 =>
 (ldN h 2 t27).bind fun t28 =>
 (stN (newB h (256*(c+1)+2) [(.int .i64 0),(.int .i64 0)]) 2 (ptrTo (256*(c+1)+2)) t28).bind fun h1 =>
 (o (ZbH rd) [t0,t1,t4,t5,t6,t7,(ptrTo (256*(c+1)+2)),t23,t24,t25,(.int .i64 0)] h1 (c+1+1+1) df).bind fun r2 =>
 cond (Z0r r2.e (.exit 2))
  ((Z00 P .add 3 (r2.v 9) (.int .i64 1)).bind fun t70 =>
  some ⟨.normal,[r2.v 0,r2.v 1,r2.v 2,r2.v 3,r2.v 4,r2.v 5,r2.v 7,r2.v 8,t70],r2.h,(r2.c+1),r2.df⟩)
  (none))
 (some ⟨(.exit 0),[t0,t1,t4,t5,t6,t7,t23,t24,t25],h,(c+1),df⟩)
theorem Z59 (o:Orc H) (rd:Option Nat) (t0 t1 t4 t5 t6 t7 t23 t24 t25:Value) (h:H) (c:Nat) (df:List Nat):jx P o 90 rd Z3k (Z0h [0,1,4,5,6,7,23,24,25] [t0,t1,t4,t5,t6,t7,t23,t24,t25]) h c df (Klp [0,1,4,5,6,7,23,24,25])=Z4r o rd t0 t1 t4 t5 t6 t7 t23 t24 t25 h c df:=by kernel_rfl
noncomputable def ZjH (o:Orc H) (t0 t1:Value) (h:H) (c:Nat):Option (Rt H) :=
 (Z0e t0).bind fun t12 =>
 (Z03 t12 1).bind fun t13 =>
 (ld1 (newB h (256*c+0) [(.int .i64 0),(.int .i64 0),(.int .i64 0),(.int .i64 0),(.bool false),(.bool false)]) t13).bind fun t14 =>
 (Z1q t14).bind fun t15 =>
 (callF o 86 [t0] (newB h (256*c+0) [(.int .i64 0),(.int .i64 0),(.int .i64 0),(.int .i64 0),(.bool false),(.bool false)]) (c+1+1)).bind fun r0 =>
 (Z1K [(.int .i64 0),(.int .i64 0),(.int .i64 0),(.int .i64 0),(.bool false),(.bool false)] [(0,1,t15),(4,1,(.bool true)),(5,1,r0.1)]).bind fun t18 =>
 (stN (newB r0.2.1 (256*(c+1)+8) [(.int .i64 0),(.int .i64 0),(.int .i64 0),(.int .i64 0),(.bool false),(.bool false)]) 6 (ptrTo (256*(c+1)+8)) t18).bind fun h2 =>
 (bif (Z1y (Z2O t13) (newB h (256*c+0) [(.int .i64 0),(.int .i64 0),(.int .i64 0),(.int .i64 0),(.bool false),(.bool false)]) r0.2.1 && (Z1y (Z2O t14) (newB h (256*c+0) [(.int .i64 0),(.int .i64 0),(.int .i64 0),(.int .i64 0),(.bool false),(.bool false)]) r0.2.1 && true)) then
 (Z0e t0).bind fun t21 =>
 (Z03 t21 1).bind fun t22 =>
 (ld1 (HeapC.set h2 (256*r0.2.2+0) (.map [])) t22).bind fun t23 =>
 (Z1q t23).bind fun t24 =>
 (o (ZbI none) [t0,t1,(ptrTo (256*c+0)),(ptrTo (256*(c+1)+8)),(.map (some (256*r0.2.2+0))),(.int .i64 0),t23,t24,(.int .i64 0)] (HeapC.set h2 (256*r0.2.2+0) (.map [])) (r0.2.2+1+1+1) []).bind fun r3 =>
 cond (Z0r r3.e (.exit 0))
 ((Z03 (r3.v 3) 1).bind fun t71 =>
 (ld1 r3.h t71).bind fun t72 =>
 (Z00 P .quo 3 (r3.v 5) (.int .i64 2)).bind fun t74 =>
 (Z00 P .add 3 t72 t74).bind fun t75 =>
 (Z03 (r3.v 3) 1).bind fun t76 =>
 (stN r3.h 1 t76 t75).bind fun h5 =>
 (ZdZ P h5 146 (r3.v 4)).bind fun t78 =>
 (Z03 (r3.v 3) 2).bind fun t79 =>
 (stN h5 1 t79 t78).bind fun h7 =>
 (Z03 (r3.v 3) 2).bind fun t80 =>
 (ld1 h7 t80).bind fun t81 =>
 (Z03 (r3.v 3) 1).bind fun t82 =>
 (ld1 h7 t82).bind fun t83 =>
 (Z00 P .sub 3 t81 t83).bind fun t84 =>
 (Z03 (r3.v 3) 0).bind fun t85 =>
 (ld1 h7 t85).bind fun t86 =>
 (Z00 P .add 3 t84 t86).bind fun t87 =>
 (Z03 (r3.v 3) 3).bind fun t88 =>
 (stN h7 1 t88 t87).bind fun h9 =>
 (ldN h9 6 (r3.v 3)).bind fun t89 =>
 (stN h9 6 (r3.v 2) t89).bind fun h11 =>
 (Z0a h11 r3.df).bind fun h12 =>
 (ldN h12 6 (r3.v 2)).bind fun v13 =>
 some ⟨.ret,[v13],h12,(r3.c+1+1+1+1),[]⟩)
 (none)
 else none)
theorem ZgD (o:Orc H) (t0 t1:Value) (h:H) (c:Nat):jx P o 90 none f65_c (Z0h (List.range 2) [t0,t1]) h c [] (Kfn P Try.f65.results.toList)=ZjH o t0 t1 h c:=by kernel_rfl
theorem f65_go {t0 t1:Value} {h:FH} {c:Nat} {df:List Nat} {r:Rt FH} (e:ZjH G t0 t1 h c=some r):G (.fn 65) [t0,t1] h c df=some (gcR h c [] r):=Z0f (a:=ZeI) bk_65 rfl (fun args h c=>by cases args <;> rfl) rfl ((ZgD G t0 t1 h c).trans e)
noncomputable def Z4q (o:Orc H) (rd:Option Nat) (t2 t3 t10 t11:Value) (h:H) (c:Nat) (df:List Nat):Option (Rt H) :=
 (Z00 P .lss 3 t11 t10).bind fun t12 =>
 Z09 t12
 ((Z03 t3 0).bind fun t14 =>
 (ld1 h t14).bind fun t15 =>
 (ixS 1 t15 t11).bind fun t18 =>
 (stN h 1 t18 t11).bind fun h1 =>
 (Z00 P .add 3 t11 (.int .i64 1)).bind fun t19 =>
 some ⟨.normal,[t2,t3,t10,t19],h1,(c+1+1+1+1),df⟩)
 (some ⟨(.exit 0),[t2,t3,t10,t11],h,(c+1),df⟩)
theorem Z58 (o:Orc H) (rd:Option Nat) (t2 t3 t10 t11:Value) (h:H) (c:Nat) (df:List Nat):jx P o 21 rd Z3i (Z0h [2,3,10,11] [t2,t3,t10,t11]) h c df (Klp [2,3,10,11])=Z4q o rd t2 t3 t10 t11 h c df:=by kernel_rfl
noncomputable def ZjG (o:Orc H) (t0:Value) (h:H) (c:Nat):Option (Rt H) :=
 (mkS 1 8 [(.int .i64 0)] t0 t0).bind fun r0 =>
 (Z1K [(.slice none 0 0)] [(0,1,(.slice (some ⟨(256*(c+1)+1),0,none⟩) r0.2.1 r0.2.2))]).bind fun t7 =>
 (stN (newB (newB (newB h (256*c+0) [(.slice none 0 0)]) (256*(c+1)+1) r0.1) (256*(c+1)+3) [(.slice none 0 0)]) 1 (ptrTo (256*(c+1)+3)) t7).bind fun h2 =>
 (Z03 (ptrTo (256*(c+1)+3)) 0).bind fun t8 =>
 (ld1 h2 t8).bind fun t9 =>
 (Z1q t9).bind fun t10 =>
 (o (ZbG none) [(ptrTo (256*c+0)),(ptrTo (256*(c+1)+3)),t10,(.int .i64 0)] h2 (c+1+1+1) []).bind fun r3 =>
 cond (Z0r r3.e (.exit 0))
 ((ldN r3.h 1 (r3.v 1)).bind fun t20 =>
 (stN r3.h 1 (r3.v 0) t20).bind fun h5 =>
 (Z0a h5 r3.df).bind fun h6 =>
 (ldN h6 1 (r3.v 0)).bind fun v7 =>
 some ⟨.ret,[v7],h6,(r3.c+1),[]⟩)
 (none)
theorem ZgC (o:Orc H) (t0:Value) (h:H) (c:Nat):jx P o 21 none f66_c (Z0h (List.range 1) [t0]) h c [] (Kfn P Try.f66.results.toList)=ZjG o t0 h c:=by kernel_rfl
theorem f66_go {t0:Value} {h:FH} {c:Nat} {df:List Nat} {r:Rt FH} (e:ZjG G t0 h c=some r):G (.fn 66) [t0] h c df=some r:=Z0f (a:=ZeH) bk_66 rfl (fun args h c=>by cases args <;> rfl) rfl ((ZgC G t0 h c).trans e)
noncomputable def ZhU (o:Orc H) (t0 t1 t2:Value) (h:H) (c:Nat):Option (Rt H) :=
 (callF o 68 [t0,t1] h (c+1)).bind fun r0 =>
 (callF o 68 [t0,t2] r0.2.1 r0.2.2).bind fun r1 =>
 (Z0e t0).bind fun t13 =>
 (Z03 t13 0).bind fun t14 =>
 (ld1 r1.2.1 t14).bind fun t15 =>
 (Z5A max2 [r0.1,r1.1]).bind fun t18 =>
 (Z5A min2 [r0.1,r1.1]).bind fun t21 =>
 (ixS 1 t15 t18).bind fun t22 =>
 (stN r1.2.1 1 t22 t21).bind fun h5 =>
 some ⟨.ret,[.tuple #[]],h5,(r1.2.2+1),[]⟩
theorem ZgB (o:Orc H) (t0 t1 t2:Value) (h:H) (c:Nat):jx P o 23 none f67_c (Z0h (List.range 3) [t0,t1,t2]) h c [] (Kfn P Try.f67.results.toList)=ZhU o t0 t1 t2 h c:=by kernel_rfl
theorem f67_go {t0 t1 t2:Value} {h:FH} {c:Nat} {df:List Nat} {r:Rt FH} (e:ZhU G t0 t1 t2 h c=some r):G (.fn 67) [t0,t1,t2] h c df=some (gcR h c [] r):=Z0f (a:=ZeG) bk_67 rfl (fun args h c=>by cases args <;> rfl) rfl ((ZgB G t0 t1 t2 h c).trans e)
noncomputable def Z64 (o:Orc H) (rd:Option Nat) (t0 t1:Value) (h:H) (c:Nat) (df:List Nat):Option (Rt H) :=
 (Z0e t0).bind fun t6 =>
 (Z03 t6 0).bind fun t7 =>
 (ld1 h t7).bind fun t8 =>
 (ixS 1 t8 t1).bind fun t10 =>
 (ld1 h t10).bind fun t11 =>
 (Z00 P .neq 3 t11 t1).bind fun t13 =>
 Z09 t13
 ((Z0e t0).bind fun t15 =>
 (Z03 t15 0).bind fun t16 =>
 (ld1 h t16).bind fun t17 =>
 (Z0e t0).bind fun t20 =>
 (Z03 t20 0).bind fun t21 =>
 (ld1 h t21).bind fun t22 =>
 (Z0e t0).bind fun t24 =>
 (Z03 t24 0).bind fun t25 =>
 (ld1 h t25).bind fun t26 =>
 (ixS 1 t26 t1).bind fun t28 =>
 (ld1 h t28).bind fun t29 =>
 (ixS 1 t22 t29).bind fun t30 =>
 (ld1 h t30).bind fun t31 =>
 (ixS 1 t17 t1).bind fun t32 =>
 (stN h 1 t32 t31).bind fun h1 =>
 (Z0e t0).bind fun t34 =>
 (Z03 t34 0).bind fun t35 =>
 (ld1 h1 t35).bind fun t36 =>
 (ixS 1 t36 t1).bind fun t38 =>
 (ld1 h1 t38).bind fun t39 =>
 some ⟨.normal,[t0,t39],h1,(c+1+1+1),df⟩)
 (some ⟨(.exit 0),[t0,t1],h,(c+1),df⟩)
theorem Z7f (o:Orc H) (rd:Option Nat) (t0 t1:Value) (h:H) (c:Nat) (df:List Nat):jx P o 41 rd Z3h (Z0h [0,1] [t0,t1]) h c df (Klp [0,1])=Z64 o rd t0 t1 h c df:=by kernel_rfl
noncomputable def ZhT (o:Orc H) (t0 t1:Value) (h:H) (c:Nat):Option (Rt H) :=
 (o (ZbF none) [t0,t1] h (c+1) []).bind fun r0 =>
 cond (Z0r r0.e (.exit 0))
 ((Z0a r0.h r0.df).bind fun h1 =>
 some ⟨.ret,[r0.v 1],h1,(r0.c+1),[]⟩)
 (none)
theorem ZgA (o:Orc H) (t0 t1:Value) (h:H) (c:Nat):jx P o 41 none f68_c (Z0h (List.range 2) [t0,t1]) h c [] (Kfn P Try.f68.results.toList)=ZhT o t0 t1 h c:=by kernel_rfl
theorem f68_go {t0 t1:Value} {h:FH} {c:Nat} {df:List Nat} {r:Rt FH} (e:ZhT G t0 t1 h c=some r):G (.fn 68) [t0,t1] h c df=some (gcR h c [] r):=Z0f (a:=ZeF) bk_68 rfl (fun args h c=>by cases args <;> rfl) rfl ((ZgA G t0 t1 h c).trans e)
noncomputable def ZjF (o:Orc H) (t0:Value) (h:H) (c:Nat):Option (Rt H) :=
 (bif (t0:Value).cells.toList.all Z08 then
 (Z03 (ptrTo (256*c+0)) 1).bind fun t3 =>
 (ld1 (newB h (256*c+0) (t0:Value).cells.toList) t3).bind fun t4 =>
 some ⟨.ret,[t4],(newB h (256*c+0) (t0:Value).cells.toList),(c+1+1),[]⟩
 else none)
theorem Zgz (o:Orc H) (t0:Value) (h:H) (c:Nat):jx P o 5 none f69_c (Z0h (List.range 1) [t0]) h c [] (Kfn P Try.f69.results.toList)=ZjF o t0 h c:=by kernel_rfl
theorem f69_go {t0:Value} {h:FH} {c:Nat} {df:List Nat} {r:Rt FH} (e:ZjF G t0 h c=some r):G (.fn 69) [t0] h c df=some (gcR h c [] r):=Z0f (a:=ZeE) bk_69 rfl (fun args h c=>by cases args <;> rfl) rfl ((Zgz G t0 h c).trans e)
noncomputable def ZjE (o:Orc H) (t0:Value) (h:H) (c:Nat):Option (Rt H) :=
 (bif (t0:Value).cells.toList.all Z08 then
 (Z03 (ptrTo (256*c+0)) 0).bind fun t3 =>
 (ld1 (newB h (256*c+0) (t0:Value).cells.toList) t3).bind fun t4 =>
 (Z2g .not t4).bind fun t5 =>
 (gd t5 true (newB h (256*c+0) (t0:Value).cells.toList) (c+1+1) (Z03 (ptrTo (256*c+0)) 2)).bind fun r0 =>
 (gd t5 true r0.2.1 r0.2.2 (ld1 r0.2.1 r0.1)).bind fun r1 =>
 (Z0C t5 r1.1 (.bool false)).bind fun t9 =>
 some ⟨.ret,[t9],r1.2.1,r1.2.2,[]⟩
 else none)
theorem Zgy (o:Orc H) (t0:Value) (h:H) (c:Nat):jx P o 10 none f70_c (Z0h (List.range 1) [t0]) h c [] (Kfn P Try.f70.results.toList)=ZjE o t0 h c:=by kernel_rfl
theorem f70_go {t0:Value} {h:FH} {c:Nat} {df:List Nat} {r:Rt FH} (e:ZjE G t0 h c=some r):G (.fn 70) [t0] h c df=some (gcR h c [] r):=Z0f (a:=ZeD) bk_70 rfl (fun args h c=>by cases args <;> rfl) rfl ((Zgy G t0 h c).trans e)
noncomputable def ZjD (o:Orc H) (t0:Value) (h:H) (c:Nat):Option (Rt H) :=
 (bif (t0:Value).cells.toList.all Z08 then
 (Z03 (ptrTo (256*c+0)) 0).bind fun t3 =>
 (ld1 (newB h (256*c+0) (t0:Value).cells.toList) t3).bind fun t4 =>
 (Z2g .not t4).bind fun t5 =>
 some ⟨.ret,[t5],(newB h (256*c+0) (t0:Value).cells.toList),(c+1+1),[]⟩
 else none)
theorem Zgx (o:Orc H) (t0:Value) (h:H) (c:Nat):jx P o 6 none f71_c (Z0h (List.range 1) [t0]) h c [] (Kfn P Try.f71.results.toList)=ZjD o t0 h c:=by kernel_rfl
theorem f71_go {t0:Value} {h:FH} {c:Nat} {df:List Nat} {r:Rt FH} (e:ZjD G t0 h c=some r):G (.fn 71) [t0] h c df=some (gcR h c [] r):=Z0f (a:=ZeC) bk_71 rfl (fun args h c=>by cases args <;> rfl) rfl ((Zgx G t0 h c).trans e)
noncomputable def ZjC (o:Orc H) (t0:Value) (h:H) (c:Nat):Option (Rt H) :=
 (bif (t0:Value).cells.toList.all Z08 then
 (Z03 (ptrTo (256*c+0)) 3).bind fun t3 =>
 (ld1 (newB h (256*c+0) (t0:Value).cells.toList) t3).bind fun t4 =>
 some ⟨.ret,[t4],(newB h (256*c+0) (t0:Value).cells.toList),(c+1+1),[]⟩
 else none)
theorem Zgw (o:Orc H) (t0:Value) (h:H) (c:Nat):jx P o 5 none f72_c (Z0h (List.range 1) [t0]) h c [] (Kfn P Try.f72.results.toList)=ZjC o t0 h c:=by kernel_rfl
theorem f72_go {t0:Value} {h:FH} {c:Nat} {df:List Nat} {r:Rt FH} (e:ZjC G t0 h c=some r):G (.fn 72) [t0] h c df=some (gcR h c [] r):=Z0f (a:=ZeB) bk_72 rfl (fun args h c=>by cases args <;> rfl) rfl ((Zgw G t0 h c).trans e)
noncomputable def Z3g (o:Orc H) (rd:Option Nat) (t4 t5 t7 t8 t9 t18 t19 t20 t25 t26:Value) (h:H) (c:Nat) (df:List Nat):Option (Rt H) :=
 (Z00 P .lss 3 t9 (.int .i64 6)).bind fun t31 =>
 (gd t31 true h (c+1) (Z03 t8 0)).bind fun r0 =>
 (gd t31 true r0.2.1 r0.2.2 (ld1 r0.2.1 r0.1)).bind fun r1 =>
 (gd t31 true r1.2.1 r1.2.2 (Z00 P .geq 3 r1.1 (.int .i64 0))).bind fun r2 =>
 (Z0C t31 r2.1 (.bool false)).bind fun t36 =>
 Z09 t36
 ((callF o 24 [t9] r2.2.1 (r2.2.2+1)).bind fun r3 =>
 (Z19 r3.1 0).bind fun t42 =>
 (Z19 r3.1 1).bind fun t43 =>
 (Z00 P .neq 3 t42 t7).bind fun t46 =>
 (gd t46 true r3.2.1 (r3.2.2+1) (some t43)).bind fun r4 =>
 (gd t46 true r4.2.1 r4.2.2 (some t7)).bind fun r5 =>
 (gd t46 true r5.2.1 r5.2.2 (Z00 P .neq 3 r4.1 r5.1)).bind fun r6 =>
 (Z0C t46 r6.1 (.bool false)).bind fun t51 =>
 (Z09 t51
  ((Z00 P .mul 3 (.int .i64 6) t5).bind fun t54 =>
  (Z00 P .add 3 t54 t9).bind fun t56 =>
  (Z03 t8 0).bind fun t57 =>
  (ld1 r6.2.1 t57).bind fun t58 =>
  (Z00 P .mul 3 (.int .i64 6) t58).bind fun t59 =>
  (Z03 t8 1).bind fun t61 =>
  (ixA 4 1 t61 t42).bind fun t62 =>
  (ld1 r6.2.1 t62).bind fun t63 =>
  (Z03 t8 1).bind fun t65 =>
  (ixA 4 1 t65 t43).bind fun t66 =>
  (ld1 r6.2.1 t66).bind fun t67 =>
  (callF o 28 [t63,t67] r6.2.1 (r6.2.2+1)).bind fun r7 =>
  (Z00 P .add 3 t59 r7.1).bind fun t69 =>
  (callF o 81 [t4,t56,t69] r7.2.1 r7.2.2).bind fun r8 =>
  (bif (Z1y (Z2O t57) r6.2.1 r7.2.1 && true) then
  some ⟨.normal,[t4,t5,t7,t8,t9,t18,t19,t20,t25,t26],r8.2.1,r8.2.2,df⟩
  else none))
  (some ⟨.normal,[t4,t5,t7,t8,t9,t18,t19,t20,t25,t26],r6.2.1,r6.2.2,df⟩):Option (Rt H)).bind fun r9 =>
 cond (Z0r r9.e .normal)
  ((Z00 P .add 3 (r9.v 4) (.int .i64 1)).bind fun t38 =>
  some ⟨.normal,[r9.v 0,r9.v 1,r9.v 2,r9.v 3,t38,r9.v 5,r9.v 6,r9.v 7,r9.v 8,r9.v 9],r9.h,(r9.c+1),r9.df⟩)
  (none))
 (some ⟨(.exit 4),[t4,t5,t7,t8,t9,t18,t19,t20,t25,t26],r2.2.1,r2.2.2,df⟩)
theorem Z28 (o:Orc H) (rd:Option Nat) (t4 t5 t7 t8 t9 t18 t19 t20 t25 t26:Value) (h:H) (c:Nat) (df:List Nat):jx P o 77 rd Z8x (Z0h [4,5,7,8,9,18,19,20,25,26] [t4,t5,t7,t8,t9,t18,t19,t20,t25,t26]) h c df (Klp [4,5,7,8,9,18,19,20,25,26])=Z3g o rd t4 t5 t7 t8 t9 t18 t19 t20 t25 t26 h c df:=by kernel_rfl
noncomputable def Z8A (o:Orc H) (rd:Option Nat) (t4 t5 t18 t19 t20 t25 t26:Value) (h:H) (c:Nat) (df:List Nat):Option (Rt H) :=
 (Z00 P .lss 3 t26 (.int .i64 4)).bind fun t27 =>
 Z09 t27
 ((ixV 4 true 5 t25 t26).bind fun t29 =>
 (stN (newB h (256*(c+1)+2) [(.int .i64 0),(.int .i64 0),(.int .i64 0),(.int .i64 0),(.int .i64 0)]) 5 (ptrTo (256*(c+1)+2)) t29).bind fun h1 =>
 (o (ZbC rd) [t4,t5,t26,(ptrTo (256*(c+1)+2)),(.int .i64 0),t18,t19,t20,t25,t26] h1 (c+1+1+1) df).bind fun r2 =>
 cond (Z0r r2.e (.exit 4))
  ((Z00 P .add 3 (r2.v 9) (.int .i64 1)).bind fun t71 =>
  some ⟨.normal,[r2.v 0,r2.v 1,r2.v 5,r2.v 6,r2.v 7,r2.v 8,t71],r2.h,(r2.c+1),r2.df⟩)
  (none))
 (some ⟨(.exit 2),[t4,t5,t18,t19,t20,t25,t26],h,(c+1),df⟩)
theorem Z7d (o:Orc H) (rd:Option Nat) (t4 t5 t18 t19 t20 t25 t26:Value) (h:H) (c:Nat) (df:List Nat):jx P o 77 rd Z8y (Z0h [4,5,18,19,20,25,26] [t4,t5,t18,t19,t20,t25,t26]) h c df (Klp [4,5,18,19,20,25,26])=Z8A o rd t4 t5 t18 t19 t20 t25 t26 h c df:=by kernel_rfl
noncomputable def Z8B (o:Orc H) (rd:Option Nat) (t4 t18 t19 t20:Value) (h:H) (c:Nat) (df:List Nat):Option (Rt H) :=
 (Z00 P .lss 3 t20 t19).bind fun t21 =>
 Z09 t21
 ((ixS 20 t18 t20).bind fun t23 =>
 (ldN h 20 t23).bind fun t24 =>
 (stN (newB h (256*(c+1)+3) [(.int .i64 0),(.int .i64 0),(.int .i64 0),(.int .i64 0),(.int .i64 0),(.int .i64 0),(.int .i64 0),(.int .i64 0),(.int .i64 0),(.int .i64 0),(.int .i64 0),(.int .i64 0),(.int .i64 0),(.int .i64 0),(.int .i64 0),(.int .i64 0),(.int .i64 0),(.int .i64 0),(.int .i64 0),(.int .i64 0)]) 20 (ptrTo (256*(c+1)+3)) t24).bind fun h1 =>
 (ldN h1 20 (ptrTo (256*(c+1)+3))).bind fun t25 =>
 (o (ZbD rd) [t4,t20,t18,t19,t20,t25,(.int .i64 0)] h1 (c+1+1+1) df).bind fun r2 =>
 cond (Z0r r2.e (.exit 2))
  ((Z00 P .add 3 (r2.v 4) (.int .i64 1)).bind fun t72 =>
  some ⟨.normal,[r2.v 0,r2.v 2,r2.v 3,t72],r2.h,(r2.c+1),r2.df⟩)
  (none))
 (some ⟨(.exit 0),[t4,t18,t19,t20],h,(c+1),df⟩)
theorem Z7e (o:Orc H) (rd:Option Nat) (t4 t18 t19 t20:Value) (h:H) (c:Nat) (df:List Nat):jx P o 77 rd Z8z (Z0h [4,18,19,20] [t4,t18,t19,t20]) h c df (Klp [4,18,19,20])=Z8B o rd t4 t18 t19 t20 h c df:=by kernel_rfl
noncomputable def ZpP (o:Orc H) (t0:Value) (h:H) (c:Nat):Option (Rt H) :=
 (bif (t0:Value).cells.toList.all Z08 then
 (Z03 (ptrTo (256*c+0)) 0).bind fun t12 =>
 (ld1 (newB h (256*c+0) (t0:Value).cells.toList) t12).bind fun t13 =>
 (Z1q t13).bind fun t14 =>
 (Z00 P .mul 3 (.int .i64 6) t14).bind fun t15 =>
 (callF o 80 [t15] (newB h (256*c+0) (t0:Value).cells.toList) (c+1+1)).bind fun r0 =>
 (Z03 (ptrTo (256*c+0)) 0).bind fun t17 =>
 (ld1 r0.2.1 t17).bind fun t18 =>
 (Z1q t18).bind fun t19 =>
 (o (ZbE none) [r0.1,t18,t19,(.int .i64 0)] r0.2.1 (r0.2.2+1) []).bind fun r1 =>
 cond (Z0r r1.e (.exit 0))
 ((callF o 82 [r1.v 0] r1.h (r1.c+1)).bind fun r2 =>
 (Z19 r2.1 0).bind fun t75 =>
 (Z19 r2.1 1).bind fun t76 =>
 (Z0a r2.2.1 r1.df).bind fun h3 =>
 some ⟨.ret,[.tuple #[t75,t76]],h3,r2.2.2,[]⟩)
 (none)
 else none)
theorem Zne (o:Orc H) (t0:Value) (h:H) (c:Nat):jx P o 77 none f73_c (Z0h (List.range 1) [t0]) h c [] (Kfn P Try.f73.results.toList)=ZpP o t0 h c:=by kernel_rfl
theorem f73_go {t0:Value} {h:FH} {c:Nat} {df:List Nat} {r:Rt FH} (e:ZpP G t0 h c=some r):G (.fn 73) [t0] h c df=some r:=Z0f (a:=Znd) bk_73 rfl (fun args h c=>by cases args <;> rfl) rfl ((Zne G t0 h c).trans e)
noncomputable def Z63 (o:Orc H) (rd:Option Nat) (t4 t5 t15 t16 t17 t22 t23:Value) (h:H) (c:Nat) (df:List Nat):Option (Rt H) :=
 (Z00 P .lss 3 t23 (.int .i64 4)).bind fun t24 =>
 Z09 t24
 ((ixV 4 true 5 t22 t23).bind fun t26 =>
 (stN (newB h (256*(c+1)+2) [(.int .i64 0),(.int .i64 0),(.int .i64 0),(.int .i64 0),(.int .i64 0)]) 5 (ptrTo (256*(c+1)+2)) t26).bind fun h1 =>
 (Z03 (ptrTo (256*(c+1)+2)) 0).bind fun t27 =>
 (ld1 h1 t27).bind fun t28 =>
 (Z00 P .geq 3 t28 (.int .i64 0)).bind fun t29 =>
 (Z09 t29
  ((Z00 P .mul 3 (.int .i64 4) t5).bind fun t32 =>
  (Z00 P .add 3 t32 t23).bind fun t34 =>
  (Z03 (ptrTo (256*(c+1)+2)) 0).bind fun t35 =>
  (ld1 h1 t35).bind fun t36 =>
  (Z00 P .mul 3 (.int .i64 4) t36).bind fun t37 =>
  (Z03 (ptrTo (256*(c+1)+2)) 1).bind fun t39 =>
  (ixA 4 1 t39 t23).bind fun t40 =>
  (ld1 h1 t40).bind fun t41 =>
  (Z00 P .add 3 t37 t41).bind fun t42 =>
  (callF o 81 [t4,t34,t42] h1 (c+1+1+1+1)).bind fun r2 =>
  some ⟨.normal,[t4,t5,t15,t16,t17,t22,t23],r2.2.1,r2.2.2,df⟩)
  (some ⟨.normal,[t4,t5,t15,t16,t17,t22,t23],h1,(c+1+1+1),df⟩):Option (Rt H)).bind fun r3 =>
 cond (Z0r r3.e .normal)
  ((Z00 P .add 3 (r3.v 6) (.int .i64 1)).bind fun t44 =>
  some ⟨.normal,[r3.v 0,r3.v 1,r3.v 2,r3.v 3,r3.v 4,r3.v 5,t44],r3.h,(r3.c+1),r3.df⟩)
  (none))
 (some ⟨(.exit 2),[t4,t5,t15,t16,t17,t22,t23],h,(c+1),df⟩)
theorem Z57 (o:Orc H) (rd:Option Nat) (t4 t5 t15 t16 t17 t22 t23:Value) (h:H) (c:Nat) (df:List Nat):jx P o 50 rd Z8u (Z0h [4,5,15,16,17,22,23] [t4,t5,t15,t16,t17,t22,t23]) h c df (Klp [4,5,15,16,17,22,23])=Z63 o rd t4 t5 t15 t16 t17 t22 t23 h c df:=by kernel_rfl
noncomputable def Z8w (o:Orc H) (rd:Option Nat) (t4 t15 t16 t17:Value) (h:H) (c:Nat) (df:List Nat):Option (Rt H) :=
 (Z00 P .lss 3 t17 t16).bind fun t18 =>
 Z09 t18
 ((ixS 20 t15 t17).bind fun t20 =>
 (ldN h 20 t20).bind fun t21 =>
 (stN (newB h (256*(c+1)+3) [(.int .i64 0),(.int .i64 0),(.int .i64 0),(.int .i64 0),(.int .i64 0),(.int .i64 0),(.int .i64 0),(.int .i64 0),(.int .i64 0),(.int .i64 0),(.int .i64 0),(.int .i64 0),(.int .i64 0),(.int .i64 0),(.int .i64 0),(.int .i64 0),(.int .i64 0),(.int .i64 0),(.int .i64 0),(.int .i64 0)]) 20 (ptrTo (256*(c+1)+3)) t21).bind fun h1 =>
 (ldN h1 20 (ptrTo (256*(c+1)+3))).bind fun t22 =>
 (o (ZbA rd) [t4,t17,t15,t16,t17,t22,(.int .i64 0)] h1 (c+1+1+1) df).bind fun r2 =>
 cond (Z0r r2.e (.exit 2))
  ((Z00 P .add 3 (r2.v 4) (.int .i64 1)).bind fun t45 =>
  some ⟨.normal,[r2.v 0,r2.v 2,r2.v 3,t45],r2.h,(r2.c+1),r2.df⟩)
  (none))
 (some ⟨(.exit 0),[t4,t15,t16,t17],h,(c+1),df⟩)
theorem Z7c (o:Orc H) (rd:Option Nat) (t4 t15 t16 t17:Value) (h:H) (c:Nat) (df:List Nat):jx P o 50 rd Z8v (Z0h [4,15,16,17] [t4,t15,t16,t17]) h c df (Klp [4,15,16,17])=Z8w o rd t4 t15 t16 t17 h c df:=by kernel_rfl
noncomputable def ZpO (o:Orc H) (t0:Value) (h:H) (c:Nat):Option (Rt H) :=
 (bif (t0:Value).cells.toList.all Z08 then
 (Z03 (ptrTo (256*c+0)) 0).bind fun t9 =>
 (ld1 (newB h (256*c+0) (t0:Value).cells.toList) t9).bind fun t10 =>
 (Z1q t10).bind fun t11 =>
 (Z00 P .mul 3 (.int .i64 4) t11).bind fun t12 =>
 (callF o 80 [t12] (newB h (256*c+0) (t0:Value).cells.toList) (c+1+1)).bind fun r0 =>
 (Z03 (ptrTo (256*c+0)) 0).bind fun t14 =>
 (ld1 r0.2.1 t14).bind fun t15 =>
 (Z1q t15).bind fun t16 =>
 (o (ZbB none) [r0.1,t15,t16,(.int .i64 0)] r0.2.1 (r0.2.2+1) []).bind fun r1 =>
 cond (Z0r r1.e (.exit 0))
 ((callF o 82 [r1.v 0] r1.h (r1.c+1)).bind fun r2 =>
 (Z19 r2.1 0).bind fun t48 =>
 (Z19 r2.1 1).bind fun t49 =>
 (Z0a r2.2.1 r1.df).bind fun h3 =>
 some ⟨.ret,[.tuple #[t48,t49]],h3,r2.2.2,[]⟩)
 (none)
 else none)
theorem Znc (o:Orc H) (t0:Value) (h:H) (c:Nat):jx P o 50 none f74_c (Z0h (List.range 1) [t0]) h c [] (Kfn P Try.f74.results.toList)=ZpO o t0 h c:=by kernel_rfl
theorem f74_go {t0:Value} {h:FH} {c:Nat} {df:List Nat} {r:Rt FH} (e:ZpO G t0 h c=some r):G (.fn 74) [t0] h c df=some r:=Z0f (a:=Znb) bk_74 rfl (fun args h c=>by cases args <;> rfl) rfl ((Znc G t0 h c).trans e)
end Go.Proofs.Ytdodippbpdechaa
