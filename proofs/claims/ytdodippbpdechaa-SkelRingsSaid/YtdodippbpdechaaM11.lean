/- Parts of a proof: S3 S4. Conditions: none. -/
import Derived.Test.YtdodippbpdechaaM9
set_option linter.all false
set_option maxRecDepth 100000
namespace Go.Proofs.Ytdodippbpdechaa
open Go Go.Ab Go.Proofs
variable {H:Type} [HeapC H]
noncomputable def Z39 (o:Orc H) (rd:Option Nat) (t4 t5 t7 t8 t9 t10 t35 t36 t37 t42 t43 t68 t90:Value) (h:H) (c:Nat) (df:List Nat):Option (Rt H) :=
 (Z00 P .lss 3 t90 (.int .i64 4)).bind fun t91 =>
 Z08 t91
 ((Z00 P .neq 3 t90 t7).bind fun t95 =>
 (gd t95 true h (c+1+1+1) (some t90)).bind fun r0 =>
 (gd t95 true r0.2.1 r0.2.2 (some t10)).bind fun r1 =>
 (gd t95 true r1.2.1 r1.2.2 (Z00 P .neq 3 r0.1 r1.1)).bind fun r2 =>
 (Z0H t95 r2.1 (.bool false)).bind fun t100 =>
 (Z08 t100
  ((Z0c t4).bind fun t102 =>
  (Z02 t102 2).bind fun t103 =>
  (Z02 t103 0).bind fun t104 =>
  (Z00 P .mul 3 (.int .i64 16) t5).bind fun t106 =>
  (Z00 P .mul 3 (.int .i64 4) t10).bind fun t108 =>
  (Z00 P .add 3 t106 t108).bind fun t109 =>
  (Z00 P .add 3 t109 t90).bind fun t111 =>
  (Z02 t8 0).bind fun t112 =>
  (ld1 r2.2.1 t112).bind fun t113 =>
  (Z00 P .mul 3 (.int .i64 16) t113).bind fun t114 =>
  (ixA 4 1 t9 t10).bind fun t116 =>
  (ld1 r2.2.1 t116).bind fun t117 =>
  (Z00 P .mul 3 (.int .i64 4) t117).bind fun t118 =>
  (Z00 P .add 3 t114 t118).bind fun t119 =>
  (ixA 4 1 t9 t90).bind fun t121 =>
  (ld1 r2.2.1 t121).bind fun t122 =>
  (Z00 P .add 3 t119 t122).bind fun t123 =>
  (callF o 67 [t104,t111,t123] r2.2.1 (r2.2.2+1)).bind fun r3 =>
  (Z0c t4).bind fun t126 =>
  (Z02 t126 3).bind fun t127 =>
  (Z02 t127 0).bind fun t128 =>
  (Z00 P .mul 3 (.int .i64 6) t5).bind fun t130 =>
  (callF o 27 [t10,t90] r3.2.1 (r3.2.2+1)).bind fun r4 =>
  (Z00 P .add 3 t130 r4.1).bind fun t134 =>
  (Z02 t8 0).bind fun t135 =>
  (ld1 r4.2.1 t135).bind fun t136 =>
  (Z00 P .mul 3 (.int .i64 6) t136).bind fun t137 =>
  (ixA 4 1 t9 t10).bind fun t139 =>
  (ld1 r4.2.1 t139).bind fun t140 =>
  (ixA 4 1 t9 t90).bind fun t142 =>
  (ld1 r4.2.1 t142).bind fun t143 =>
  (callF o 27 [t140,t143] r4.2.1 r4.2.2).bind fun r5 =>
  (Z00 P .add 3 t137 r5.1).bind fun t145 =>
  (callF o 67 [t128,t134,t145] r5.2.1 r5.2.2).bind fun r6 =>
  (bif (Z19 (Z2g t135) r3.2.1 r4.2.1 && (Z19 (Z2g t135) r4.2.1 r5.2.1 && (Z19 (Z2g t139) r3.2.1 r4.2.1 && (Z19 (Z2g t142) r3.2.1 r4.2.1 && true)))) then
  some ⟨.normal,[t4,t5,t7,t8,t9,t10,t35,t36,t37,t42,t43,t68,t90],r6.2.1,r6.2.2,df⟩
  else none))
  (some ⟨.normal,[t4,t5,t7,t8,t9,t10,t35,t36,t37,t42,t43,t68,t90],r2.2.1,r2.2.2,df⟩):Option (Rt H)).bind fun r7 =>
 cond (Z0u r7.e .normal)
  ((Z00 P .add 3 (r7.v 12) (.int .i64 1)).bind fun t147 =>
  some ⟨.normal,[r7.v 0,r7.v 1,r7.v 2,r7.v 3,r7.v 4,r7.v 5,r7.v 6,r7.v 7,r7.v 8,r7.v 9,r7.v 10,r7.v 11,t147],r7.h,(r7.c+1),r7.df⟩)
  (none))
 (some ⟨(.exit 6),[t4,t5,t7,t8,t9,t10,t35,t36,t37,t42,t43,t68,t90],h,(c+1),df⟩)
theorem Z2u (o:Orc H) (rd:Option Nat) (t4 t5 t7 t8 t9 t10 t35 t36 t37 t42 t43 t68 t90:Value) (h:H) (c:Nat) (df:List Nat):jx P o 152 rd Z35 (Z0i [4,5,7,8,9,10,35,36,37,42,43,68,90] [t4,t5,t7,t8,t9,t10,t35,t36,t37,t42,t43,t68,t90]) h c df (Klp [4,5,7,8,9,10,35,36,37,42,43,68,90])=Z39 o rd t4 t5 t7 t8 t9 t10 t35 t36 t37 t42 t43 t68 t90 h c df:=by kernel_rfl
noncomputable def Z3a (o:Orc H) (rd:Option Nat) (t4 t5 t7 t8 t9 t35 t36 t37 t42 t43 t68:Value) (h:H) (c:Nat) (df:List Nat):Option (Rt H) :=
 (Z00 P .lss 3 t68 (.int .i64 4)).bind fun t69 =>
 Z08 t69
 (((Z00 P .eql 3 t68 t7).bind fun t73 =>
  Z08 t73
   (some ⟨.normal,[t4,t5,t7,t8,t9,t35,t36,t37,t42,t43,t68],h,(c+1+1+1),df⟩)
   ((Z0c t4).bind fun t75 =>
   (Z02 t75 1).bind fun t76 =>
   (Z02 t76 0).bind fun t77 =>
   (Z00 P .mul 3 (.int .i64 4) t5).bind fun t79 =>
   (Z00 P .add 3 t79 t68).bind fun t81 =>
   (Z02 t8 0).bind fun t82 =>
   (ld1 h t82).bind fun t83 =>
   (Z00 P .mul 3 (.int .i64 4) t83).bind fun t84 =>
   (ixA 4 1 t9 t68).bind fun t86 =>
   (ld1 h t86).bind fun t87 =>
   (Z00 P .add 3 t84 t87).bind fun t88 =>
   (callF o 67 [t77,t81,t88] h (c+1+1+1+1)).bind fun r0 =>
   (o (Z9H rd) [t4,t5,t7,t8,t9,t68,t35,t36,t37,t42,t43,t68,(.int .i64 0)] r0.2.1 (r0.2.2+1) df).bind fun r1 =>
   cond (Z0u r1.e (.exit 6))
    (some ⟨.normal,[r1.v 0,r1.v 1,r1.v 2,r1.v 3,r1.v 4,r1.v 6,r1.v 7,r1.v 8,r1.v 9,r1.v 10,r1.v 11],r1.h,r1.c,r1.df⟩)
    (none)):Option (Rt H)).bind fun r2 =>
 cond (Z0u r2.e .normal)
  ((Z00 P .add 3 (r2.v 10) (.int .i64 1)).bind fun t148 =>
  some ⟨.normal,[r2.v 0,r2.v 1,r2.v 2,r2.v 3,r2.v 4,r2.v 5,r2.v 6,r2.v 7,r2.v 8,r2.v 9,t148],r2.h,(r2.c+1),r2.df⟩)
  (none))
 (some ⟨(.exit 4),[t4,t5,t7,t8,t9,t35,t36,t37,t42,t43,t68],h,(c+1),df⟩)
theorem Z2v (o:Orc H) (rd:Option Nat) (t4 t5 t7 t8 t9 t35 t36 t37 t42 t43 t68:Value) (h:H) (c:Nat) (df:List Nat):jx P o 152 rd Z36 (Z0i [4,5,7,8,9,35,36,37,42,43,68] [t4,t5,t7,t8,t9,t35,t36,t37,t42,t43,t68]) h c df (Klp [4,5,7,8,9,35,36,37,42,43,68])=Z3a o rd t4 t5 t7 t8 t9 t35 t36 t37 t42 t43 t68 h c df:=by kernel_rfl
noncomputable def Z3b (o:Orc H) (rd:Option Nat) (t4 t5 t35 t36 t37 t42 t43:Value) (h:H) (c:Nat) (df:List Nat):Option (Rt H) :=
 (Z00 P .lss 3 t43 (.int .i64 4)).bind fun t44 =>
 Z08 t44
 (((ixV 4 true 5 t42 t43).bind fun t46 =>
  (stN (newB h (256*(c+1)+2) [(.int .i64 0),(.int .i64 0),(.int .i64 0),(.int .i64 0),(.int .i64 0)]) 5 (ptrTo (256*(c+1)+2)) t46).bind fun h1 =>
  (Z02 (ptrTo (256*(c+1)+2)) 0).bind fun t47 =>
  (ld1 h1 t47).bind fun t48 =>
  (Z00 P .lss 3 t48 (.int .i64 0)).bind fun t49 =>
  Z08 t49
   (some ⟨.normal,[t4,t5,t35,t36,t37,t42,t43],h1,(c+1+1+1),df⟩)
   ((Z02 (ptrTo (256*(c+1)+2)) 1).bind fun t50 =>
   (ldN h1 4 t50).bind fun t51 =>
   (stN (newB h1 (256*(c+1+1+1)+2) [(.int .i64 0),(.int .i64 0),(.int .i64 0),(.int .i64 0)]) 4 (ptrTo (256*(c+1+1+1)+2)) t51).bind fun h3 =>
   (Z0c t4).bind fun t53 =>
   (Z02 t53 4).bind fun t54 =>
   (Z02 t54 0).bind fun t55 =>
   (Z00 P .mul 3 (.int .i64 4) t5).bind fun t57 =>
   (Z00 P .add 3 t57 t43).bind fun t59 =>
   (Z02 (ptrTo (256*(c+1)+2)) 0).bind fun t60 =>
   (ld1 h3 t60).bind fun t61 =>
   (Z00 P .mul 3 (.int .i64 4) t61).bind fun t62 =>
   (ixA 4 1 (ptrTo (256*(c+1+1+1)+2)) t43).bind fun t64 =>
   (ld1 h3 t64).bind fun t65 =>
   (Z00 P .add 3 t62 t65).bind fun t66 =>
   (callF o 67 [t55,t59,t66] h3 (c+1+1+1+1+1)).bind fun r4 =>
   (o (Z9I rd) [t4,t5,t43,(ptrTo (256*(c+1)+2)),(ptrTo (256*(c+1+1+1)+2)),t35,t36,t37,t42,t43,(.int .i64 0)] r4.2.1 (r4.2.2+1) df).bind fun r5 =>
   cond (Z0u r5.e (.exit 4))
    (some ⟨.normal,[r5.v 0,r5.v 1,r5.v 5,r5.v 6,r5.v 7,r5.v 8,r5.v 9],r5.h,r5.c,r5.df⟩)
    (none)):Option (Rt H)).bind fun r6 =>
 cond (Z0u r6.e .normal)
  ((Z00 P .add 3 (r6.v 6) (.int .i64 1)).bind fun t149 =>
  some ⟨.normal,[r6.v 0,r6.v 1,r6.v 2,r6.v 3,r6.v 4,r6.v 5,t149],r6.h,(r6.c+1),r6.df⟩)
  (none))
 (some ⟨(.exit 2),[t4,t5,t35,t36,t37,t42,t43],h,(c+1),df⟩)
theorem Z2w (o:Orc H) (rd:Option Nat) (t4 t5 t35 t36 t37 t42 t43:Value) (h:H) (c:Nat) (df:List Nat):jx P o 152 rd Z37 (Z0i [4,5,35,36,37,42,43] [t4,t5,t35,t36,t37,t42,t43]) h c df (Klp [4,5,35,36,37,42,43])=Z3b o rd t4 t5 t35 t36 t37 t42 t43 h c df:=by kernel_rfl
noncomputable def Z46 (o:Orc H) (rd:Option Nat) (t4 t35 t36 t37:Value) (h:H) (c:Nat) (df:List Nat):Option (Rt H) :=
 (Z00 P .lss 3 t37 t36).bind fun t38 =>
 Z08 t38
 ((ixS 20 t35 t37).bind fun t40 =>
 (ldN h 20 t40).bind fun t41 =>
 (stN (newB h (256*(c+1)+3) [(.int .i64 0),(.int .i64 0),(.int .i64 0),(.int .i64 0),(.int .i64 0),(.int .i64 0),(.int .i64 0),(.int .i64 0),(.int .i64 0),(.int .i64 0),(.int .i64 0),(.int .i64 0),(.int .i64 0),(.int .i64 0),(.int .i64 0),(.int .i64 0),(.int .i64 0),(.int .i64 0),(.int .i64 0),(.int .i64 0)]) 20 (ptrTo (256*(c+1)+3)) t41).bind fun h1 =>
 (ldN h1 20 (ptrTo (256*(c+1)+3))).bind fun t42 =>
 (o (Z9J rd) [t4,t37,t35,t36,t37,t42,(.int .i64 0)] h1 (c+1+1+1) df).bind fun r2 =>
 cond (Z0u r2.e (.exit 2))
  ((Z00 P .add 3 (r2.v 4) (.int .i64 1)).bind fun t150 =>
  some ⟨.normal,[r2.v 0,r2.v 2,r2.v 3,t150],r2.h,(r2.c+1),r2.df⟩)
  (none))
 (some ⟨(.exit 0),[t4,t35,t36,t37],h,(c+1),df⟩)
theorem Z4A (o:Orc H) (rd:Option Nat) (t4 t35 t36 t37:Value) (h:H) (c:Nat) (df:List Nat):jx P o 152 rd Z38 (Z0i [4,35,36,37] [t4,t35,t36,t37]) h c df (Klp [4,35,36,37])=Z46 o rd t4 t35 t36 t37 h c df:=by kernel_rfl
noncomputable def Zhn (o:Orc H) (t0:Value) (h:H) (c:Nat):Option (Rt H) :=
 (bif (t0:Value).cells.toList.all Z06 then
 (Z02 (ptrTo (256*c+0)) 0).bind fun t12 =>
 (ld1 (newB h (256*c+0) (t0:Value).cells.toList) t12).bind fun t13 =>
 (Z2m t13).bind fun t14 =>
 (ldN (newB h (256*c+0) (t0:Value).cells.toList) 1 (ptrTo (256*c+0))).bind fun t15 =>
 (Z00 P .mul 3 (.int .i64 4) t14).bind fun t17 =>
 (callF o 66 [t17] (newB h (256*c+0) (t0:Value).cells.toList) (c+1+1+1)).bind fun r0 =>
 (Z1d [(.slice none 0 0)] [(0,1,r0.1)]).bind fun t19 =>
 (Z00 P .mul 3 (.int .i64 16) t14).bind fun t21 =>
 (callF o 66 [t21] r0.2.1 r0.2.2).bind fun r1 =>
 (Z1d [(.slice none 0 0)] [(0,1,r1.1)]).bind fun t23 =>
 (Z00 P .mul 3 (.int .i64 6) t14).bind fun t25 =>
 (callF o 66 [t25] r1.2.1 r1.2.2).bind fun r2 =>
 (Z1d [(.slice none 0 0)] [(0,1,r2.1)]).bind fun t27 =>
 (Z00 P .mul 3 (.int .i64 4) t14).bind fun t29 =>
 (callF o 66 [t29] r2.2.1 r2.2.2).bind fun r3 =>
 (Z1d [(.slice none 0 0)] [(0,1,r3.1)]).bind fun t31 =>
 (Z1d [(.slice none 0 0),(.slice none 0 0),(.slice none 0 0),(.slice none 0 0),(.slice none 0 0)] [(0,1,t15),(1,1,t19),(2,1,t23),(3,1,t27),(4,1,t31)]).bind fun t32 =>
 (bif (t32:Value).cells.toList.all Z06 then
 (bif (Z19 (Z2g (ptrTo (256*c+0))) (newB h (256*c+0) (t0:Value).cells.toList) r0.2.1 && (Z19 (Z2g (ptrTo (256*c+0))) r0.2.1 r1.2.1 && (Z19 (Z2g (ptrTo (256*c+0))) r1.2.1 r2.2.1 && (Z19 (Z2g (ptrTo (256*c+0))) r2.2.1 r3.2.1 && true)))) then
 (Z02 (ptrTo (256*c+0)) 0).bind fun t34 =>
 (ld1 (newB r3.2.1 (256*(c+1+1)+18) (t32:Value).cells.toList) t34).bind fun t35 =>
 (Z2m t35).bind fun t36 =>
 (o (Z9K none) [(ptrTo (256*(c+1+1)+18)),t35,t36,(.int .i64 0)] (newB r3.2.1 (256*(c+1+1)+18) (t32:Value).cells.toList) (r3.2.2+1) []).bind fun r4 =>
 cond (Z0u r4.e (.exit 0))
 ((Z07 r4.h r4.df).bind fun h5 =>
 some ⟨.ret,[r4.v 0],h5,(r4.c+1),[]⟩)
 (none)
 else none)
 else none)
 else none)
theorem Zel (o:Orc H) (t0:Value) (h:H) (c:Nat):jx P o 152 none f40_c (Z0i (List.range 1) [t0]) h c [] (Kfn P Try.f40.results.toList)=Zhn o t0 h c:=by kernel_rfl
theorem f40_go {t0:Value} {h:FH} {c:Nat} {df:List Nat} {r:Rt FH} (e:Zhn G t0 h c=some r):G (.fn 40) [t0] h c df=some r:=Z0r (a:=ZcJ) bk_40 rfl (fun args h c=>by cases args <;> rfl) rfl ((Zel G t0 h c).trans e)
noncomputable def Z45 (o:Orc H) (rd:Option Nat) (t0 t4 t5 t15 t16:Value) (h:H) (c:Nat) (df:List Nat):Option (Rt H) :=
 (Z00 P .lss 3 t16 t15).bind fun t17 =>
 Z08 t17
 ((callF o 68 [t0,t16] h (c+1+1+1)).bind fun r0 =>
 (Z00 P .eql 3 r0.1 t16).bind fun t24 =>
 (Z08 t24
  ((ixS 1 t4 t16).bind fun t28 =>
  (stN r0.2.1 1 t28 t5).bind fun h2 =>
  (Z00 P .add 3 t5 (.int .i64 1)).bind fun t30 =>
  some ⟨.normal,[t0,t4,t30,t15,t16],h2,(r0.2.2+1+1+1),df⟩)
  ((ixS 1 t4 r0.1).bind fun t35 =>
  (ld1 r0.2.1 t35).bind fun t36 =>
  (ixS 1 t4 t16).bind fun t37 =>
  (stN r0.2.1 1 t37 t36).bind fun h5 =>
  some ⟨.normal,[t0,t4,t5,t15,t16],h5,(r0.2.2+1+1),df⟩):Option (Rt H)).bind fun r6 =>
 cond (Z0u r6.e .normal)
  ((Z00 P .add 3 (r6.v 4) (.int .i64 1)).bind fun t38 =>
  some ⟨.normal,[r6.v 0,r6.v 1,r6.v 2,r6.v 3,t38],r6.h,(r6.c+1),r6.df⟩)
  (none))
 (some ⟨(.exit 0),[t0,t4,t5,t15,t16],h,(c+1),df⟩)
theorem Z4z (o:Orc H) (rd:Option Nat) (t0 t4 t5 t15 t16:Value) (h:H) (c:Nat) (df:List Nat):jx P o 41 rd Z34 (Z0i [0,4,5,15,16] [t0,t4,t5,t15,t16]) h c df (Klp [0,4,5,15,16])=Z45 o rd t0 t4 t5 t15 t16 h c df:=by kernel_rfl
noncomputable def Zhm (o:Orc H) (t0:Value) (h:H) (c:Nat):Option (Rt H) :=
 (Z0c t0).bind fun t9 =>
 (Z02 t9 0).bind fun t10 =>
 (ld1 h t10).bind fun t11 =>
 (Z2m t11).bind fun t12 =>
 (mkS 1 8 [(.int .i64 0)] t12 t12).bind fun r0 =>
 (Z2m (.slice (some ⟨(256*(c+1)+5),0,none⟩) r0.2.1 r0.2.2)).bind fun t15 =>
 (o (Z9G none) [t0,(.slice (some ⟨(256*(c+1)+5),0,none⟩) r0.2.1 r0.2.2),(.int .i64 0),t15,(.int .i64 0)] (newB h (256*(c+1)+5) r0.1) (c+1+1+1+1) []).bind fun r1 =>
 cond (Z0u r1.e (.exit 0))
 ((Z07 r1.h r1.df).bind fun h2 =>
 some ⟨.ret,[.tuple #[r1.v 1,r1.v 2]],h2,(r1.c+1),[]⟩)
 (none)
theorem Zek (o:Orc H) (t0:Value) (h:H) (c:Nat):jx P o 41 none f41_c (Z0i (List.range 1) [t0]) h c [] (Kfn P Try.f41.results.toList)=Zhm o t0 h c:=by kernel_rfl
theorem f41_go {t0:Value} {h:FH} {c:Nat} {df:List Nat} {r:Rt FH} (e:Zhm G t0 h c=some r):G (.fn 41) [t0] h c df=some r:=Z0r (a:=ZcI) bk_41 rfl (fun args h c=>by cases args <;> rfl) rfl ((Zek G t0 h c).trans e)
noncomputable def Z75 (o:Orc H) (rd:Option Nat) (t2 t3 t4 t18 t19 t20 t24 t25:Value) (h:H) (c:Nat) (df:List Nat):Option (Rt H) :=
 (Z00 P .lss 3 t25 (.int .i64 4)).bind fun t26 =>
 Z08 t26
 ((ixV 4 true 5 t24 t25).bind fun t27 =>
 (stN (newB h (256*(c+1)+1) [(.int .i64 0),(.int .i64 0),(.int .i64 0),(.int .i64 0),(.int .i64 0)]) 5 (ptrTo (256*(c+1)+1)) t27).bind fun h1 =>
 (Z02 t4 0).bind fun t28 =>
 (ld1 h1 t28).bind fun t29 =>
 (gd t29 false h1 (c+1+1+1) (Z02 (ptrTo (256*(c+1)+1)) 0)).bind fun r2 =>
 (gd t29 false r2.2.1 r2.2.2 (ld1 r2.2.1 r2.1)).bind fun r3 =>
 (gd t29 false r3.2.1 r3.2.2 (Z00 P .lss 3 r3.1 (.int .i64 0))).bind fun r4 =>
 (Z0H t29 (.bool true) r4.1).bind fun t34 =>
 (Z02 t4 0).bind fun t35 =>
 (stN r4.2.1 1 t35 t34).bind fun h6 =>
 (Z00 P .add 3 t25 (.int .i64 1)).bind fun t36 =>
 some ⟨.normal,[t2,t3,t4,t18,t19,t20,t24,t36],h6,(r4.2.2+1),df⟩)
 (some ⟨(.exit 2),[t2,t3,t4,t18,t19,t20,t24,t25],h,(c+1),df⟩)
theorem ZaV (o:Orc H) (rd:Option Nat) (t2 t3 t4 t18 t19 t20 t24 t25:Value) (h:H) (c:Nat) (df:List Nat):jx P o 90 rd Z32 (Z0i [2,3,4,18,19,20,24,25] [t2,t3,t4,t18,t19,t20,t24,t25]) h c df (Klp [2,3,4,18,19,20,24,25])=Z75 o rd t2 t3 t4 t18 t19 t20 t24 t25 h c df:=by kernel_rfl
noncomputable def Z76 (o:Orc H) (rd:Option Nat) (t2 t3 t4 t18 t19 t20:Value) (h:H) (c:Nat) (df:List Nat):Option (Rt H) :=
 (Z00 P .lss 3 t20 t19).bind fun t21 =>
 Z08 t21
 ((ixS 20 t18 t20).bind fun t22 =>
 (ldN h 20 t22).bind fun t23 =>
 (stN (newB h (256*(c+1)+2) [(.int .i64 0),(.int .i64 0),(.int .i64 0),(.int .i64 0),(.int .i64 0),(.int .i64 0),(.int .i64 0),(.int .i64 0),(.int .i64 0),(.int .i64 0),(.int .i64 0),(.int .i64 0),(.int .i64 0),(.int .i64 0),(.int .i64 0),(.int .i64 0),(.int .i64 0),(.int .i64 0),(.int .i64 0),(.int .i64 0)]) 20 (ptrTo (256*(c+1)+2)) t23).bind fun h1 =>
 (ldN h1 20 (ptrTo (256*(c+1)+2))).bind fun t24 =>
 (o (ZfH rd) [t2,t3,t4,t18,t19,t20,t24,(.int .i64 0)] h1 (c+1+1+1) df).bind fun r2 =>
 cond (Z0u r2.e (.exit 2))
  ((Z00 P .add 3 (r2.v 5) (.int .i64 1)).bind fun t37 =>
  some ⟨.normal,[r2.v 0,r2.v 1,r2.v 2,r2.v 3,r2.v 4,t37],r2.h,(r2.c+1),r2.df⟩)
  (none))
 (some ⟨(.exit 0),[t2,t3,t4,t18,t19,t20],h,(c+1),df⟩)
theorem ZaW (o:Orc H) (rd:Option Nat) (t2 t3 t4 t18 t19 t20:Value) (h:H) (c:Nat) (df:List Nat):jx P o 90 rd Z33 (Z0i [2,3,4,18,19,20] [t2,t3,t4,t18,t19,t20]) h c df (Klp [2,3,4,18,19,20])=Z76 o rd t2 t3 t4 t18 t19 t20 h c df:=by kernel_rfl
noncomputable def Z74 (o:Orc H) (rd:Option Nat) (t2 t3 t4 t39 t40 t41:Value) (h:H) (c:Nat) (df:List Nat):Option (Rt H) :=
 (Z00 P .lss 3 t41 t40).bind fun t42 =>
 Z08 t42
 ((ixS 1 t39 t41).bind fun t43 =>
 (ld1 h t43).bind fun t44 =>
 (Z02 t4 1).bind fun t45 =>
 (ld1 h t45).bind fun t46 =>
 (gd t46 false h (c+1+1+1) (some t44)).bind fun r0 =>
 (Z0H t46 (.bool true) r0.1).bind fun t49 =>
 (Z02 t4 1).bind fun t50 =>
 (stN r0.2.1 1 t50 t49).bind fun h2 =>
 (Z00 P .add 3 t41 (.int .i64 1)).bind fun t51 =>
 some ⟨.normal,[t2,t3,t4,t39,t40,t51],h2,(r0.2.2+1),df⟩)
 (some ⟨(.exit 4),[t2,t3,t4,t39,t40,t41],h,(c+1),df⟩)
theorem ZaU (o:Orc H) (rd:Option Nat) (t2 t3 t4 t39 t40 t41:Value) (h:H) (c:Nat) (df:List Nat):jx P o 90 rd Z31 (Z0i [2,3,4,39,40,41] [t2,t3,t4,t39,t40,t41]) h c df (Klp [2,3,4,39,40,41])=Z74 o rd t2 t3 t4 t39 t40 t41 h c df:=by kernel_rfl
noncomputable def Z73 (o:Orc H) (rd:Option Nat) (t2 t4 t53 t54 t55:Value) (h:H) (c:Nat) (df:List Nat):Option (Rt H) :=
 (Z00 P .lss 3 t55 t54).bind fun t56 =>
 Z08 t56
 ((ixS 6 t53 t55).bind fun t57 =>
 (ldN h 6 t57).bind fun t58 =>
 (stN (newB h (256*(c+1)+2) [(.int .i64 0),(.int .i64 0),(.int .i64 0),(.int .i64 0),(.bool false),(.bool false)]) 6 (ptrTo (256*(c+1)+2)) t58).bind fun h1 =>
 (Z02 (ptrTo (256*(c+1)+2)) 4).bind fun t59 =>
 (ld1 h1 t59).bind fun t60 =>
 (gd t60 true h1 (c+1+1+1) (Z02 (ptrTo (256*(c+1)+2)) 3)).bind fun r2 =>
 (gd t60 true r2.2.1 r2.2.2 (ld1 r2.2.1 r2.1)).bind fun r3 =>
 (gd t60 true r3.2.1 r3.2.2 (Z00 P .eql 3 r3.1 (.int .i64 2))).bind fun r4 =>
 (Z0H t60 r4.1 (.bool false)).bind fun t65 =>
 (Z02 t4 2).bind fun t66 =>
 (ld1 r4.2.1 t66).bind fun t67 =>
 (gd t67 true r4.2.1 (r4.2.2+1) (some t65)).bind fun r5 =>
 (Z0H t67 r5.1 (.bool false)).bind fun t70 =>
 (Z02 t4 2).bind fun t71 =>
 (stN r5.2.1 1 t71 t70).bind fun h7 =>
 (Z02 t4 3).bind fun t72 =>
 (ld1 h7 t72).bind fun t73 =>
 (gd t73 true h7 (r5.2.2+1) (some t65)).bind fun r8 =>
 (gd t73 true r8.2.1 r8.2.2 (some r8.1)).bind fun r9 =>
 (gd r9.1 false r9.2.1 r9.2.2 (Z02 (ptrTo (256*(c+1)+2)) 4)).bind fun r10 =>
 (gd r9.1 false r10.2.1 r10.2.2 (ld1 r10.2.1 r10.1)).bind fun r11 =>
 (gd r9.1 false r11.2.1 r11.2.2 (Z1V .not r11.1)).bind fun r12 =>
 (gd r9.1 false r12.2.1 r12.2.2 (some r12.1)).bind fun r13 =>
 (gd r13.1 true r13.2.1 r13.2.2 (Z02 (ptrTo (256*(c+1)+2)) 3)).bind fun r14 =>
 (gd r13.1 true r14.2.1 r14.2.2 (ld1 r14.2.1 r14.1)).bind fun r15 =>
 (gd r13.1 true r15.2.1 r15.2.2 (Z00 P .eql 3 r15.1 (.int .i64 1))).bind fun r16 =>
 (gg r9.1 false r16.2.1 r16.2.2 (ZeQ r16.2.1 r16.2.2 r13.1 r16.1 (.bool false))).bind fun r17 =>
 (gg t73 true r17.2.1 r17.2.2 (ZeQ r17.2.1 r17.2.2 r9.1 (.bool true) r17.1)).bind fun r18 =>
 (Z0H t73 r18.1 (.bool false)).bind fun t86 =>
 (Z02 t4 3).bind fun t87 =>
 (stN r18.2.1 1 t87 t86).bind fun h20 =>
 (Z00 P .add 3 t55 (.int .i64 1)).bind fun t88 =>
 some ⟨.normal,[t2,t4,t53,t54,t88],h20,(r18.2.2+1),df⟩)
 (some ⟨(.exit 6),[t2,t4,t53,t54,t55],h,(c+1),df⟩)
theorem ZaT (o:Orc H) (rd:Option Nat) (t2 t4 t53 t54 t55:Value) (h:H) (c:Nat) (df:List Nat):jx P o 90 rd Z30 (Z0i [2,4,53,54,55] [t2,t4,t53,t54,t55]) h c df (Klp [2,4,53,54,55])=Z73 o rd t2 t4 t53 t54 t55 h c df:=by kernel_rfl
noncomputable def ZmN (o:Orc H) (t0:Value) (h:H) (c:Nat):Option (Rt H) :=
 (bif (t0:Value).cells.toList.all Z06 then
 (ldN (newB (newB h (256*c+0) (t0:Value).cells.toList) (256*c+1) [(.bool false),(.bool false),(.bool false),(.bool false)]) 1 (ptrTo (256*c+0))).bind fun t14 =>
 (callF o 39 [t14] (newB (newB h (256*c+0) (t0:Value).cells.toList) (256*c+1) [(.bool false),(.bool false),(.bool false),(.bool false)]) (c+1+1)).bind fun r0 =>
 (stN (newB r0.2.1 (256*(c+1)+2) [(.slice none 0 0),(.slice none 0 0),(.slice none 0 0),(.slice none 0 0),(.slice none 0 0),(.slice none 0 0)]) 6 (ptrTo (256*(c+1)+2)) r0.1).bind fun h2 =>
 (Z1d [(.bool false),(.bool false),(.bool false),(.bool false)] [(2,1,(.bool true)),(3,1,(.bool true))]).bind fun t16 =>
 (stN (newB h2 (256*r0.2.2+1) [(.bool false),(.bool false),(.bool false),(.bool false)]) 4 (ptrTo (256*r0.2.2+1)) t16).bind fun h4 =>
 (Z02 (ptrTo (256*c+0)) 0).bind fun t17 =>
 (ld1 h4 t17).bind fun t18 =>
 (Z2m t18).bind fun t19 =>
 (o (ZfI none) [(ptrTo (256*c+1)),(ptrTo (256*(c+1)+2)),(ptrTo (256*r0.2.2+1)),t18,t19,(.int .i64 0)] h4 (r0.2.2+1+1) []).bind fun r5 =>
 cond (Z0u r5.e (.exit 0))
 ((Z02 (r5.v 1) 4).bind fun t38 =>
 (ld1 r5.h t38).bind fun t39 =>
 (Z2m t39).bind fun t40 =>
 (o (ZfG none) [r5.v 0,r5.v 1,r5.v 2,t39,t40,(.int .i64 0)] r5.h (r5.c+1) r5.df).bind fun r6 =>
 cond (Z0u r6.e (.exit 4))
  ((Z02 (r6.v 1) 5).bind fun t52 =>
  (ld1 r6.h t52).bind fun t53 =>
  (Z2m t53).bind fun t54 =>
  (o (ZfF none) [r6.v 0,r6.v 2,t53,t54,(.int .i64 0)] r6.h (r6.c+1) r6.df).bind fun r7 =>
  cond (Z0u r7.e (.exit 6))
   ((ldN r7.h 4 (r7.v 1)).bind fun t89 =>
   (stN r7.h 4 (r7.v 0) t89).bind fun h9 =>
   (Z07 h9 r7.df).bind fun h10 =>
   (ldN h10 4 (r7.v 0)).bind fun v11 =>
   some ⟨.ret,[v11],h10,(r7.c+1),[]⟩)
   (none))
  (none))
 (none)
 else none)
theorem Zko (o:Orc H) (t0:Value) (h:H) (c:Nat):jx P o 90 none f42_c (Z0i (List.range 1) [t0]) h c [] (Kfn P Try.f42.results.toList)=ZmN o t0 h c:=by kernel_rfl
noncomputable def ZmM (o:Orc H) (h:H) (c:Nat):Option (Rt H) :=
 (Z1d [(.int .i64 0),.nilFunc] [(0,1,(.int .i64 4)),(1,1,(.func (.func 69) #[] #[]))]).bind fun t1 =>
 (Z1d [(.int .i64 0),.nilFunc] [(0,1,(.int .i64 1)),(1,1,(.func (.func 70) #[] #[]))]).bind fun t2 =>
 (Z1d [(.int .i64 0),.nilFunc] [(0,1,(.int .i64 2)),(1,1,(.func (.func 71) #[] #[]))]).bind fun t3 =>
 (Z1d [(.int .i64 0),.nilFunc] [(0,1,(.int .i64 3)),(1,1,(.func (.func 72) #[] #[]))]).bind fun t4 =>
 (Z1d [(.int .i64 0),.nilFunc,(.int .i64 0),.nilFunc,(.int .i64 0),.nilFunc,(.int .i64 0),.nilFunc] [(0,2,t1),(2,2,t2),(4,2,t3),(6,2,t4)]).bind fun t5 =>
 (stN (newB h (256*c+0) [(.int .i64 0),.nilFunc,(.int .i64 0),.nilFunc,(.int .i64 0),.nilFunc,(.int .i64 0),.nilFunc]) 8 (ptrTo (256*c+0)) t5).bind fun h1 =>
 (ldN h1 8 (ptrTo (256*c+0))).bind fun v2 =>
 some ⟨.ret,[v2],h1,(c+1+1),[]⟩
theorem Zkn (o:Orc H) (h:H) (c:Nat):jx P o 6 none f43_c (Z0i (List.range 0) []) h c [] (Kfn P Try.f43.results.toList)=ZmM o h c:=by kernel_rfl
noncomputable def Z1b (o:Orc H) (rd:Option Nat) (t1 t2 t3 t4:Value) (h:H) (c:Nat) (df:List Nat):Option (Rt H) :=
 (Z00 P .lss 3 t4 (.int .i64 4)).bind fun t6 =>
 Z08 t6
 ((ixA 4 1 t1 t4).bind fun t10 =>
 (ld1 h t10).bind fun t11 =>
 (Z00 P .lss 3 t11 (.int .i64 0)).bind fun t12 =>
 (gd t12 false h (c+1+1) (some t4)).bind fun r0 =>
 (gd t12 false r0.2.1 r0.2.2 (ixA 4 1 t1 r0.1)).bind fun r1 =>
 (gd t12 false r1.2.1 r1.2.2 (ld1 r1.2.1 r1.1)).bind fun r2 =>
 (gd t12 false r2.2.1 r2.2.2 (Z00 P .gtr 3 r2.1 (.int .i64 3))).bind fun r3 =>
 (Z0H t12 (.bool true) r3.1).bind fun t18 =>
 (gd t18 false r3.2.1 r3.2.2 (some t4)).bind fun r4 =>
 (gd t18 false r4.2.1 r4.2.2 (ixA 4 1 t1 r4.1)).bind fun r5 =>
 (gd t18 false r5.2.1 r5.2.2 (ld1 r5.2.1 r5.1)).bind fun r6 =>
 (gd t18 false r6.2.1 r6.2.2 (ixA 4 1 t3 r6.1)).bind fun r7 =>
 (gd t18 false r7.2.1 r7.2.2 (ld1 r7.2.1 r7.1)).bind fun r8 =>
 (Z0H t18 (.bool true) r8.1).bind fun t25 =>
 Z08 t25
  (some ⟨.ret,[t1,(.bool false),t3,t4],r8.2.1,(r8.2.2+1),df⟩)
  ((ixA 4 1 t1 t4).bind fun t27 =>
  (ld1 r8.2.1 t27).bind fun t28 =>
  (ixA 4 1 t3 t28).bind fun t29 =>
  (stN r8.2.1 1 t29 (.bool true)).bind fun h11 =>
  (Z00 P .add 3 t4 (.int .i64 1)).bind fun t8 =>
  some ⟨.normal,[t1,t2,t3,t8],h11,(r8.2.2+1+1),df⟩))
 (some ⟨(.exit 0),[t1,t2,t3,t4],h,(c+1),df⟩)
theorem Z4y (o:Orc H) (rd:Option Nat) (t1 t2 t3 t4:Value) (h:H) (c:Nat) (df:List Nat):jx P o 30 rd Z2Z (Z0i [1,2,3,4] [t1,t2,t3,t4]) h c df (Klp [1,2,3,4])=Z1b o rd t1 t2 t3 t4 h c df:=by kernel_rfl
noncomputable def Zhl (o:Orc H) (t0:Value) (h:H) (c:Nat):Option (Rt H) :=
 (bif (t0:Value).cells.toList.all Z06 then
 (o (Z44 none) [(ptrTo (256*c+0)),(.bool false),(ptrTo (256*(c+1)+0)),(.int .i64 0)] (newB (newB h (256*c+0) (t0:Value).cells.toList) (256*(c+1)+0) [(.bool false),(.bool false),(.bool false),(.bool false)]) (c+1+1+1) []).bind fun r0 =>
 cond (Z0u r0.e (.exit 0))
 ((Z07 r0.h r0.df).bind fun h2 =>
 some ⟨.ret,[(.bool true)],h2,(r0.c+1),[]⟩)
 (cond (Z0u r0.e .ret)
  ((Z07 r0.h r0.df).bind fun h1 =>
  some ⟨.ret,[r0.v 1],h1,r0.c,[]⟩)
  (none))
 else none)
theorem Zej (o:Orc H) (t0:Value) (h:H) (c:Nat):jx P o 30 none f44_c (Z0i (List.range 1) [t0]) h c [] (Kfn P Try.f44.results.toList)=Zhl o t0 h c:=by kernel_rfl
theorem f44_go {t0:Value} {h:FH} {c:Nat} {df:List Nat} {r:Rt FH} (e:Zhl G t0 h c=some r):G (.fn 44) [t0] h c df=some (gcR h c [] r):=Z0r (a:=ZcH) bk_44 rfl (fun args h c=>by cases args <;> rfl) rfl ((Zej G t0 h c).trans e)
theorem ZfD {rd:Option Nat} {t1 t2 t3 t4:Value} {h:FH} {c:Nat} {df:List Nat} {q r:Rt FH} (e:Z1b G rd t1 t2 t3 t4 h c df=some q) (hq:q.e = .normal) (k:G (Z44 rd) q.vs (gcR h c df q).h (gcR h c df q).c q.df=some r):G (Z44 rd) [t1,t2,t3,t4] h c df=some r:=Z0D ((Z4y G rd t1 t2 t3 t4 h c df).trans e) hq k
theorem Z5f {rd:Option Nat} {t1 t2 t3 t4:Value} {h:FH} {c:Nat} {df:List Nat} {q:Rt FH} (e:Z1b G rd t1 t2 t3 t4 h c df=some q) (hq:q.e ≠ .normal):G (Z44 rd) [t1,t2,t3,t4] h c df=some (gcR h c df q):=Z0E ((Z4y G rd t1 t2 t3 t4 h c df).trans e) hq

variable {H:Type} [HeapC H]
noncomputable def Z22 (o:Orc H) (rd:Option Nat) (t1 t2 t3 t4:Value) (h:H) (c:Nat) (df:List Nat):Option (Rt H) :=
 (Z00 P .lss 3 t4 (.int .i64 4)).bind fun t10 =>
 Z08 t10
 ((ixA 4 1 t1 t4).bind fun t14 =>
 (ld1 h t14).bind fun t15 =>
 (ixA 4 1 t3 t15).bind fun t17 =>
 (stN h 1 t17 t4).bind fun h1 =>
 (Z00 P .add 3 t4 (.int .i64 1)).bind fun t12 =>
 some ⟨.normal,[t1,t2,t3,t12],h1,(c+1+1+1),df⟩)
 (some ⟨(.exit 0),[t1,t2,t3,t4],h,(c+1),df⟩)
theorem Z4x (o:Orc H) (rd:Option Nat) (t1 t2 t3 t4:Value) (h:H) (c:Nat) (df:List Nat):jx P o 19 rd Z2Y (Z0i [1,2,3,4] [t1,t2,t3,t4]) h c df (Klp [1,2,3,4])=Z22 o rd t1 t2 t3 t4 h c df:=by kernel_rfl
noncomputable def Zhk (o:Orc H) (t0:Value) (h:H) (c:Nat):Option (Rt H) :=
 (bif (t0:Value).cells.toList.all Z06 then
 (ldN (newB (newB (newB h (256*c+0) (t0:Value).cells.toList) (256*c+1) [(.int .i64 0),(.int .i64 0),(.int .i64 0),(.int .i64 0)]) (256*(c+1)+0) [(.int .i64 0),(.int .i64 0),(.int .i64 0),(.int .i64 0)]) 4 (ptrTo (256*c+0))).bind fun t5 =>
 (callF o 44 [t5] (newB (newB (newB h (256*c+0) (t0:Value).cells.toList) (256*c+1) [(.int .i64 0),(.int .i64 0),(.int .i64 0),(.int .i64 0)]) (256*(c+1)+0) [(.int .i64 0),(.int .i64 0),(.int .i64 0),(.int .i64 0)]) (c+1+1+1)).bind fun r0 =>
 (Z1V .not r0.1).bind fun t7 =>
 Z08 t7
 ((ldN r0.2.1 4 (ptrTo (256*(c+1)+0))).bind fun t8 =>
 (stN r0.2.1 4 (ptrTo (256*c+1)) t8).bind fun h2 =>
 (ldN h2 4 (ptrTo (256*c+1))).bind fun v3 =>
 some ⟨.ret,[v3],h2,(r0.2.2+1),[]⟩)
 ((o (Z43 none) [(ptrTo (256*c+0)),(ptrTo (256*c+1)),(ptrTo (256*(c+1)+0)),(.int .i64 0)] r0.2.1 (r0.2.2+1) []).bind fun r4 =>
 cond (Z0u r4.e (.exit 0))
  ((ldN r4.h 4 (r4.v 2)).bind fun t18 =>
  (stN r4.h 4 (r4.v 1) t18).bind fun h6 =>
  (Z07 h6 r4.df).bind fun h7 =>
  (ldN h7 4 (r4.v 1)).bind fun v8 =>
  some ⟨.ret,[v8],h7,(r4.c+1),[]⟩)
  (none))
 else none)
theorem Zei (o:Orc H) (t0:Value) (h:H) (c:Nat):jx P o 19 none f45_c (Z0i (List.range 1) [t0]) h c [] (Kfn P Try.f45.results.toList)=Zhk o t0 h c:=by kernel_rfl
theorem f45_go {t0:Value} {h:FH} {c:Nat} {df:List Nat} {r:Rt FH} (e:Zhk G t0 h c=some r):G (.fn 45) [t0] h c df=some (gcR h c [] r):=Z0r (a:=ZcG) bk_45 rfl (fun args h c=>by cases args <;> rfl) rfl ((Zei G t0 h c).trans e)
theorem ZfC {rd:Option Nat} {t1 t2 t3 t4:Value} {h:FH} {c:Nat} {df:List Nat} {q r:Rt FH} (e:Z22 G rd t1 t2 t3 t4 h c df=some q) (hq:q.e = .normal) (k:G (Z43 rd) q.vs (gcR h c df q).h (gcR h c df q).c q.df=some r):G (Z43 rd) [t1,t2,t3,t4] h c df=some r:=Z0D ((Z4x G rd t1 t2 t3 t4 h c df).trans e) hq k
theorem ZfB {rd:Option Nat} {t1 t2 t3 t4:Value} {h:FH} {c:Nat} {df:List Nat} {q:Rt FH} (e:Z22 G rd t1 t2 t3 t4 h c df=some q) (hq:q.e ≠ .normal):G (Z43 rd) [t1,t2,t3,t4] h c df=some (gcR h c df q):=Z0E ((Z4x G rd t1 t2 t3 t4 h c df).trans e) hq
noncomputable def Z42 (o:Orc H) (rd:Option Nat) (t2 t3 t4 t5 t6:Value) (h:H) (c:Nat) (df:List Nat):Option (Rt H) :=
 (Z00 P .lss 3 t6 (.int .i64 4)).bind fun t17 =>
 Z08 t17
 ((ixA 4 1 t3 t6).bind fun t22 =>
 (ld1 h t22).bind fun t23 =>
 (ixA 4 1 t2 t23).bind fun t24 =>
 (ld1 h t24).bind fun t25 =>
 (ixA 4 1 t5 t6).bind fun t26 =>
 (stN h 1 t26 t25).bind fun h1 =>
 (Z00 P .add 3 t6 (.int .i64 1)).bind fun t19 =>
 some ⟨.normal,[t2,t3,t4,t5,t19],h1,(c+1+1+1),df⟩)
 (some ⟨(.exit 0),[t2,t3,t4,t5,t6],h,(c+1),df⟩)
theorem Z69 (o:Orc H) (rd:Option Nat) (t2 t3 t4 t5 t6:Value) (h:H) (c:Nat) (df:List Nat):jx P o 28 rd Z72 (Z0i [2,3,4,5,6] [t2,t3,t4,t5,t6]) h c df (Klp [2,3,4,5,6])=Z42 o rd t2 t3 t4 t5 t6 h c df:=by kernel_rfl
noncomputable def ZmK (o:Orc H) (t0 t1:Value) (h:H) (c:Nat):Option (Rt H) :=
 (bif (t0:Value).cells.toList.all Z06 then
 (bif (t1:Value).cells.toList.all Z06 then
 (ldN (newB (newB (newB (newB h (256*c+0) (t0:Value).cells.toList) (256*c+1) (t1:Value).cells.toList) (256*c+2) [(.int .i64 0),(.int .i64 0),(.int .i64 0),(.int .i64 0)]) (256*(c+1)+0) [(.int .i64 0),(.int .i64 0),(.int .i64 0),(.int .i64 0)]) 4 (ptrTo (256*c+0))).bind fun t7 =>
 (callF o 44 [t7] (newB (newB (newB (newB h (256*c+0) (t0:Value).cells.toList) (256*c+1) (t1:Value).cells.toList) (256*c+2) [(.int .i64 0),(.int .i64 0),(.int .i64 0),(.int .i64 0)]) (256*(c+1)+0) [(.int .i64 0),(.int .i64 0),(.int .i64 0),(.int .i64 0)]) (c+1+1+1)).bind fun r0 =>
 (Z1V .not r0.1).bind fun t9 =>
 (gd t9 false r0.2.1 r0.2.2 (ldN r0.2.1 4 (ptrTo (256*c+1)))).bind fun r1 =>
 (gg t9 false r1.2.1 r1.2.2 (callF o 44 [r1.1] r1.2.1 r1.2.2)).bind fun r2 =>
 (gd t9 false r2.2.1 r2.2.2 (Z1V .not r2.1)).bind fun r3 =>
 (Z0H t9 (.bool true) r3.1).bind fun t14 =>
 Z08 t14
 ((ldN r3.2.1 4 (ptrTo (256*(c+1)+0))).bind fun t15 =>
 (stN r3.2.1 4 (ptrTo (256*c+2)) t15).bind fun h5 =>
 (ldN h5 4 (ptrTo (256*c+2))).bind fun v6 =>
 some ⟨.ret,[v6],h5,(r3.2.2+1),[]⟩)
 ((o (Z41 none) [(ptrTo (256*c+0)),(ptrTo (256*c+1)),(ptrTo (256*c+2)),(ptrTo (256*(c+1)+0)),(.int .i64 0)] r3.2.1 (r3.2.2+1) []).bind fun r7 =>
 cond (Z0u r7.e (.exit 0))
  ((ldN r7.h 4 (r7.v 3)).bind fun t27 =>
  (stN r7.h 4 (r7.v 2) t27).bind fun h9 =>
  (Z07 h9 r7.df).bind fun h10 =>
  (ldN h10 4 (r7.v 2)).bind fun v11 =>
  some ⟨.ret,[v11],h10,(r7.c+1),[]⟩)
  (none))
 else none)
 else none)
theorem Zkm (o:Orc H) (t0 t1:Value) (h:H) (c:Nat):jx P o 28 none f47_c (Z0i (List.range 2) [t0,t1]) h c [] (Kfn P Try.f47.results.toList)=ZmK o t0 t1 h c:=by kernel_rfl
theorem f47_go {t0 t1:Value} {h:FH} {c:Nat} {df:List Nat} {r:Rt FH} (e:ZmK G t0 t1 h c=some r):G (.fn 47) [t0,t1] h c df=some (gcR h c [] r):=Z0r (a:=Zkl) bk_47 rfl (fun args h c=>by cases args <;> rfl) rfl ((Zkm G t0 t1 h c).trans e)
theorem ZfA {rd:Option Nat} {t2 t3 t4 t5 t6:Value} {h:FH} {c:Nat} {df:List Nat} {q r:Rt FH} (e:Z42 G rd t2 t3 t4 t5 t6 h c df=some q) (hq:q.e = .normal) (k:G (Z41 rd) q.vs (gcR h c df q).h (gcR h c df q).c q.df=some r):G (Z41 rd) [t2,t3,t4,t5,t6] h c df=some r:=Z0D ((Z69 G rd t2 t3 t4 t5 t6 h c df).trans e) hq k
theorem Zfz {rd:Option Nat} {t2 t3 t4 t5 t6:Value} {h:FH} {c:Nat} {df:List Nat} {q:Rt FH} (e:Z42 G rd t2 t3 t4 t5 t6 h c df=some q) (hq:q.e ≠ .normal):G (Z41 rd) [t2,t3,t4,t5,t6] h c df=some (gcR h c df q):=Z0E ((Z69 G rd t2 t3 t4 t5 t6 h c df).trans e) hq
noncomputable def Zhj (o:Orc H) (h:H) (c:Nat):Option (Rt H) :=
 (Z1d [(.int .i64 0),(.int .i64 0)] [(0,1,(.int .i64 0)),(1,1,(.int .i64 1))]).bind fun t1 =>
 (Z1d [(.int .i64 0),(.int .i64 0)] [(0,1,(.int .i64 0)),(1,1,(.int .i64 2))]).bind fun t2 =>
 (Z1d [(.int .i64 0),(.int .i64 0)] [(0,1,(.int .i64 0)),(1,1,(.int .i64 3))]).bind fun t3 =>
 (Z1d [(.int .i64 0),(.int .i64 0)] [(0,1,(.int .i64 1)),(1,1,(.int .i64 2))]).bind fun t4 =>
 (Z1d [(.int .i64 0),(.int .i64 0)] [(0,1,(.int .i64 1)),(1,1,(.int .i64 3))]).bind fun t5 =>
 (Z1d [(.int .i64 0),(.int .i64 0)] [(0,1,(.int .i64 2)),(1,1,(.int .i64 3))]).bind fun t6 =>
 (Z1d [(.int .i64 0),(.int .i64 0),(.int .i64 0),(.int .i64 0),(.int .i64 0),(.int .i64 0),(.int .i64 0),(.int .i64 0),(.int .i64 0),(.int .i64 0),(.int .i64 0),(.int .i64 0)] [(0,2,t1),(2,2,t2),(4,2,t3),(6,2,t4),(8,2,t5),(10,2,t6)]).bind fun t7 =>
 (stN (newB h (256*c+0) [(.int .i64 0),(.int .i64 0),(.int .i64 0),(.int .i64 0),(.int .i64 0),(.int .i64 0),(.int .i64 0),(.int .i64 0),(.int .i64 0),(.int .i64 0),(.int .i64 0),(.int .i64 0)]) 12 (ptrTo (256*c+0)) t7).bind fun h1 =>
 (ldN h1 12 (ptrTo (256*c+0))).bind fun v2 =>
 some ⟨.ret,[v2],h1,(c+1+1),[]⟩
theorem Zeh (o:Orc H) (h:H) (c:Nat):jx P o 8 none f54_c (Z0i (List.range 0) []) h c [] (Kfn P Try.f54.results.toList)=Zhj o h c:=by kernel_rfl
theorem f54_go {h:FH} {c:Nat} {df:List Nat} {r:Rt FH} (e:Zhj G h c=some r):G (.fn 54) [] h c df=some (gcR h c [] r):=Z0r (a:=ZcF) bk_54 rfl (fun args h c=>by cases args <;> rfl) rfl ((Zeh G h c).trans e)
noncomputable def Z1J (o:Orc H) (rd:Option Nat) (t2 t3 t6 t7:Value) (h:H) (c:Nat) (df:List Nat):Option (Rt H) :=
 (Z00 P .lss 3 t7 (.int .i64 4)).bind fun t8 =>
 Z08 t8
 ((ixV 4 false 1 t6 t7).bind fun t9 =>
 (Z00 P .lss 3 t9 (.int .i64 0)).bind fun t11 =>
 (gd t11 false h (c+1+1+1) (some t9)).bind fun r0 =>
 (gd t11 false r0.2.1 r0.2.2 (Z00 P .gtr 3 r0.1 (.int .i64 3))).bind fun r1 =>
 (Z0H t11 (.bool true) r1.1).bind fun t15 =>
 Z08 t15
  (some ⟨.ret,[(.bool false),t3,t6,t7],r1.2.1,(r1.2.2+1),df⟩)
  ((Z00 P .shl 3 (.int .i64 1) t9).bind fun t18 =>
  (Z00 P .or 3 t3 t18).bind fun t19 =>
  (Z00 P .add 3 t7 (.int .i64 1)).bind fun t20 =>
  some ⟨.normal,[t2,t19,t6,t20],r1.2.1,(r1.2.2+1+1),df⟩))
 (some ⟨(.exit 0),[t2,t3,t6,t7],h,(c+1),df⟩)
theorem Z4w (o:Orc H) (rd:Option Nat) (t2 t3 t6 t7:Value) (h:H) (c:Nat) (df:List Nat):jx P o 23 rd Z2X (Z0i [2,3,6,7] [t2,t3,t6,t7]) h c df (Klp [2,3,6,7])=Z1J o rd t2 t3 t6 t7 h c df:=by kernel_rfl
noncomputable def Zhi (o:Orc H) (t0:Value) (h:H) (c:Nat):Option (Rt H) :=
 (bif (t0:Value).cells.toList.all Z06 then
 (ldN (newB h (256*c+0) (t0:Value).cells.toList) 4 (ptrTo (256*c+0))).bind fun t6 =>
 (o (Z40 none) [(.bool false),(.int .i64 0),t6,(.int .i64 0)] (newB h (256*c+0) (t0:Value).cells.toList) (c+1+1+1) []).bind fun r0 =>
 cond (Z0u r0.e (.exit 0))
 ((Z00 P .eql 3 (r0.v 1) (.int .i64 15)).bind fun t22 =>
 (Z07 r0.h r0.df).bind fun h2 =>
 some ⟨.ret,[t22],h2,(r0.c+1),[]⟩)
 (cond (Z0u r0.e .ret)
  ((Z07 r0.h r0.df).bind fun h1 =>
  some ⟨.ret,[r0.v 0],h1,r0.c,[]⟩)
  (none))
 else none)
theorem Zeg (o:Orc H) (t0:Value) (h:H) (c:Nat):jx P o 23 none f56_c (Z0i (List.range 1) [t0]) h c [] (Kfn P Try.f56.results.toList)=Zhi o t0 h c:=by kernel_rfl
theorem f56_go {t0:Value} {h:FH} {c:Nat} {df:List Nat} {r:Rt FH} (e:Zhi G t0 h c=some r):G (.fn 56) [t0] h c df=some (gcR h c [] r):=Z0r (a:=ZcE) bk_56 rfl (fun args h c=>by cases args <;> rfl) rfl ((Zeg G t0 h c).trans e)
theorem Zfy {rd:Option Nat} {t2 t3 t6 t7:Value} {h:FH} {c:Nat} {df:List Nat} {q r:Rt FH} (e:Z1J G rd t2 t3 t6 t7 h c df=some q) (hq:q.e = .normal) (k:G (Z40 rd) q.vs (gcR h c df q).h (gcR h c df q).c q.df=some r):G (Z40 rd) [t2,t3,t6,t7] h c df=some r:=Z0D ((Z4w G rd t2 t3 t6 t7 h c df).trans e) hq k
theorem Z9F {rd:Option Nat} {t2 t3 t6 t7:Value} {h:FH} {c:Nat} {df:List Nat} {q:Rt FH} (e:Z1J G rd t2 t3 t6 t7 h c df=some q) (hq:q.e ≠ .normal):G (Z40 rd) [t2,t3,t6,t7] h c df=some (gcR h c df q):=Z0E ((Z4w G rd t2 t3 t6 t7 h c df).trans e) hq
noncomputable def ZmI (o:Orc H) (t0 t1 t2:Value) (h:H) (c:Nat):Option (Rt H) :=
 (bif (t0:Value).cells.toList.all Z06 then
 (bif (t1:Value).cells.toList.all Z06 then
 (bif (t2:Value).cells.toList.all Z06 then
 some ⟨.ret,[(.func (.func 78) [].toArray [(ptrTo (256*c+1)),(ptrTo (256*c+0)),(ptrTo (256*c+2))].toArray)],(newB (newB (newB h (256*c+0) (t0:Value).cells.toList) (256*c+1) (t1:Value).cells.toList) (256*c+2) (t2:Value).cells.toList),(c+1+1),[]⟩
 else none)
 else none)
 else none)
theorem Zkk (o:Orc H) (t0 t1 t2:Value) (h:H) (c:Nat):jx P o 8 none f57_c (Z0i (List.range 3) [t0,t1,t2]) h c [] (Kfn P Try.f57.results.toList)=ZmI o t0 t1 t2 h c:=by kernel_rfl
theorem f57_go {t0 t1 t2:Value} {h:FH} {c:Nat} {df:List Nat} {r:Rt FH} (e:ZmI G t0 t1 t2 h c=some r):G (.fn 57) [t0,t1,t2] h c df=some r:=Z0r (a:=Zkj) bk_57 rfl (fun args h c=>by cases args <;> rfl) rfl ((Zkk G t0 t1 t2 h c).trans e)
noncomputable def ZmG (o:Orc H) (t0 t1 t2:Value) (h:H) (c:Nat):Option (Rt H) :=
 (bif (t0:Value).cells.toList.all Z06 then
 (bif (t1:Value).cells.toList.all Z06 then
 (Z02 (ptrTo (256*c+0)) 0).bind fun t9 =>
 (ld1 (newB (newB (newB h (256*c+0) (t0:Value).cells.toList) (256*c+1) (t1:Value).cells.toList) (256*c+2) [(.int .i64 0),(.int .i64 0),(.int .i64 0),(.int .i64 0),(.int .i64 0)]) t9).bind fun t10 =>
 (Z02 (ptrTo (256*c+1)) 0).bind fun t11 =>
 (ld1 (newB (newB (newB h (256*c+0) (t0:Value).cells.toList) (256*c+1) (t1:Value).cells.toList) (256*c+2) [(.int .i64 0),(.int .i64 0),(.int .i64 0),(.int .i64 0),(.int .i64 0)]) t11).bind fun t12 =>
 (Z02 (ptrTo (256*c+1)) 1).bind fun t14 =>
 (ixA 4 1 t14 t2).bind fun t15 =>
 (ld1 (newB (newB (newB h (256*c+0) (t0:Value).cells.toList) (256*c+1) (t1:Value).cells.toList) (256*c+2) [(.int .i64 0),(.int .i64 0),(.int .i64 0),(.int .i64 0),(.int .i64 0)]) t15).bind fun t16 =>
 (ixS 20 t10 t12).bind fun t17 =>
 (ixA 4 5 t17 t16).bind fun t18 =>
 (ldN (newB (newB (newB h (256*c+0) (t0:Value).cells.toList) (256*c+1) (t1:Value).cells.toList) (256*c+2) [(.int .i64 0),(.int .i64 0),(.int .i64 0),(.int .i64 0),(.int .i64 0)]) 5 t18).bind fun t19 =>
 (stN (newB (newB (newB (newB h (256*c+0) (t0:Value).cells.toList) (256*c+1) (t1:Value).cells.toList) (256*c+2) [(.int .i64 0),(.int .i64 0),(.int .i64 0),(.int .i64 0),(.int .i64 0)]) (256*(c+1)+11) [(.int .i64 0),(.int .i64 0),(.int .i64 0),(.int .i64 0),(.int .i64 0)]) 5 (ptrTo (256*(c+1)+11)) t19).bind fun h1 =>
 (Z02 (ptrTo (256*(c+1)+11)) 0).bind fun t20 =>
 (ld1 h1 t20).bind fun t21 =>
 (Z00 P .lss 3 t21 (.int .i64 0)).bind fun t22 =>
 Z08 t22
 ((Z1d [(.int .i64 0),(.int .i64 0),(.int .i64 0),(.int .i64 0),(.int .i64 0)] []).bind fun t23 =>
 (stN h1 5 (ptrTo (256*c+2)) t23).bind fun h3 =>
 (ldN h3 5 (ptrTo (256*c+2))).bind fun v4 =>
 some ⟨.ret,[.tuple #[v4,(.bool false)]],h3,(c+1+1+1+1),[]⟩)
 ((Z02 (ptrTo (256*(c+1)+11)) 0).bind fun t24 =>
 (ld1 h1 t24).bind fun t25 =>
 (Z02 (ptrTo (256*(c+1)+11)) 1).bind fun t26 =>
 (ldN h1 4 t26).bind fun t27 =>
 (Z02 (ptrTo (256*c+1)) 1).bind fun t28 =>
 (ldN h1 4 t28).bind fun t29 =>
 (callF o 47 [t27,t29] h1 (c+1+1+1+1)).bind fun r5 =>
 (Z1d [(.int .i64 0),(.int .i64 0),(.int .i64 0),(.int .i64 0)] [(0,1,(.int .i64 0)),(1,1,(.int .i64 1)),(2,1,(.int .i64 3)),(3,1,(.int .i64 2))]).bind fun t31 =>
 (callF o 47 [r5.1,t31] r5.2.1 r5.2.2).bind fun r6 =>
 (Z1d [(.int .i64 0),(.int .i64 0),(.int .i64 0),(.int .i64 0),(.int .i64 0)] [(0,1,t25),(1,4,r6.1)]).bind fun t33 =>
 (stN r6.2.1 5 (ptrTo (256*c+2)) t33).bind fun h8 =>
 (bif (Z19 (Z2g t24) h1 r5.2.1 && (Z19 (Z2g t24) r5.2.1 r6.2.1 && true)) then
 (ldN h8 5 (ptrTo (256*c+2))).bind fun v9 =>
 some ⟨.ret,[.tuple #[v9,(.bool true)]],h8,r6.2.2,[]⟩
 else none))
 else none)
 else none)
theorem Zki (o:Orc H) (t0 t1 t2:Value) (h:H) (c:Nat):jx P o 34 none f58_c (Z0i (List.range 3) [t0,t1,t2]) h c [] (Kfn P Try.f58.results.toList)=ZmG o t0 t1 t2 h c:=by kernel_rfl
theorem f58_go {t0 t1 t2:Value} {h:FH} {c:Nat} {df:List Nat} {r:Rt FH} (e:ZmG G t0 t1 t2 h c=some r):G (.fn 58) [t0,t1,t2] h c df=some (gcR h c [] r):=Z0r (a:=Zkh) bk_58 rfl (fun args h c=>by cases args <;> rfl) rfl ((Zki G t0 t1 t2 h c).trans e)
noncomputable def Z3Z (o:Orc H) (rd:Option Nat) (t4 t5 t7 t8 t9 t16 t17 t18 t23 t24:Value) (h:H) (c:Nat) (df:List Nat):Option (Rt H) :=
 (Z00 P .lss 3 t9 (.int .i64 4)).bind fun t29 =>
 (gd t29 true h (c+1) (Z02 t8 0)).bind fun r0 =>
 (gd t29 true r0.2.1 r0.2.2 (ld1 r0.2.1 r0.1)).bind fun r1 =>
 (gd t29 true r1.2.1 r1.2.2 (Z00 P .geq 3 r1.1 (.int .i64 0))).bind fun r2 =>
 (Z0H t29 r2.1 (.bool false)).bind fun t34 =>
 Z08 t34
 ((Z00 P .neq 3 t9 t7).bind fun t39 =>
 (Z08 t39
  ((Z00 P .mul 3 (.int .i64 4) t5).bind fun t42 =>
  (Z00 P .add 3 t42 t9).bind fun t44 =>
  (Z02 t8 0).bind fun t45 =>
  (ld1 r2.2.1 t45).bind fun t46 =>
  (Z00 P .mul 3 (.int .i64 4) t46).bind fun t47 =>
  (Z02 t8 1).bind fun t49 =>
  (ixA 4 1 t49 t9).bind fun t50 =>
  (ld1 r2.2.1 t50).bind fun t51 =>
  (Z00 P .add 3 t47 t51).bind fun t52 =>
  (callF o 81 [t4,t44,t52] r2.2.1 (r2.2.2+1+1)).bind fun r3 =>
  some ⟨.normal,[t4,t5,t7,t8,t9,t16,t17,t18,t23,t24],r3.2.1,r3.2.2,df⟩)
  (some ⟨.normal,[t4,t5,t7,t8,t9,t16,t17,t18,t23,t24],r2.2.1,(r2.2.2+1),df⟩):Option (Rt H)).bind fun r4 =>
 cond (Z0u r4.e .normal)
  ((Z00 P .add 3 (r4.v 4) (.int .i64 1)).bind fun t36 =>
  some ⟨.normal,[r4.v 0,r4.v 1,r4.v 2,r4.v 3,t36,r4.v 5,r4.v 6,r4.v 7,r4.v 8,r4.v 9],r4.h,(r4.c+1),r4.df⟩)
  (none))
 (some ⟨(.exit 4),[t4,t5,t7,t8,t9,t16,t17,t18,t23,t24],r2.2.1,r2.2.2,df⟩)
theorem Z2t (o:Orc H) (rd:Option Nat) (t4 t5 t7 t8 t9 t16 t17 t18 t23 t24:Value) (h:H) (c:Nat) (df:List Nat):jx P o 60 rd Z6X (Z0i [4,5,7,8,9,16,17,18,23,24] [t4,t5,t7,t8,t9,t16,t17,t18,t23,t24]) h c df (Klp [4,5,7,8,9,16,17,18,23,24])=Z3Z o rd t4 t5 t7 t8 t9 t16 t17 t18 t23 t24 h c df:=by kernel_rfl
noncomputable def Z70 (o:Orc H) (rd:Option Nat) (t4 t5 t16 t17 t18 t23 t24:Value) (h:H) (c:Nat) (df:List Nat):Option (Rt H) :=
 (Z00 P .lss 3 t24 (.int .i64 4)).bind fun t25 =>
 Z08 t25
 ((ixV 4 true 5 t23 t24).bind fun t27 =>
 (stN (newB h (256*(c+1)+2) [(.int .i64 0),(.int .i64 0),(.int .i64 0),(.int .i64 0),(.int .i64 0)]) 5 (ptrTo (256*(c+1)+2)) t27).bind fun h1 =>
 (o (Z9C rd) [t4,t5,t24,(ptrTo (256*(c+1)+2)),(.int .i64 0),t16,t17,t18,t23,t24] h1 (c+1+1+1) df).bind fun r2 =>
 cond (Z0u r2.e (.exit 4))
  ((Z00 P .add 3 (r2.v 9) (.int .i64 1)).bind fun t54 =>
  some ⟨.normal,[r2.v 0,r2.v 1,r2.v 5,r2.v 6,r2.v 7,r2.v 8,t54],r2.h,(r2.c+1),r2.df⟩)
  (none))
 (some ⟨(.exit 2),[t4,t5,t16,t17,t18,t23,t24],h,(c+1),df⟩)
theorem Z67 (o:Orc H) (rd:Option Nat) (t4 t5 t16 t17 t18 t23 t24:Value) (h:H) (c:Nat) (df:List Nat):jx P o 60 rd Z6Y (Z0i [4,5,16,17,18,23,24] [t4,t5,t16,t17,t18,t23,t24]) h c df (Klp [4,5,16,17,18,23,24])=Z70 o rd t4 t5 t16 t17 t18 t23 t24 h c df:=by kernel_rfl
noncomputable def Z71 (o:Orc H) (rd:Option Nat) (t4 t16 t17 t18:Value) (h:H) (c:Nat) (df:List Nat):Option (Rt H) :=
 (Z00 P .lss 3 t18 t17).bind fun t19 =>
 Z08 t19
 ((ixS 20 t16 t18).bind fun t21 =>
 (ldN h 20 t21).bind fun t22 =>
 (stN (newB h (256*(c+1)+3) [(.int .i64 0),(.int .i64 0),(.int .i64 0),(.int .i64 0),(.int .i64 0),(.int .i64 0),(.int .i64 0),(.int .i64 0),(.int .i64 0),(.int .i64 0),(.int .i64 0),(.int .i64 0),(.int .i64 0),(.int .i64 0),(.int .i64 0),(.int .i64 0),(.int .i64 0),(.int .i64 0),(.int .i64 0),(.int .i64 0)]) 20 (ptrTo (256*(c+1)+3)) t22).bind fun h1 =>
 (ldN h1 20 (ptrTo (256*(c+1)+3))).bind fun t23 =>
 (o (Z9D rd) [t4,t18,t16,t17,t18,t23,(.int .i64 0)] h1 (c+1+1+1) df).bind fun r2 =>
 cond (Z0u r2.e (.exit 2))
  ((Z00 P .add 3 (r2.v 4) (.int .i64 1)).bind fun t55 =>
  some ⟨.normal,[r2.v 0,r2.v 2,r2.v 3,t55],r2.h,(r2.c+1),r2.df⟩)
  (none))
 (some ⟨(.exit 0),[t4,t16,t17,t18],h,(c+1),df⟩)
theorem Z68 (o:Orc H) (rd:Option Nat) (t4 t16 t17 t18:Value) (h:H) (c:Nat) (df:List Nat):jx P o 60 rd Z6Z (Z0i [4,16,17,18] [t4,t16,t17,t18]) h c df (Klp [4,16,17,18])=Z71 o rd t4 t16 t17 t18 h c df:=by kernel_rfl
noncomputable def ZmF (o:Orc H) (t0:Value) (h:H) (c:Nat):Option (Rt H) :=
 (bif (t0:Value).cells.toList.all Z06 then
 (Z02 (ptrTo (256*c+0)) 0).bind fun t10 =>
 (ld1 (newB h (256*c+0) (t0:Value).cells.toList) t10).bind fun t11 =>
 (Z2m t11).bind fun t12 =>
 (Z00 P .mul 3 (.int .i64 4) t12).bind fun t13 =>
 (callF o 80 [t13] (newB h (256*c+0) (t0:Value).cells.toList) (c+1+1)).bind fun r0 =>
 (Z02 (ptrTo (256*c+0)) 0).bind fun t15 =>
 (ld1 r0.2.1 t15).bind fun t16 =>
 (Z2m t16).bind fun t17 =>
 (o (Z9E none) [r0.1,t16,t17,(.int .i64 0)] r0.2.1 (r0.2.2+1) []).bind fun r1 =>
 cond (Z0u r1.e (.exit 0))
 ((callF o 82 [r1.v 0] r1.h (r1.c+1)).bind fun r2 =>
 (Z1m r2.1 0).bind fun t58 =>
 (Z1m r2.1 1).bind fun t59 =>
 (Z07 r2.2.1 r1.df).bind fun h3 =>
 some ⟨.ret,[.tuple #[t58,t59]],h3,r2.2.2,[]⟩)
 (none)
 else none)
theorem Zkg (o:Orc H) (t0:Value) (h:H) (c:Nat):jx P o 60 none f59_c (Z0i (List.range 1) [t0]) h c [] (Kfn P Try.f59.results.toList)=ZmF o t0 h c:=by kernel_rfl
theorem f59_go {t0:Value} {h:FH} {c:Nat} {df:List Nat} {r:Rt FH} (e:ZmF G t0 h c=some r):G (.fn 59) [t0] h c df=some r:=Z0r (a:=Zkf) bk_59 rfl (fun args h c=>by cases args <;> rfl) rfl ((Zkg G t0 h c).trans e)
noncomputable def Z3X (o:Orc H) (rd:Option Nat) (t1 t2 t7 t8 t22 t23 t26:Value) (h:H) (c:Nat) (df:List Nat):Option (Rt H) :=
 (Z00 P .lss 3 t26 (.int .i64 4)).bind fun t27 =>
 Z08 t27
 ((Z00 P .mul 3 (.int .i64 4) t8).bind fun t31 =>
 (Z00 P .add 3 t31 t26).bind fun t33 =>
 (ixS 1 t1 t33).bind fun t34 =>
 (ld1 h t34).bind fun t35 =>
 (Z00 P .eql 3 t35 t2).bind fun t37 =>
 (Z08 t37
  ((Z0c t7).bind fun t39 =>
  (Z02 t39 2).bind fun t40 =>
  (ld1 h t40).bind fun t41 =>
  (Z1d [(.int .i64 0),(.int .i64 0)] [(0,1,t8),(1,1,t26)]).bind fun t44 =>
  (Z0c t7).bind fun t46 =>
  (Z02 t46 1).bind fun t47 =>
  (ld1 h t47).bind fun t48 =>
  (Z2m t48).bind fun t49 =>
  (Z14 P h 118 t41 t44 t49).bind fun h1 =>
  (Z0c t7).bind fun t52 =>
  (Z02 t52 1).bind fun t53 =>
  (ld1 h1 t53).bind fun t54 =>
  (Z1d [(.int .i64 0),(.int .i64 0)] [(0,1,t8),(1,1,t26)]).bind fun t57 =>
  (Z8N [(.int .i64 0),(.int .i64 0)] [(0,2,t57)]).bind fun r2 =>
  (Z5o (newB h1 (256*(c+1+1+1+1)+8) r2) (256*(c+1+1+1+1)+9) 2 16 t54 (.slice (some ⟨(256*(c+1+1+1+1)+8),0,none⟩) 1 1)).bind fun r3 =>
  (Z0c t7).bind fun t60 =>
  (Z02 t60 1).bind fun t61 =>
  (stN r3.2 1 t61 r3.1).bind fun h5 =>
  some ⟨.normal,[t1,t2,t7,t8,t22,t23,t26],h5,(c+1+1+1+1+1),df⟩)
  (some ⟨.normal,[t1,t2,t7,t8,t22,t23,t26],h,(c+1+1+1),df⟩):Option (Rt H)).bind fun r6 =>
 cond (Z0u r6.e .normal)
  ((Z00 P .add 3 (r6.v 6) (.int .i64 1)).bind fun t62 =>
  some ⟨.normal,[r6.v 0,r6.v 1,r6.v 2,r6.v 3,r6.v 4,r6.v 5,t62],r6.h,(r6.c+1),r6.df⟩)
  (none))
 (some ⟨(.exit 2),[t1,t2,t7,t8,t22,t23,t26],h,(c+1),df⟩)
theorem Z4u (o:Orc H) (rd:Option Nat) (t1 t2 t7 t8 t22 t23 t26:Value) (h:H) (c:Nat) (df:List Nat):jx P o 65 rd Z2V (Z0i [1,2,7,8,22,23,26] [t1,t2,t7,t8,t22,t23,t26]) h c df (Klp [1,2,7,8,22,23,26])=Z3X o rd t1 t2 t7 t8 t22 t23 t26 h c df:=by kernel_rfl
noncomputable def Z3Y (o:Orc H) (rd:Option Nat) (t1 t2 t7 t22 t23:Value) (h:H) (c:Nat) (df:List Nat):Option (Rt H) :=
 (Z00 P .lss 3 t23 t22).bind fun t24 =>
 Z08 t24
 ((o (Z9A rd) [t1,t2,t7,t23,t22,t23,(.int .i64 0)] h (c+1+1+1) df).bind fun r0 =>
 cond (Z0u r0.e (.exit 2))
  ((Z00 P .add 3 (r0.v 5) (.int .i64 1)).bind fun t63 =>
  some ⟨.normal,[r0.v 0,r0.v 1,r0.v 2,r0.v 4,t63],r0.h,(r0.c+1),r0.df⟩)
  (none))
 (some ⟨(.exit 0),[t1,t2,t7,t22,t23],h,(c+1),df⟩)
theorem Z4v (o:Orc H) (rd:Option Nat) (t1 t2 t7 t22 t23:Value) (h:H) (c:Nat) (df:List Nat):jx P o 65 rd Z2W (Z0i [1,2,7,22,23] [t1,t2,t7,t22,t23]) h c df (Klp [1,2,7,22,23])=Z3Y o rd t1 t2 t7 t22 t23 h c df:=by kernel_rfl
noncomputable def Zhh (o:Orc H) (t0 t1 t2:Value) (h:H) (c:Nat):Option (Rt H) :=
 (Z0c t0).bind fun t11 =>
 (Z02 t11 0).bind fun t12 =>
 (ldN h 1 t12).bind fun t13 =>
 (Z1d [(.slice none 0 0),(.slice none 0 0),(.map none)] [(0,1,t13),(1,1,(.slice none 0 0)),(2,1,(.map (some (256*(c+1)+4))))]).bind fun t15 =>
 (bif (t15:Value).cells.toList.all Z06 then
 (Z0c t0).bind fun t18 =>
 (Z02 t18 0).bind fun t19 =>
 (Z02 t19 0).bind fun t20 =>
 (ld1 (newB (HeapC.set h (256*(c+1)+4) (.map [])) (256*(c+1)+6) (t15:Value).cells.toList) t20).bind fun t21 =>
 (Z2m t21).bind fun t22 =>
 (o (Z9B none) [t1,t2,(ptrTo (256*(c+1)+6)),t22,(.int .i64 0)] (newB (HeapC.set h (256*(c+1)+4) (.map [])) (256*(c+1)+6) (t15:Value).cells.toList) (c+1+1+1) []).bind fun r0 =>
 cond (Z0u r0.e (.exit 0))
 ((Z07 r0.h r0.df).bind fun h1 =>
 some ⟨.ret,[r0.v 2],h1,(r0.c+1),[]⟩)
 (none)
 else none)
theorem Zef (o:Orc H) (t0 t1 t2:Value) (h:H) (c:Nat):jx P o 65 none f60_c (Z0i (List.range 3) [t0,t1,t2]) h c [] (Kfn P Try.f60.results.toList)=Zhh o t0 t1 t2 h c:=by kernel_rfl
theorem f60_go {t0 t1 t2:Value} {h:FH} {c:Nat} {df:List Nat} {r:Rt FH} (e:Zhh G t0 t1 t2 h c=some r):G (.fn 60) [t0,t1,t2] h c df=some r:=Z0r (a:=ZcD) bk_60 rfl (fun args h c=>by cases args <;> rfl) rfl ((Zef G t0 t1 t2 h c).trans e)
noncomputable def Z2U (o:Orc H) (rd:Option Nat) (t0 t3 t4 t5 t17 t18:Value) (h:H) (c:Nat) (df:List Nat):Option (Rt H) :=
 (Z00 P .lss 3 t18 (.int .i64 4)).bind fun t19 =>
 Z08 t19
 ((ixV 4 true 5 t17 t18).bind fun t21 =>
 (stN (newB h (256*(c+1)+2) [(.int .i64 0),(.int .i64 0),(.int .i64 0),(.int .i64 0),(.int .i64 0)]) 5 (ptrTo (256*(c+1)+2)) t21).bind fun h1 =>
 (ixA 2 1 t3 (.int .i64 1)).bind fun t23 =>
 (ld1 h1 t23).bind fun t24 =>
 (Z00 P .neq 3 t18 t24).bind fun t25 =>
 (gd t25 true h1 (c+1+1+1) (Z02 (ptrTo (256*(c+1)+2)) 0)).bind fun r2 =>
 (gd t25 true r2.2.1 r2.2.2 (ld1 r2.2.1 r2.1)).bind fun r3 =>
 (gd t25 true r3.2.1 r3.2.2 (Z00 P .geq 3 r3.1 (.int .i64 0))).bind fun r4 =>
 (Z0H t25 r4.1 (.bool false)).bind fun t30 =>
 (Z08 t30
  ((Z0c t0).bind fun t33 =>
  (Z02 t33 2).bind fun t34 =>
  (ld1 r4.2.1 t34).bind fun t35 =>
  (Z02 (ptrTo (256*(c+1)+2)) 0).bind fun t36 =>
  (ld1 r4.2.1 t36).bind fun t37 =>
  (ixA 2 1 t3 (.int .i64 1)).bind fun t38 =>
  (ld1 r4.2.1 t38).bind fun t39 =>
  (Z02 (ptrTo (256*(c+1)+2)) 1).bind fun t40 =>
  (ixA 4 1 t40 t39).bind fun t41 =>
  (ld1 r4.2.1 t41).bind fun t42 =>
  (Z1d [(.int .i64 0),(.int .i64 0)] [(0,1,t37),(1,1,t42)]).bind fun t43 =>
  (Z54 P r4.2.1 118 t35 t43 false).bind fun t44 =>
  (ixA 4 1 t5 t18).bind fun t45 =>
  (stN r4.2.1 1 t45 t44).bind fun h6 =>
  some ⟨.normal,[t0,t3,t4,t5,t17,t18],h6,(r4.2.2+1),df⟩)
  (some ⟨.normal,[t0,t3,t4,t5,t17,t18],r4.2.1,r4.2.2,df⟩):Option (Rt H)).bind fun r7 =>
 cond (Z0u r7.e .normal)
  ((Z00 P .add 3 (r7.v 5) (.int .i64 1)).bind fun t46 =>
  some ⟨.normal,[r7.v 0,r7.v 1,r7.v 2,r7.v 3,r7.v 4,t46],r7.h,(r7.c+1),r7.df⟩)
  (none))
 (some ⟨(.exit 0),[t0,t3,t4,t5,t17,t18],h,(c+1),df⟩)
theorem Z2s (o:Orc H) (rd:Option Nat) (t0 t3 t4 t5 t17 t18:Value) (h:H) (c:Nat) (df:List Nat):jx P o 48 rd Z2T (Z0i [0,3,4,5,17,18] [t0,t3,t4,t5,t17,t18]) h c df (Klp [0,3,4,5,17,18])=Z2U o rd t0 t3 t4 t5 t17 t18 h c df:=by kernel_rfl
noncomputable def Zhg (o:Orc H) (t0 t1:Value) (h:H) (c:Nat):Option (Rt H) :=
 (bif (t1:Value).cells.toList.all Z06 then
 (Z1d [(.int .i64 0),(.int .i64 0),(.int .i64 0),(.int .i64 0)] [(0,1,(.int .i64 (-1))),(1,1,(.int .i64 (-1))),(2,1,(.int .i64 (-1))),(3,1,(.int .i64 (-1)))]).bind fun t8 =>
 (stN (newB (newB (newB h (256*c+0) (t1:Value).cells.toList) (256*c+1) [(.int .i64 0),(.int .i64 0),(.int .i64 0),(.int .i64 0)]) (256*(c+1)+1) [(.int .i64 0),(.int .i64 0),(.int .i64 0),(.int .i64 0)]) 4 (ptrTo (256*(c+1)+1)) t8).bind fun h1 =>
 (Z0c t0).bind fun t10 =>
 (Z02 t10 0).bind fun t11 =>
 (Z02 t11 0).bind fun t12 =>
 (ld1 h1 t12).bind fun t13 =>
 (ixA 2 1 (ptrTo (256*c+0)) (.int .i64 0)).bind fun t14 =>
 (ld1 h1 t14).bind fun t15 =>
 (ixS 20 t13 t15).bind fun t16 =>
 (ldN h1 20 t16).bind fun t17 =>
 (o (Z9z none) [t0,(ptrTo (256*c+0)),(ptrTo (256*c+1)),(ptrTo (256*(c+1)+1)),t17,(.int .i64 0)] h1 (c+1+1+1) []).bind fun r2 =>
 cond (Z0u r2.e (.exit 0))
 ((ldN r2.h 4 (r2.v 3)).bind fun t47 =>
 (stN r2.h 4 (r2.v 2) t47).bind fun h4 =>
 (Z07 h4 r2.df).bind fun h5 =>
 (ldN h5 4 (r2.v 2)).bind fun v6 =>
 some ⟨.ret,[v6],h5,(r2.c+1),[]⟩)
 (none)
 else none)
theorem Zee (o:Orc H) (t0 t1:Value) (h:H) (c:Nat):jx P o 48 none f61_c (Z0i (List.range 2) [t0,t1]) h c [] (Kfn P Try.f61.results.toList)=Zhg o t0 t1 h c:=by kernel_rfl
theorem f61_go {t0 t1:Value} {h:FH} {c:Nat} {df:List Nat} {r:Rt FH} (e:Zhg G t0 t1 h c=some r):G (.fn 61) [t0,t1] h c df=some (gcR h c [] r):=Z0r (a:=ZcC) bk_61 rfl (fun args h c=>by cases args <;> rfl) rfl ((Zee G t0 t1 h c).trans e)
end Go.Proofs.Ytdodippbpdechaa
