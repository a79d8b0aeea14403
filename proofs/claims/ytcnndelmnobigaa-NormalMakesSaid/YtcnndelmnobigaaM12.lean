/- Parts of a proof: S6 S7 S8. Conditions: none. -/
import Derived.Test.YtcnndelmnobigaaM9
set_option linter.all false
set_option maxRecDepth 100000
namespace Go.Proofs.Ytcnndelmnobigaa
open Go Go.Ab Go.Proofs
variable {H:Type} [HeapC H]
noncomputable def Z4V (o:Orc H) (rd:Option Nat) (t2 t4 t7 t15 t16 t17 t35 t36:Value) (h:H) (c:Nat) (df:List Nat):Option (Rt H) :=
 (Z00 P .lss 3 t36 t35).bind fun t37 =>
 Z07 t37
 ((ld1 h t7).bind fun t39 =>
 (Z00 P .mul 3 (.int .i64 7) t36).bind fun t41 =>
 (Z00 P .add 3 t41 (.int .i64 4)).bind fun t42 =>
 (Z00 P .mul 3 (.int .i64 7) t36).bind fun t44 =>
 (Z00 P .add 3 t44 (.int .i64 7)).bind fun t45 =>
 (slS h 1 t39 (some t42) (some t45) none).bind fun t46 =>
 (callF o 56 [t46] h (c+1+1+1)).bind fun r0 =>
 (Z1i .not r0.1).bind fun t48 =>
 Z07 t48
  ((stN r0.2.1 1 t4 (.int .i64 130)).bind fun h2 =>
  some ⟨.ret,[t2,t4,t7,t15,t16,t17,t35,t36],h2,(r0.2.2+1),df⟩)
  ((Z00 P .add 3 t36 (.int .i64 1)).bind fun t49 =>
  some ⟨.normal,[t2,t4,t7,t15,t16,t17,t35,t49],r0.2.1,(r0.2.2+1),df⟩))
 (some ⟨(.exit 2),[t2,t4,t7,t15,t16,t17,t35,t36],h,(c+1),df⟩)
theorem Z5G (o:Orc H) (rd:Option Nat) (t2 t4 t7 t15 t16 t17 t35 t36:Value) (h:H) (c:Nat) (df:List Nat):jx P o 71 rd Z3z (Z0f [2,4,7,15,16,17,35,36] [t2,t4,t7,t15,t16,t17,t35,t36]) h c df (Klp [2,4,7,15,16,17,35,36])=Z4V o rd t2 t4 t7 t15 t16 t17 t35 t36 h c df:=by kernel_rfl
noncomputable def Z3B (o:Orc H) (l:Nat) (t52 t4 t7:Value) (h:H) (c:Nat):Option (Rt H) :=
 (stN (newB h (256*c+0) [(.int .i64 0),(.int .i64 0),(.int .i64 0),(.int .i64 0),(.int .i64 0),(.int .i64 0)]) 6 (ptrTo (256*c+0)) t52).bind fun h1 =>
 (Z2f h1 l).bind fun h2 =>
 (ld1 h2 t7).bind fun t53 =>
 (Z06 (ptrTo (256*c+0)) 0).bind fun t54 =>
 (ld1 h2 t54).bind fun t55 =>
 (Z06 (ptrTo (256*c+0)) 1).bind fun t56 =>
 (ld1 h2 t56).bind fun t57 =>
 (Z06 (ptrTo (256*c+0)) 2).bind fun t58 =>
 (ld1 h2 t58).bind fun t59 =>
 (callF o 50 [t53,t55,t57,t59] h2 (c+1+1)).bind fun r3 =>
 (ld1 r3.2.1 t7).bind fun t61 =>
 (Z06 (ptrTo (256*c+0)) 3).bind fun t62 =>
 (ld1 r3.2.1 t62).bind fun t63 =>
 (Z06 (ptrTo (256*c+0)) 4).bind fun t64 =>
 (ld1 r3.2.1 t64).bind fun t65 =>
 (Z06 (ptrTo (256*c+0)) 5).bind fun t66 =>
 (ld1 r3.2.1 t66).bind fun t67 =>
 (callF o 50 [t61,t63,t65,t67] r3.2.1 r3.2.2).bind fun r4 =>
 (Z00 P .neq 3 r3.1 r4.1).bind fun t69 =>
 (bif (Z18 (Z2G t7) h2 r3.2.1 && (Z18 (Z2G t62) h2 r3.2.1 && (Z18 (Z2G t64) h2 r3.2.1 && (Z18 (Z2G t66) h2 r3.2.1 && true)))) then
 Z07 t69
 ((stN r4.2.1 1 t4 (.int .i64 130)).bind fun h6 =>
 (Z0I h6 l .done (some .ret)).bind fun h7 =>
 cond (List.isEmpty ([]:List Nat)) (some ⟨.ret,[.bool false],h7,(r4.2.2+1),[]⟩) none)
 ((Z0I r4.2.1 l .ready none).bind fun h8 =>
 cond (List.isEmpty ([]:List Nat)) (some ⟨.ret,[.bool true],h8,r4.2.2,[]⟩) none)
 else none)
theorem Z7U (o:Orc H) (l:Nat) (t52 t4 t7:Value) (h:H) (c:Nat):jx P o 71 (some l) Z1m (Z0f ([52]++[4,7]) [t52,t4,t7]) h c [] (ZpI P o 71 l Z1l)=Z3B o l t52 t4 t7 h c:=by kernel_rfl
noncomputable def Z4W (o:Orc H) (rd:Option Nat) (t2 t4 t15 t16 t17:Value) (h:H) (c:Nat) (df:List Nat):Option (Rt H) :=
 (Z00 P .lss 3 t17 t16).bind fun t18 =>
 Z07 t18
 ((ixS 1 t15 t17).bind fun t19 =>
 (ld1 h t19).bind fun t20 =>
 (stN (newB h (256*(c+1)+2) [(.slice none 0 0)]) 1 (ptrTo (256*(c+1)+2)) t20).bind fun h1 =>
 (ld1 h1 (ptrTo (256*(c+1)+2))).bind fun t21 =>
 (Z0X t21).bind fun t22 =>
 (Z06 t2 0).bind fun t23 =>
 (ld1 h1 t23).bind fun t24 =>
 (Z0X t24).bind fun t25 =>
 (Z00 P .mul 3 (.int .i64 7) t25).bind fun t26 =>
 (Z00 P .neq 3 t22 t26).bind fun t27 =>
 (gd t27 false h1 (c+1+1+1) (ld1 h1 (ptrTo (256*(c+1)+2)))).bind fun r2 =>
 (gg t27 false r2.2.1 r2.2.2 (callF o 55 [r2.1] r2.2.1 r2.2.2)).bind fun r3 =>
 (gd t27 false r3.2.1 r3.2.2 (Z1i .not r3.1)).bind fun r4 =>
 (Z0D t27 (.bool true) r4.1).bind fun t32 =>
 Z07 t32
  ((stN r4.2.1 1 t4 (.int .i64 130)).bind fun h6 =>
  some ⟨.ret,[t2,t4,t15,t16,t17],h6,(r4.2.2+1),df⟩)
  ((Z06 t2 0).bind fun t33 =>
  (ld1 r4.2.1 t33).bind fun t34 =>
  (Z0X t34).bind fun t35 =>
  (o (Zci rd) [t2,t4,(ptrTo (256*(c+1)+2)),t15,t16,t17,t35,(.int .i64 0)] r4.2.1 (r4.2.2+1) df).bind fun r7 =>
  cond (Z0q r7.e (.exit 2))
   ((ldN r7.h 1 (r7.v 0)).bind fun t50 =>
   (callF o 59 [t50] r7.h (r7.c+1)).bind fun r8 =>
   (Z5Y o 71 rd [4,7] [] #[52] Z1m Z1l r8.1 [r7.v 1,r7.v 2] r8.2.1 r8.2.2 r7.df).bind fun q9 =>
   cond (Z0q q9.1 .normal)
    ((Z00 P .add 3 (r7.v 5) (.int .i64 1)).bind fun t70 =>
    some ⟨.normal,[r7.v 0,r7.v 1,r7.v 3,r7.v 4,t70],q9.2.1,(q9.2.2.1+1),q9.2.2.2⟩)
    (cond (Z0q q9.1 .ret)
     (some ⟨.ret,[r7.v 0,r7.v 1,r7.v 3,r7.v 4,r7.v 5],q9.2.1,q9.2.2.1,q9.2.2.2⟩)
     (none)))
   (cond (Z0q r7.e .ret)
    (some ⟨.ret,[r7.v 0,r7.v 1,r7.v 3,r7.v 4,r7.v 5],r7.h,r7.c,r7.df⟩)
    (none))))
 (some ⟨(.exit 0),[t2,t4,t15,t16,t17],h,(c+1),df⟩)
theorem Z5H (o:Orc H) (rd:Option Nat) (t2 t4 t15 t16 t17:Value) (h:H) (c:Nat) (df:List Nat):jx P o 71 rd Z3A (Z0f [2,4,15,16,17] [t2,t4,t15,t16,t17]) h c df (Klp [2,4,15,16,17])=Z4W o rd t2 t4 t15 t16 t17 h c df:=by kernel_rfl
noncomputable def Zle (o:Orc H) (t0 t1:Value) (h:H) (c:Nat):Option (Rt H) :=
 (bif (t0:Value).cells.toList.all Z0c then
 (ldN (newB (newB h (256*c+0) (t0:Value).cells.toList) (256*c+1) [(.int .i64 0)]) 1 (ptrTo (256*c+0))).bind fun t10 =>
 (callF o 43 [t10] (newB (newB h (256*c+0) (t0:Value).cells.toList) (256*c+1) [(.int .i64 0)]) (c+1+1)).bind fun r0 =>
 (Z00 P .neq 27 r0.1 (.int .i64 0)).bind fun t13 =>
 Z07 t13
 ((stN r0.2.1 1 (ptrTo (256*c+1)) r0.1).bind fun h2 =>
 (ld1 h2 (ptrTo (256*c+1))).bind fun v3 =>
 some ⟨.ret,[v3],h2,(r0.2.2+1+1),[]⟩)
 ((Z0X t1).bind fun t16 =>
 (o (Z8Y none) [(ptrTo (256*c+0)),(ptrTo (256*c+1)),t1,t16,(.int .i64 0)] r0.2.1 (r0.2.2+1+1) []).bind fun r4 =>
 cond (Z0q r4.e (.exit 0))
  ((stN r4.h 1 (r4.v 1) (.int .i64 0)).bind fun h8 =>
  (Z0a h8 r4.df).bind fun h9 =>
  (ld1 h9 (r4.v 1)).bind fun v10 =>
  some ⟨.ret,[v10],h9,(r4.c+1),[]⟩)
  (cond (Z0q r4.e .ret)
   ((Z0a r4.h r4.df).bind fun h5 =>
   (ld1 h5 (r4.v 1)).bind fun v6 =>
   some ⟨.ret,[v6],h5,r4.c,[]⟩)
   (none)))
 else none)
theorem Zi2 (o:Orc H) (t0 t1:Value) (h:H) (c:Nat):jx P o 71 none f47_c (Z0f (List.range 2) [t0,t1]) h c [] (Kfn P Try.f47.results.toList)=Zle o t0 t1 h c:=by kernel_rfl
theorem f47_go {t0 t1:Value} {h:FH} {c:Nat} {df:List Nat} {r:Rt FH} (e:Zle G t0 t1 h c=some r):G (.fn 47) [t0,t1] h c df=some (gcR h c [] r):=Z0d (a:=ZfT) bk_47 rfl (fun args h c=>by cases args <;> rfl) rfl ((Zi2 G t0 t1 h c).trans e)
theorem Zje {t52 t4 t7:Value} {l:Nat} {h:FH} {c:Nat} {df:List Nat} {r:Rt FH} (e:Z3B G l t52 t4 t7 h c=some r):G (.rnd 71 [4,7] [] [52] l Z1m Z1l) [t52,t4,t7] h c df=some r:=Zd9 ((Z7U G l t52 t4 t7 h c).trans e)
noncomputable def Z8X (o:Orc H) (rd:Option Nat) (t3 t6 t7 t8:Value) (h:H) (c:Nat) (df:List Nat):Option (Rt H) :=
 (Z00 P .lss 3 t8 t7).bind fun t9 =>
 Z07 t9
 ((ixS 1 t6 t8).bind fun t10 =>
 (ld1 h t10).bind fun t11 =>
 (Z00 P .add 3 t3 t11).bind fun t14 =>
 (Z00 P .add 3 t8 (.int .i64 1)).bind fun t15 =>
 some ⟨.normal,[t14,t6,t7,t15],h,(c+1+1+1+1),df⟩)
 (some ⟨(.exit 0),[t3,t6,t7,t8],h,(c+1),df⟩)
theorem ZdI (o:Orc H) (rd:Option Nat) (t3 t6 t7 t8:Value) (h:H) (c:Nat) (df:List Nat):jx P o 17 rd Z3y (Z0f [3,6,7,8] [t3,t6,t7,t8]) h c df (Klp [3,6,7,8])=Z8X o rd t3 t6 t7 t8 h c df:=by kernel_rfl
noncomputable def Zrm (o:Orc H) (t0:Value) (h:H) (c:Nat):Option (Rt H) :=
 (Z0X t0).bind fun t7 =>
 (o (Zjc none) [(.int .i64 0),t0,t7,(.int .i64 0)] h (c+1+1+1) []).bind fun r0 =>
 cond (Z0q r0.e (.exit 0))
 ((Z0a r0.h r0.df).bind fun h1 =>
 some ⟨.ret,[r0.v 0],h1,(r0.c+1),[]⟩)
 (none)
theorem ZoD (o:Orc H) (t0:Value) (h:H) (c:Nat):jx P o 17 none f48_c (Z0f (List.range 1) [t0]) h c [] (Kfn P Try.f48.results.toList)=Zrm o t0 h c:=by kernel_rfl
noncomputable def Z8W (o:Orc H) (rd:Option Nat) (t1 t7 t19 t20 t21:Value) (h:H) (c:Nat) (df:List Nat):Option (Rt H) :=
 (Z00 P .lss 3 t21 t20).bind fun t22 =>
 Z07 t22
 ((ixS 1 t19 t21).bind fun t23 =>
 (ld1 h t23).bind fun t24 =>
 (Z00 P .quo 3 t24 (.int .i64 6)).bind fun t28 =>
 (Z00 P .rem 3 t24 (.int .i64 6)).bind fun t30 =>
 (callF o 74 [t1,t28,t30] h (c+1+1+1)).bind fun r0 =>
 (Z2T [(.int .i64 0)] [(0,1,r0.1)]).bind fun r1 =>
 (Z7q (newB r0.2.1 (256*(c+1+1)+7) r1) (256*(c+1+1)+8) 1 8 t7 (.slice (some ⟨(256*(c+1+1)+7),0,none⟩) 1 1)).bind fun r2 =>
 (Z00 P .add 3 t21 (.int .i64 1)).bind fun t34 =>
 some ⟨.normal,[t1,r2.1,t19,t20,t34],r2.2,(r0.2.2+1),df⟩)
 (some ⟨(.exit 0),[t1,t7,t19,t20,t21],h,(c+1),df⟩)
theorem ZdG (o:Orc H) (rd:Option Nat) (t1 t7 t19 t20 t21:Value) (h:H) (c:Nat) (df:List Nat):jx P o 36 rd Z3x (Z0f [1,7,19,20,21] [t1,t7,t19,t20,t21]) h c df (Klp [1,7,19,20,21])=Z8W o rd t1 t7 t19 t20 t21 h c df:=by kernel_rfl
noncomputable def Zrl (o:Orc H) (t0 t1:Value) (h:H) (c:Nat):Option (Rt H) :=
 (bif (t0:Value).cells.toList.all Z0c then
 (ldN (newB h (256*c+0) (t0:Value).cells.toList) 1 (ptrTo (256*c+0))).bind fun t11 =>
 (callF o 44 [t11] (newB h (256*c+0) (t0:Value).cells.toList) (c+1+1)).bind fun r0 =>
 (Z23 r0.1 0).bind fun t13 =>
 (Z23 r0.1 1).bind fun t14 =>
 (Z2T [] []).bind fun r1 =>
 (Z0z t14).bind fun t17 =>
 (Z06 t17 0).bind fun t18 =>
 (callF o 45 [t18] (newB r0.2.1 (256*r0.2.2+0) r1) (r0.2.2+1+1)).bind fun r2 =>
 (Z0X r2.1).bind fun t20 =>
 (o (Zja none) [t1,(.slice (some ⟨(256*r0.2.2+0),0,none⟩) 0 0),r2.1,t20,(.int .i64 0)] r2.2.1 r2.2.2 []).bind fun r3 =>
 cond (Z0q r3.e (.exit 0))
 ((Z0a r3.h r3.df).bind fun h4 =>
 some ⟨.ret,[r3.v 1],h4,(r3.c+1),[]⟩)
 (none)
 else none)
theorem ZoC (o:Orc H) (t0 t1:Value) (h:H) (c:Nat):jx P o 36 none f49_c (Z0f (List.range 2) [t0,t1]) h c [] (Kfn P Try.f49.results.toList)=Zrl o t0 t1 h c:=by kernel_rfl
noncomputable def Zj9 (o:Orc H) (t0 t1 t2 t3:Value) (h:H) (c:Nat):Option (Rt H) :=
 (Z00 P .mul 3 (.int .i64 7) t1).bind fun t11 =>
 (Z00 P .add 3 t11 t3).bind fun t13 =>
 (ixS 1 t0 t13).bind fun t14 =>
 (ld1 h t14).bind fun t15 =>
 (Z00 P .mul 3 (.int .i64 7) t1).bind fun t18 =>
 (Z00 P .add 3 t18 (.int .i64 4)).bind fun t19 =>
 (callF o 60 [] h (c+1+1)).bind fun r0 =>
 (ixV 4 true 4 r0.1 t3).bind fun t22 =>
 (ixV 4 false 1 t22 t2).bind fun t24 =>
 (Z00 P .add 3 t19 t24).bind fun t25 =>
 (ixS 1 t0 t25).bind fun t26 =>
 (ld1 r0.2.1 t26).bind fun t27 =>
 (Z00 P .add 3 t15 t27).bind fun t28 =>
 (bif (Z18 (Z2G t14) h r0.2.1 && true) then
 some ⟨.ret,[t28],r0.2.1,r0.2.2,[]⟩
 else none)
theorem Zi1 (o:Orc H) (t0 t1 t2 t3:Value) (h:H) (c:Nat):jx P o 29 none f50_c (Z0f (List.range 4) [t0,t1,t2,t3]) h c [] (Kfn P Try.f50.results.toList)=Zj9 o t0 t1 t2 t3 h c:=by kernel_rfl
theorem ZpY {t0 t1 t2 t3:Value} {h:FH} {c:Nat} {df:List Nat} {r:Rt FH} (e:Zj9 G t0 t1 t2 t3 h c=some r):G (.fn 50) [t0,t1,t2,t3] h c df=some (gcR h c [] r):=Z0d (a:=ZfS) bk_50 rfl (fun args h c=>by cases args <;> rfl) rfl ((Zi1 G t0 t1 t2 t3 h c).trans e)
noncomputable def Zld (o:Orc H) (t0:Value) (h:H) (c:Nat):Option (Rt H) :=
 (Z00 P .eql 34 t0 (.slice none 0 0)).bind fun t4 =>
 Z07 t4
 (some ⟨.ret,[(.slice none 0 0)],h,(c+1+1+1),[]⟩)
 ((Z2T [] []).bind fun r0 =>
 (Z7q (newB h (256*(c+1+1)+0) r0) (256*(c+1+1)+2) 1 8 (.slice (some ⟨(256*(c+1+1)+0),0,none⟩) 0 0) t0).bind fun r1 =>
 some ⟨.ret,[r1.1],r1.2,(c+1+1+1),[]⟩)
theorem Zi0 (o:Orc H) (t0:Value) (h:H) (c:Nat):jx P o 8 none f53_c (Z0f (List.range 1) [t0]) h c [] (Kfn P Try.f53.results.toList)=Zld o t0 h c:=by kernel_rfl
theorem f53_go {t0:Value} {h:FH} {c:Nat} {df:List Nat} {r:Rt FH} (e:Zld G t0 h c=some r):G (.fn 53) [t0] h c df=some r:=Z0d (a:=ZfR) bk_53 rfl (fun args h c=>by cases args <;> rfl) rfl ((Zi0 G t0 h c).trans e)
noncomputable def Z8V (o:Orc H) (rd:Option Nat) (t1 t5 t10 t11:Value) (h:H) (c:Nat) (df:List Nat):Option (Rt H) :=
 (Z00 P .lss 3 t11 t10).bind fun t12 =>
 Z07 t12
 ((Z00 P .mul 3 (.int .i64 7) t11).bind fun t17 =>
 (Z00 P .add 3 t17 (.int .i64 4)).bind fun t18 =>
 (Z00 P .mul 3 (.int .i64 7) t11).bind fun t20 =>
 (Z00 P .add 3 t20 (.int .i64 7)).bind fun t21 =>
 (slS h 1 t1 (some t18) (some t21) none).bind fun t22 =>
 (Z7q h (256*(c+1+1)+9) 1 8 t5 t22).bind fun r0 =>
 (Z00 P .add 3 t11 (.int .i64 1)).bind fun t24 =>
 some ⟨.normal,[t1,r0.1,t10,t24],r0.2,(c+1+1+1+1),df⟩)
 (some ⟨(.exit 0),[t1,t5,t10,t11],h,(c+1),df⟩)
theorem Z7T (o:Orc H) (rd:Option Nat) (t1 t5 t10 t11:Value) (h:H) (c:Nat) (df:List Nat):jx P o 26 rd Z8U (Z0f [1,5,10,11] [t1,t5,t10,t11]) h c df (Klp [1,5,10,11])=Z8V o rd t1 t5 t10 t11 h c df:=by kernel_rfl
noncomputable def Zrj (o:Orc H) (t0 t1:Value) (h:H) (c:Nat):Option (Rt H) :=
 (bif (t0:Value).cells.toList.all Z0c then
 (Z2T [] []).bind fun r0 =>
 (Z06 (ptrTo (256*c+0)) 0).bind fun t8 =>
 (ld1 (newB (newB h (256*c+0) (t0:Value).cells.toList) (256*(c+1)+0) r0) t8).bind fun t9 =>
 (Z0X t9).bind fun t10 =>
 (o (Zch none) [t1,(.slice (some ⟨(256*(c+1)+0),0,none⟩) 0 0),t10,(.int .i64 0)] (newB (newB h (256*c+0) (t0:Value).cells.toList) (256*(c+1)+0) r0) (c+1+1+1) []).bind fun r1 =>
 cond (Z0q r1.e (.exit 0))
 ((Z0a r1.h r1.df).bind fun h2 =>
 some ⟨.ret,[r1.v 1],h2,(r1.c+1),[]⟩)
 (none)
 else none)
theorem ZoB (o:Orc H) (t0 t1:Value) (h:H) (c:Nat):jx P o 26 none f54_c (Z0f (List.range 2) [t0,t1]) h c [] (Kfn P Try.f54.results.toList)=Zrj o t0 t1 h c:=by kernel_rfl
theorem f54_go {t0 t1:Value} {h:FH} {c:Nat} {df:List Nat} {r:Rt FH} (e:Zrj G t0 t1 h c=some r):G (.fn 54) [t0,t1] h c df=some r:=Z0d (a:=ZoA) bk_54 rfl (fun args h c=>by cases args <;> rfl) rfl ((ZoB G t0 t1 h c).trans e)
noncomputable def Zlb (o:Orc H) (t0:Value) (h:H) (c:Nat):Option (Rt H) :=
 (callF o 75 [t0,(.func (.func 76) #[] #[])] h (c+1+1)).bind fun r0 =>
 (Z1i .not r0.1).bind fun t5 =>
 some ⟨.ret,[t5],r0.2.1,r0.2.2,[]⟩
theorem ZhZ (o:Orc H) (t0:Value) (h:H) (c:Nat):jx P o 6 none f55_c (Z0f (List.range 1) [t0]) h c [] (Kfn P Try.f55.results.toList)=Zlb o t0 h c:=by kernel_rfl
theorem f55_go {t0:Value} {h:FH} {c:Nat} {df:List Nat} {r:Rt FH} (e:Zlb G t0 h c=some r):G (.fn 55) [t0] h c df=some (gcR h c [] r):=Z0d (a:=ZfQ) bk_55 rfl (fun args h c=>by cases args <;> rfl) rfl ((ZhZ G t0 h c).trans e)
noncomputable def Z4U (o:Orc H) (rd:Option Nat) (t3 t6 t7 t8:Value) (h:H) (c:Nat) (df:List Nat):Option (Rt H) :=
 (Z00 P .lss 3 t8 t7).bind fun t9 =>
 Z07 t9
 ((ixS 1 t6 t8).bind fun t10 =>
 (ld1 h t10).bind fun t11 =>
 (Z00 P .neq 3 t11 (.int .i64 0)).bind fun t13 =>
 (Z07 t13
  ((Z00 P .add 3 t3 (.int .i64 1)).bind fun t15 =>
  some ⟨.normal,[t15,t6,t7,t8],h,(c+1+1+1+1),df⟩)
  (some ⟨.normal,[t3,t6,t7,t8],h,(c+1+1+1),df⟩):Option (Rt H)).bind fun r1 =>
 cond (Z0q r1.e .normal)
  ((Z00 P .add 3 (r1.v 3) (.int .i64 1)).bind fun t16 =>
  some ⟨.normal,[r1.v 0,r1.v 1,r1.v 2,t16],r1.h,(r1.c+1),r1.df⟩)
  (none))
 (some ⟨(.exit 0),[t3,t6,t7,t8],h,(c+1),df⟩)
theorem Z5F (o:Orc H) (rd:Option Nat) (t3 t6 t7 t8:Value) (h:H) (c:Nat) (df:List Nat):jx P o 19 rd Z3w (Z0f [3,6,7,8] [t3,t6,t7,t8]) h c df (Klp [3,6,7,8])=Z4U o rd t3 t6 t7 t8 h c df:=by kernel_rfl
noncomputable def Zla (o:Orc H) (t0:Value) (h:H) (c:Nat):Option (Rt H) :=
 (Z0X t0).bind fun t7 =>
 (o (Zcg none) [(.int .i64 0),t0,t7,(.int .i64 0)] h (c+1+1+1) []).bind fun r0 =>
 cond (Z0q r0.e (.exit 0))
 ((Z00 P .leq 3 (r0.v 0) (.int .i64 1)).bind fun t18 =>
 (Z0a r0.h r0.df).bind fun h1 =>
 some ⟨.ret,[t18],h1,(r0.c+1),[]⟩)
 (none)
theorem ZhY (o:Orc H) (t0:Value) (h:H) (c:Nat):jx P o 19 none f56_c (Z0f (List.range 1) [t0]) h c [] (Kfn P Try.f56.results.toList)=Zla o t0 h c:=by kernel_rfl
theorem f56_go {t0:Value} {h:FH} {c:Nat} {df:List Nat} {r:Rt FH} (e:Zla G t0 h c=some r):G (.fn 56) [t0] h c df=some (gcR h c [] r):=Z0d (a:=ZfP) bk_56 rfl (fun args h c=>by cases args <;> rfl) rfl ((ZhY G t0 h c).trans e)

variable {H:Type} [HeapC H]
noncomputable def Z4T (o:Orc H) (rd:Option Nat) (t1 t2 t4 t5 t6 t7 t33 t34:Value) (h:H) (c:Nat) (df:List Nat):Option (Rt H) :=
 (Z00 P .lss 3 t34 t33).bind fun t35 =>
 Z07 t35
 ((Z00 P .mul 3 (.int .i64 7) t34).bind fun t39 =>
 (Z00 P .add 3 t39 (.int .i64 4)).bind fun t40 =>
 (slS h 1 t7 (some t40) none none).bind fun t41 =>
 (Z00 P .mul 3 (.int .i64 3) t34).bind fun t44 =>
 (Z00 P .mul 3 (.int .i64 3) t34).bind fun t46 =>
 (Z00 P .add 3 t46 (.int .i64 3)).bind fun t47 =>
 (slS h 1 t1 (some t44) (some t47) none).bind fun t48 =>
 (Z0M P h (256*(c+1+1)+12) .copy [34,34] [t41,t48]).bind fun r0 =>
 (Z00 P .add 3 t34 (.int .i64 1)).bind fun t50 =>
 some ⟨.normal,[t1,t2,t4,t5,t6,t7,t33,t50],r0.2,(c+1+1+1+1),df⟩)
 (some ⟨(.exit 0),[t1,t2,t4,t5,t6,t7,t33,t34],h,(c+1),df⟩)
theorem Z5E (o:Orc H) (rd:Option Nat) (t1 t2 t4 t5 t6 t7 t33 t34:Value) (h:H) (c:Nat) (df:List Nat):jx P o 200 rd Z3t (Z0f [1,2,4,5,6,7,33,34] [t1,t2,t4,t5,t6,t7,t33,t34]) h c df (Klp [1,2,4,5,6,7,33,34])=Z4T o rd t1 t2 t4 t5 t6 t7 t33 t34 h c df:=by kernel_rfl
noncomputable def Z1F (o:Orc H) (rd:Option Nat) (t2 t4 t5 t7 t11 t14 t15 t16 t17 t18 t62 t63 t64 t93 t94:Value) (h:H) (c:Nat) (df:List Nat):Option (Rt H) :=
 (Z00 P .lss 3 t94 (.int .i64 4)).bind fun t95 =>
 Z07 t95
 (((ixV 4 true 5 t93 t94).bind fun t97 =>
  (stN (newB h (256*(c+1)+2) [(.int .i64 0),(.int .i64 0),(.int .i64 0),(.int .i64 0),(.int .i64 0)]) 5 (ptrTo (256*(c+1)+2)) t97).bind fun h1 =>
  (Z00 P .eql 3 t94 t18).bind fun t100 =>
  (gd t100 false h1 (c+1+1+1) (Z06 (ptrTo (256*(c+1)+2)) 0)).bind fun r2 =>
  (gd t100 false r2.2.1 r2.2.2 (ld1 r2.2.1 r2.1)).bind fun r3 =>
  (gd t100 false r3.2.1 r3.2.2 (Z00 P .lss 3 r3.1 (.int .i64 0))).bind fun r4 =>
  (Z0D t100 (.bool true) r4.1).bind fun t105 =>
  Z07 t105
   (some ⟨.normal,[t2,t4,t5,t7,t11,t14,t15,t16,t17,t18,t62,t63,t64,t93,t94],r4.2.1,r4.2.2,df⟩)
   ((Z06 (ptrTo (256*(c+1)+2)) 0).bind fun t106 =>
   (ld1 r4.2.1 t106).bind fun t107 =>
   (Z06 (ptrTo (256*(c+1)+2)) 1).bind fun t109 =>
   (ixA 4 1 t109 t18).bind fun t110 =>
   (ld1 r4.2.1 t110).bind fun t111 =>
   (Z06 (ptrTo (256*(c+1)+2)) 1).bind fun t113 =>
   (ixA 4 1 t113 t94).bind fun t114 =>
   (ld1 r4.2.1 t114).bind fun t115 =>
   (callF o 50 [t7,t17,t94,t18] r4.2.1 (r4.2.2+1+1)).bind fun r5 =>
   (Z00 P .mul 3 (.int .i64 7) t107).bind fun t123 =>
   (Z00 P .add 3 t123 (.int .i64 4)).bind fun t124 =>
   (callF o 60 [] r5.2.1 r5.2.2).bind fun r6 =>
   (ixV 4 true 4 r6.1 t111).bind fun t127 =>
   (ixV 4 false 1 t127 t115).bind fun t129 =>
   (Z00 P .add 3 t124 t129).bind fun t130 =>
   (ixS 1 t7 t130).bind fun t131 =>
   (ld1 r6.2.1 t131).bind fun t132 =>
   (Z00 P .sub 3 r5.1 t132).bind fun t133 =>
   (Z00 P .mul 3 (.int .i64 4) t107).bind fun t137 =>
   (Z00 P .add 3 t137 t111).bind fun t139 =>
   (ixS 1 t11 t139).bind fun t140 =>
   (ld1 r6.2.1 t140).bind fun t141 =>
   (Z1i .not t141).bind fun t142 =>
   (Z07 t142
    ((Z00 P .mul 3 (.int .i64 4) t107).bind fun t145 =>
    (Z00 P .add 3 t145 t111).bind fun t147 =>
    (ixS 1 t11 t147).bind fun t148 =>
    (stN r6.2.1 1 t148 (.bool true)).bind fun h8 =>
    (Z00 P .mul 3 (.int .i64 7) t107).bind fun t151 =>
    (Z00 P .add 3 t151 t111).bind fun t153 =>
    (ixS 1 t7 t153).bind fun t155 =>
    (stN h8 1 t155 t133).bind fun h10 =>
    (Z28 min2 [t15,t133]).bind fun t158 =>
    (Z00 P .mul 3 (.int .i64 4) t107).bind fun t161 =>
    (Z00 P .add 3 t161 t111).bind fun t163 =>
    (Z2T [(.int .i64 0)] [(0,1,t163)]).bind fun r12 =>
    (Z7q (newB h10 (256*(r6.2.2+1+1+1+1)+5) r12) (256*(r6.2.2+1+1+1+1)+6) 1 8 t14 (.slice (some ⟨(256*(r6.2.2+1+1+1+1)+5),0,none⟩) 1 1)).bind fun r13 =>
    some ⟨.normal,[t2,t4,t5,t7,t11,r13.1,t158,t16,t17,t18,t62,t63,t64,t93,t94],r13.2,(r6.2.2+1+1+1+1+1),df⟩)
    ((Z00 P .mul 3 (.int .i64 7) t107).bind fun t169 =>
    (Z00 P .add 3 t169 t111).bind fun t171 =>
    (ixS 1 t7 t171).bind fun t172 =>
    (ld1 r6.2.1 t172).bind fun t173 =>
    (Z00 P .neq 3 t173 t133).bind fun t175 =>
    Z07 t175
     (some ⟨.ret,[t2,(.slice none 0 0),(.bool false),t7,t11,t14,t15,t16,t17,t18,t62,t63,t64,t93,t94],r6.2.1,(r6.2.2+1+1+1),df⟩)
     (some ⟨.normal,[t2,t4,t5,t7,t11,t14,t15,t16,t17,t18,t62,t63,t64,t93,t94],r6.2.1,(r6.2.2+1+1),df⟩)):Option (Rt H)).bind fun r17 =>
   cond (Z0q r17.e .normal)
    (some ⟨.normal,[r17.v 0,r17.v 1,r17.v 2,r17.v 3,r17.v 4,r17.v 5,r17.v 6,r17.v 7,r17.v 8,r17.v 9,r17.v 10,r17.v 11,r17.v 12,r17.v 13,r17.v 14],r17.h,r17.c,r17.df⟩)
    (cond (Z0q r17.e .ret)
     (some ⟨.ret,[r17.v 0,r17.v 1,r17.v 2,r17.v 3,r17.v 4,r17.v 5,r17.v 6,r17.v 7,r17.v 8,r17.v 9,r17.v 10,r17.v 11,r17.v 12,r17.v 13,r17.v 14],r17.h,r17.c,r17.df⟩)
     (none))):Option (Rt H)).bind fun r18 =>
 cond (Z0q r18.e .normal)
  ((Z00 P .add 3 (r18.v 14) (.int .i64 1)).bind fun t176 =>
  some ⟨.normal,[r18.v 0,r18.v 1,r18.v 2,r18.v 3,r18.v 4,r18.v 5,r18.v 6,r18.v 7,r18.v 8,r18.v 9,r18.v 10,r18.v 11,r18.v 12,r18.v 13,t176],r18.h,(r18.c+1),r18.df⟩)
  (cond (Z0q r18.e .ret)
   (some ⟨.ret,[r18.v 0,r18.v 1,r18.v 2,r18.v 3,r18.v 4,r18.v 5,r18.v 6,r18.v 7,r18.v 8,r18.v 9,r18.v 10,r18.v 11,r18.v 12,r18.v 13,r18.v 14],r18.h,r18.c,r18.df⟩)
   (none)))
 (some ⟨(.exit 6),[t2,t4,t5,t7,t11,t14,t15,t16,t17,t18,t62,t63,t64,t93,t94],h,(c+1),df⟩)
theorem Z1b (o:Orc H) (rd:Option Nat) (t2 t4 t5 t7 t11 t14 t15 t16 t17 t18 t62 t63 t64 t93 t94:Value) (h:H) (c:Nat) (df:List Nat):jx P o 200 rd Z3q (Z0f [2,4,5,7,11,14,15,16,17,18,62,63,64,93,94] [t2,t4,t5,t7,t11,t14,t15,t16,t17,t18,t62,t63,t64,t93,t94]) h c df (Klp [2,4,5,7,11,14,15,16,17,18,62,63,64,93,94])=Z1F o rd t2 t4 t5 t7 t11 t14 t15 t16 t17 t18 t62 t63 t64 t93 t94 h c df:=by kernel_rfl
noncomputable def Z3u (o:Orc H) (rd:Option Nat) (t2 t4 t5 t7 t11 t14 t15 t16 t62 t63 t64:Value) (h:H) (c:Nat) (df:List Nat):Option (Rt H) :=
 (Z0X t14).bind fun t75 =>
 (Z00 P .lss 3 t16 t75).bind fun t76 =>
 Z07 t76
 ((ixS 1 t14 t16).bind fun t81 =>
 (ld1 h t81).bind fun t82 =>
 (Z00 P .quo 3 t82 (.int .i64 4)).bind fun t83 =>
 (ixS 1 t14 t16).bind fun t86 =>
 (ld1 h t86).bind fun t87 =>
 (Z00 P .rem 3 t87 (.int .i64 4)).bind fun t88 =>
 (Z06 t2 0).bind fun t89 =>
 (ld1 h t89).bind fun t90 =>
 (ixS 20 t90 t83).bind fun t92 =>
 (ldN h 20 t92).bind fun t93 =>
 (o (Zcd rd) [t2,t4,t5,t7,t11,t14,t15,t16,t83,t88,t62,t63,t64,t93,(.int .i64 0)] h (c+1+1+1) df).bind fun r0 =>
 cond (Z0q r0.e (.exit 6))
  ((Z00 P .add 3 (r0.v 7) (.int .i64 1)).bind fun t78 =>
  some ⟨.normal,[r0.v 0,r0.v 1,r0.v 2,r0.v 3,r0.v 4,r0.v 5,r0.v 6,t78,r0.v 10,r0.v 11,r0.v 12],r0.h,(r0.c+1),r0.df⟩)
  (cond (Z0q r0.e .ret)
   (some ⟨.ret,[r0.v 0,r0.v 1,r0.v 2,r0.v 3,r0.v 4,r0.v 5,r0.v 6,r0.v 7,r0.v 10,r0.v 11,r0.v 12],r0.h,r0.c,r0.df⟩)
   (none)))
 (some ⟨(.exit 4),[t2,t4,t5,t7,t11,t14,t15,t16,t62,t63,t64],h,(c+1),df⟩)
theorem Z2Z (o:Orc H) (rd:Option Nat) (t2 t4 t5 t7 t11 t14 t15 t16 t62 t63 t64:Value) (h:H) (c:Nat) (df:List Nat):jx P o 200 rd Z3r (Z0f [2,4,5,7,11,14,15,16,62,63,64] [t2,t4,t5,t7,t11,t14,t15,t16,t62,t63,t64]) h c df (Klp [2,4,5,7,11,14,15,16,62,63,64])=Z3u o rd t2 t4 t5 t7 t11 t14 t15 t16 t62 t63 t64 h c df:=by kernel_rfl
noncomputable def Z4S (o:Orc H) (rd:Option Nat) (t2 t4 t5 t7 t11 t15 t62 t63 t64 t177 t178 t179:Value) (h:H) (c:Nat) (df:List Nat):Option (Rt H) :=
 (Z00 P .lss 3 t179 t178).bind fun t180 =>
 Z07 t180
 ((ixS 1 t177 t179).bind fun t181 =>
 (ld1 h t181).bind fun t182 =>
 (Z00 P .quo 3 t182 (.int .i64 4)).bind fun t185 =>
 (Z00 P .mul 3 t185 (.int .i64 7)).bind fun t186 =>
 (Z00 P .rem 3 t182 (.int .i64 4)).bind fun t188 =>
 (Z00 P .add 3 t186 t188).bind fun t189 =>
 (ixS 1 t7 t189).bind fun t190 =>
 (ld1 h t190).bind fun t191 =>
 (Z00 P .sub 3 t191 t15).bind fun t193 =>
 (ixS 1 t7 t189).bind fun t194 =>
 (stN h 1 t194 t193).bind fun h1 =>
 (Z00 P .add 3 t179 (.int .i64 1)).bind fun t195 =>
 some ⟨.normal,[t2,t4,t5,t7,t11,t15,t62,t63,t64,t177,t178,t195],h1,(c+1+1+1+1),df⟩)
 (some ⟨(.exit 9),[t2,t4,t5,t7,t11,t15,t62,t63,t64,t177,t178,t179],h,(c+1),df⟩)
theorem Z5D (o:Orc H) (rd:Option Nat) (t2 t4 t5 t7 t11 t15 t62 t63 t64 t177 t178 t179:Value) (h:H) (c:Nat) (df:List Nat):jx P o 200 rd Z3p (Z0f [2,4,5,7,11,15,62,63,64,177,178,179] [t2,t4,t5,t7,t11,t15,t62,t63,t64,t177,t178,t179]) h c df (Klp [2,4,5,7,11,15,62,63,64,177,178,179])=Z4S o rd t2 t4 t5 t7 t11 t15 t62 t63 t64 t177 t178 t179 h c df:=by kernel_rfl
noncomputable def Z3v (o:Orc H) (rd:Option Nat) (t2 t4 t5 t7 t11 t62 t63 t64:Value) (h:H) (c:Nat) (df:List Nat):Option (Rt H) :=
 (Z00 P .lss 3 t64 t63).bind fun t65 =>
 Z07 t65
 ((ixS 1 t62 t64).bind fun t66 =>
 (ld1 h t66).bind fun t67 =>
 (ixS 1 t11 t67).bind fun t70 =>
 (stN h 1 t70 (.bool true)).bind fun h1 =>
 (Z2T [(.int .i64 0)] [(0,1,t67)]).bind fun r2 =>
 (o (Z8T rd) [t2,t4,t5,t7,t11,(.slice (some ⟨(256*(c+1+1+1)+1),0,none⟩) 1 1),(.int .i64 0),(.int .i64 0),t62,t63,t64] (newB h1 (256*(c+1+1+1)+1) r2) (c+1+1+1+1+1+1) df).bind fun r3 =>
 cond (Z0q r3.e (.exit 4))
  ((Z0X (r3.v 5)).bind fun t178 =>
  (o (Zcc rd) [r3.v 0,r3.v 1,r3.v 2,r3.v 3,r3.v 4,r3.v 6,r3.v 8,r3.v 9,r3.v 10,r3.v 5,t178,(.int .i64 0)] r3.h (r3.c+1) r3.df).bind fun r4 =>
  cond (Z0q r4.e (.exit 9))
   ((Z00 P .add 3 (r4.v 8) (.int .i64 1)).bind fun t196 =>
   some ⟨.normal,[r4.v 0,r4.v 1,r4.v 2,r4.v 3,r4.v 4,r4.v 6,r4.v 7,t196],r4.h,(r4.c+1),r4.df⟩)
   (none))
  (cond (Z0q r3.e .ret)
   (some ⟨.ret,[r3.v 0,r3.v 1,r3.v 2,r3.v 3,r3.v 4,r3.v 8,r3.v 9,r3.v 10],r3.h,r3.c,r3.df⟩)
   (none)))
 (some ⟨(.exit 2),[t2,t4,t5,t7,t11,t62,t63,t64],h,(c+1),df⟩)
theorem Z30 (o:Orc H) (rd:Option Nat) (t2 t4 t5 t7 t11 t62 t63 t64:Value) (h:H) (c:Nat) (df:List Nat):jx P o 200 rd Z3s (Z0f [2,4,5,7,11,62,63,64] [t2,t4,t5,t7,t11,t62,t63,t64]) h c df (Klp [2,4,5,7,11,62,63,64])=Z3v o rd t2 t4 t5 t7 t11 t62 t63 t64 h c df:=by kernel_rfl
noncomputable def Zl9 (o:Orc H) (t0 t1:Value) (h:H) (c:Nat):Option (Rt H) :=
 (bif (t0:Value).cells.toList.all Z0c then
 (Z06 (ptrTo (256*c+0)) 0).bind fun t27 =>
 (ld1 (newB h (256*c+0) (t0:Value).cells.toList) t27).bind fun t28 =>
 (Z0X t28).bind fun t29 =>
 (Z00 P .mul 3 (.int .i64 7) t29).bind fun t31 =>
 (mkS 1 8 [(.int .i64 0)] t31 t31).bind fun r0 =>
 (o (Zcf none) [t1,(ptrTo (256*c+0)),(.slice none 0 0),(.bool false),t29,(.slice (some ⟨(256*(c+1+1)+2),0,none⟩) r0.2.1 r0.2.2),t29,(.int .i64 0)] (newB (newB h (256*c+0) (t0:Value).cells.toList) (256*(c+1+1)+2) r0.1) (c+1+1+1+1) []).bind fun r1 =>
 cond (Z0q r1.e (.exit 0))
 ((ldN r1.h 1 (r1.v 1)).bind fun t52 =>
 (callF o 44 [t52] r1.h (r1.c+1)).bind fun r2 =>
 (Z23 r2.1 0).bind fun t54 =>
 (Z23 r2.1 1).bind fun t55 =>
 (Z00 P .mul 3 (.int .i64 4) (r1.v 4)).bind fun t57 =>
 (mkS 1 1 [(.bool false)] t57 t57).bind fun r3 =>
 (Z0z t54).bind fun t60 =>
 (Z06 t60 0).bind fun t61 =>
 (callF o 45 [t61] (newB r2.2.1 (256*r2.2.2+2) r3.1) (r2.2.2+1+1)).bind fun r4 =>
 (Z0X r4.1).bind fun t63 =>
 (o (Zce none) [r1.v 1,r1.v 2,r1.v 3,r1.v 5,(.slice (some ⟨(256*r2.2.2+2),0,none⟩) r3.2.1 r3.2.2),r4.1,t63,(.int .i64 0)] r4.2.1 r4.2.2 r1.df).bind fun r5 =>
 cond (Z0q r5.e (.exit 2))
  ((callF o 55 [r5.v 3] r5.h (r5.c+1)).bind fun r7 =>
  (Z0a r7.2.1 r5.df).bind fun h8 =>
  some ⟨.ret,[.tuple #[r5.v 3,r7.1]],h8,r7.2.2,[]⟩)
  (cond (Z0q r5.e .ret)
   ((Z0a r5.h r5.df).bind fun h6 =>
   some ⟨.ret,[.tuple #[r5.v 1,r5.v 2]],h6,r5.c,[]⟩)
   (none)))
 (none)
 else none)
theorem ZhX (o:Orc H) (t0 t1:Value) (h:H) (c:Nat):jx P o 200 none f57_c (Z0f (List.range 2) [t0,t1]) h c [] (Kfn P Try.f57.results.toList)=Zl9 o t0 t1 h c:=by kernel_rfl
theorem f57_go {t0 t1:Value} {h:FH} {c:Nat} {df:List Nat} {r:Rt FH} (e:Zl9 G t0 t1 h c=some r):G (.fn 57) [t0,t1] h c df=some r:=Z0d (a:=ZfO) bk_57 rfl (fun args h c=>by cases args <;> rfl) rfl ((ZhX G t0 t1 h c).trans e)
noncomputable def Zrh (o:Orc H) (t0:Value) (h:H) (c:Nat):Option (Rt H) :=
 (bif (t0:Value).cells.toList.all Z0c then
 (ldN (newB h (256*c+0) (t0:Value).cells.toList) 1 (ptrTo (256*c+0))).bind fun t3 =>
 (callF o 13 [t3] (newB h (256*c+0) (t0:Value).cells.toList) (c+1+1)).bind fun r0 =>
 (Z00 P .neq 27 r0.1 (.int .i64 0)).bind fun t5 =>
 Z07 t5
 (some ⟨.ret,[(.int .i64 7)],r0.2.1,(r0.2.2+1),[]⟩)
 ((Z06 (ptrTo (256*c+0)) 0).bind fun t6 =>
 (ld1 r0.2.1 t6).bind fun t7 =>
 (Z0X t7).bind fun t8 =>
 (Z00 P .gtr 3 t8 (.int .i64 60)).bind fun t9 =>
 Z07 t9
  (some ⟨.ret,[(.int .i64 2)],r0.2.1,(r0.2.2+1+1),[]⟩)
  (some ⟨.ret,[(.int .i64 0)],r0.2.1,(r0.2.2+1+1),[]⟩))
 else none)
theorem Zoz (o:Orc H) (t0:Value) (h:H) (c:Nat):jx P o 10 none f58_c (Z0f (List.range 1) [t0]) h c [] (Kfn P Try.f58.results.toList)=Zrh o t0 h c:=by kernel_rfl
theorem f58_go {t0:Value} {h:FH} {c:Nat} {df:List Nat} {r:Rt FH} (e:Zrh G t0 h c=some r):G (.fn 58) [t0] h c df=some (gcR h c [] r):=Z0d (a:=Zoy) bk_58 rfl (fun args h c=>by cases args <;> rfl) rfl ((Zoz G t0 h c).trans e)
noncomputable def Zl8 (o:Orc H) (t0:Value) (h:H) (c:Nat):Option (Rt H) :=
 (bif (t0:Value).cells.toList.all Z0c then
 some ⟨.ret,[(.func (.func 77) [].toArray [(ptrTo (256*c+0))].toArray)],(newB h (256*c+0) (t0:Value).cells.toList),(c+1+1),[]⟩
 else none)
theorem ZhW (o:Orc H) (t0:Value) (h:H) (c:Nat):jx P o 4 none f59_c (Z0f (List.range 1) [t0]) h c [] (Kfn P Try.f59.results.toList)=Zl8 o t0 h c:=by kernel_rfl
theorem f59_go {t0:Value} {h:FH} {c:Nat} {df:List Nat} {r:Rt FH} (e:Zl8 G t0 h c=some r):G (.fn 59) [t0] h c df=some r:=Z0d (a:=ZfM) bk_59 rfl (fun args h c=>by cases args <;> rfl) rfl ((ZhW G t0 h c).trans e)
noncomputable def Zl7 (o:Orc H) (h:H) (c:Nat):Option (Rt H) :=
 (Z4w [(.int .i64 0),(.int .i64 0),(.int .i64 0),(.int .i64 0)] [(0,1,(.int .i64 (-1))),(1,1,(.int .i64 0)),(2,1,(.int .i64 1)),(3,1,(.int .i64 2))]).bind fun t1 =>
 (Z4w [(.int .i64 0),(.int .i64 0),(.int .i64 0),(.int .i64 0)] [(0,1,(.int .i64 0)),(1,1,(.int .i64 (-1))),(2,1,(.int .i64 2)),(3,1,(.int .i64 1))]).bind fun t2 =>
 (Z4w [(.int .i64 0),(.int .i64 0),(.int .i64 0),(.int .i64 0)] [(0,1,(.int .i64 1)),(1,1,(.int .i64 2)),(2,1,(.int .i64 (-1))),(3,1,(.int .i64 0))]).bind fun t3 =>
 (Z4w [(.int .i64 0),(.int .i64 0),(.int .i64 0),(.int .i64 0)] [(0,1,(.int .i64 2)),(1,1,(.int .i64 1)),(2,1,(.int .i64 0)),(3,1,(.int .i64 (-1)))]).bind fun t4 =>
 (Z4w [(.int .i64 0),(.int .i64 0),(.int .i64 0),(.int .i64 0),(.int .i64 0),(.int .i64 0),(.int .i64 0),(.int .i64 0),(.int .i64 0),(.int .i64 0),(.int .i64 0),(.int .i64 0),(.int .i64 0),(.int .i64 0),(.int .i64 0),(.int .i64 0)] [(0,4,t1),(4,4,t2),(8,4,t3),(12,4,t4)]).bind fun t5 =>
 (stN (newB h (256*c+0) [(.int .i64 0),(.int .i64 0),(.int .i64 0),(.int .i64 0),(.int .i64 0),(.int .i64 0),(.int .i64 0),(.int .i64 0),(.int .i64 0),(.int .i64 0),(.int .i64 0),(.int .i64 0),(.int .i64 0),(.int .i64 0),(.int .i64 0),(.int .i64 0)]) 16 (ptrTo (256*c+0)) t5).bind fun h1 =>
 (ldN h1 16 (ptrTo (256*c+0))).bind fun v2 =>
 some ⟨.ret,[v2],h1,(c+1+1),[]⟩
theorem ZhV (o:Orc H) (h:H) (c:Nat):jx P o 6 none f60_c (Z0f (List.range 0) []) h c [] (Kfn P Try.f60.results.toList)=Zl7 o h c:=by kernel_rfl
theorem f60_go {h:FH} {c:Nat} {df:List Nat} {r:Rt FH} (e:Zl7 G h c=some r):G (.fn 60) [] h c df=some (gcR h c [] r):=Z0d (a:=ZfL) bk_60 rfl (fun args h c=>by cases args <;> rfl) rfl ((ZhV G h c).trans e)
noncomputable def Z4R (o:Orc H) (rd:Option Nat) (t1 t2 t4 t5:Value) (h:H) (c:Nat) (df:List Nat):Option (Rt H) :=
 (Z0X t1).bind fun t21 =>
 (Z00 P .lss 3 t5 t21).bind fun t22 =>
 Z07 t22
 ((ixS 1 t1 t5).bind fun t27 =>
 (ld1 h t27).bind fun t28 =>
 (Z00 P .lss 3 t28 (.int .i64 0)).bind fun t29 =>
 (gd t29 false h (c+1+1) (some t1)).bind fun r0 =>
 (gd t29 false r0.2.1 r0.2.2 (some t5)).bind fun r1 =>
 (gd t29 false r1.2.1 r1.2.2 (ixS 1 r0.1 r1.1)).bind fun r2 =>
 (gd t29 false r2.2.1 r2.2.2 (ld1 r2.2.1 r2.1)).bind fun r3 =>
 (gd t29 false r3.2.1 r3.2.2 (Z00 P .gtr 3 r3.1 (.int .i64 1000000))).bind fun r4 =>
 (Z0D t29 (.bool true) r4.1).bind fun t36 =>
 Z07 t36
  (some ⟨.ret,[t1,t2,(.bool false),t5],r4.2.1,(r4.2.2+1),df⟩)
  ((Z00 P .add 3 t5 (.int .i64 1)).bind fun t24 =>
  some ⟨.normal,[t1,t2,t4,t24],r4.2.1,(r4.2.2+1),df⟩))
 (some ⟨(.exit 0),[t1,t2,t4,t5],h,(c+1),df⟩)
theorem Z2Y (o:Orc H) (rd:Option Nat) (t1 t2 t4 t5:Value) (h:H) (c:Nat) (df:List Nat):jx P o 79 rd Z8S (Z0f [1,2,4,5] [t1,t2,t4,t5]) h c df (Klp [1,2,4,5])=Z4R o rd t1 t2 t4 t5 h c df:=by kernel_rfl
noncomputable def Z6H (o:Orc H) (rd:Option Nat) (t1 t2 t4 t6 t7 t8:Value) (h:H) (c:Nat) (df:List Nat):Option (Rt H) :=
 (Z00 P .lss 3 t8 (.int .i64 3)).bind fun t45 =>
 Z07 t45
 ((Z00 P .mul 3 (.int .i64 7) t6).bind fun t50 =>
 (Z00 P .add 3 t50 (.int .i64 4)).bind fun t51 =>
 (Z00 P .add 3 t51 t8).bind fun t53 =>
 (ixS 1 t1 t53).bind fun t54 =>
 (ld1 h t54).bind fun t55 =>
 (Z00 P .neq 3 t55 (.int .i64 0)).bind fun t56 =>
 (Z07 t56
  ((Z00 P .add 3 t7 (.int .i64 1)).bind fun t58 =>
  some ⟨.normal,[t1,t2,t4,t6,t58,t8],h,(c+1+1+1),df⟩)
  (some ⟨.normal,[t1,t2,t4,t6,t7,t8],h,(c+1+1),df⟩):Option (Rt H)).bind fun r1 =>
 cond (Z0q r1.e .normal)
  ((Z00 P .add 3 (r1.v 5) (.int .i64 1)).bind fun t47 =>
  some ⟨.normal,[r1.v 0,r1.v 1,r1.v 2,r1.v 3,r1.v 4,t47],r1.h,(r1.c+1),r1.df⟩)
  (none))
 (some ⟨(.exit 4),[t1,t2,t4,t6,t7,t8],h,(c+1),df⟩)
theorem Z5B (o:Orc H) (rd:Option Nat) (t1 t2 t4 t6 t7 t8:Value) (h:H) (c:Nat) (df:List Nat):jx P o 79 rd Z8Q (Z0f [1,2,4,6,7,8] [t1,t2,t4,t6,t7,t8]) h c df (Klp [1,2,4,6,7,8])=Z6H o rd t1 t2 t4 t6 t7 t8 h c df:=by kernel_rfl
noncomputable def Z6I (o:Orc H) (rd:Option Nat) (t1 t2 t4 t6:Value) (h:H) (c:Nat) (df:List Nat):Option (Rt H) :=
 (Z06 t2 0).bind fun t38 =>
 (ld1 h t38).bind fun t39 =>
 (Z0X t39).bind fun t40 =>
 (Z00 P .lss 3 t6 t40).bind fun t41 =>
 Z07 t41
 ((o (Zc9 rd) [t1,t2,t4,t6,(.int .i64 0),(.int .i64 0)] h (c+1+1+1) df).bind fun r0 =>
 cond (Z0q r0.e (.exit 4))
  ((Z00 P .gtr 3 (r0.v 4) (.int .i64 1)).bind fun t60 =>
  Z07 t60
   (some ⟨.ret,[r0.v 0,r0.v 1,(.bool false),r0.v 3],r0.h,(r0.c+1+1),r0.df⟩)
   ((Z00 P .add 3 (r0.v 3) (.int .i64 1)).bind fun t43 =>
   some ⟨.normal,[r0.v 0,r0.v 1,r0.v 2,t43],r0.h,(r0.c+1+1),r0.df⟩))
  (none))
 (some ⟨(.exit 2),[t1,t2,t4,t6],h,(c+1),df⟩)
theorem Z5C (o:Orc H) (rd:Option Nat) (t1 t2 t4 t6:Value) (h:H) (c:Nat) (df:List Nat):jx P o 79 rd Z8R (Z0f [1,2,4,6] [t1,t2,t4,t6]) h c df (Klp [1,2,4,6])=Z6I o rd t1 t2 t4 t6 h c df:=by kernel_rfl
noncomputable def Z6G (o:Orc H) (rd:Option Nat) (t1 t4 t9 t11:Value) (h:H) (c:Nat) (df:List Nat):Option (Rt H) :=
 (Z0X t9).bind fun t68 =>
 (Z00 P .lss 3 t11 t68).bind fun t69 =>
 Z07 t69
 ((ixS 1 t9 t11).bind fun t74 =>
 (ld1 h t74).bind fun t75 =>
 (callF o 33 [t75,t1] h (c+1+1)).bind fun r0 =>
 (Z00 P .neq 3 r0.1 (.int .i64 0)).bind fun t78 =>
 Z07 t78
  (some ⟨.ret,[t1,(.bool false),t9,t11],r0.2.1,(r0.2.2+1),df⟩)
  ((Z00 P .add 3 t11 (.int .i64 1)).bind fun t71 =>
  some ⟨.normal,[t1,t4,t9,t71],r0.2.1,(r0.2.2+1),df⟩))
 (some ⟨(.exit 6),[t1,t4,t9,t11],h,(c+1),df⟩)
theorem Z5A (o:Orc H) (rd:Option Nat) (t1 t4 t9 t11:Value) (h:H) (c:Nat) (df:List Nat):jx P o 79 rd Z8P (Z0f [1,4,9,11] [t1,t4,t9,t11]) h c df (Klp [1,4,9,11])=Z6G o rd t1 t4 t9 t11 h c df:=by kernel_rfl
noncomputable def Zre (o:Orc H) (t0 t1:Value) (h:H) (c:Nat):Option (Rt H) :=
 (bif (t0:Value).cells.toList.all Z0c then
 (Z0X t1).bind fun t13 =>
 (Z06 (ptrTo (256*c+0)) 0).bind fun t14 =>
 (ld1 (newB h (256*c+0) (t0:Value).cells.toList) t14).bind fun t15 =>
 (Z0X t15).bind fun t16 =>
 (Z00 P .mul 3 (.int .i64 7) t16).bind fun t17 =>
 (Z00 P .neq 3 t13 t17).bind fun t18 =>
 Z07 t18
 (some ⟨.ret,[(.bool false)],(newB h (256*c+0) (t0:Value).cells.toList),(c+1+1+1),[]⟩)
 ((o (Zcb none) [t1,(ptrTo (256*c+0)),(.bool false),(.int .i64 0)] (newB h (256*c+0) (t0:Value).cells.toList) (c+1+1+1) []).bind fun r0 =>
 cond (Z0q r0.e (.exit 0))
  ((o (Zca none) [r0.v 0,r0.v 1,r0.v 2,(.int .i64 0)] r0.h (r0.c+1) r0.df).bind fun r2 =>
  cond (Z0q r2.e (.exit 2))
   ((ldN r2.h 1 (r2.v 1)).bind fun t62 =>
   (callF o 26 [t62] r2.h (r2.c+1)).bind fun r4 =>
   (Z23 r4.1 0).bind fun t64 =>
   (Z23 r4.1 1).bind fun t65 =>
   (o (Zc8 none) [r2.v 0,r2.v 2,t64,(.int .i64 0)] r4.2.1 (r4.2.2+1) r2.df).bind fun r5 =>
   cond (Z0q r5.e (.exit 6))
    ((Z0a r5.h r5.df).bind fun h7 =>
    some ⟨.ret,[(.bool true)],h7,(r5.c+1),[]⟩)
    (cond (Z0q r5.e .ret)
     ((Z0a r5.h r5.df).bind fun h6 =>
     some ⟨.ret,[r5.v 1],h6,r5.c,[]⟩)
     (none)))
   (cond (Z0q r2.e .ret)
    ((Z0a r2.h r2.df).bind fun h3 =>
    some ⟨.ret,[r2.v 2],h3,r2.c,[]⟩)
    (none)))
  (cond (Z0q r0.e .ret)
   ((Z0a r0.h r0.df).bind fun h1 =>
   some ⟨.ret,[r0.v 2],h1,r0.c,[]⟩)
   (none)))
 else none)
theorem Zox (o:Orc H) (t0 t1:Value) (h:H) (c:Nat):jx P o 79 none f61_c (Z0f (List.range 2) [t0,t1]) h c [] (Kfn P Try.f61.results.toList)=Zre o t0 t1 h c:=by kernel_rfl
theorem f61_go {t0 t1:Value} {h:FH} {c:Nat} {df:List Nat} {r:Rt FH} (e:Zre G t0 t1 h c=some r):G (.fn 61) [t0,t1] h c df=some (gcR h c [] r):=Z0d (a:=Zow) bk_61 rfl (fun args h c=>by cases args <;> rfl) rfl ((Zox G t0 t1 h c).trans e)
noncomputable def Z4Q (o:Orc H) (rd:Option Nat) (t1 t3 t4 t5 t6 t7:Value) (h:H) (c:Nat) (df:List Nat):Option (Rt H) :=
 (Z00 P .lss 3 t7 (.int .i64 4)).bind fun t32 =>
 (gd t32 true h (c+1) (Z06 t6 0)).bind fun r0 =>
 (gd t32 true r0.2.1 r0.2.2 (ld1 r0.2.1 r0.1)).bind fun r1 =>
 (gd t32 true r1.2.1 r1.2.2 (Z00 P .geq 3 r1.1 (.int .i64 0))).bind fun r2 =>
 (Z0D t32 r2.1 (.bool false)).bind fun t37 =>
 Z07 t37
 ((Z00 P .neq 3 t7 t5).bind fun t42 =>
 (Z07 t42
  ((Z00 P .mul 3 (.int .i64 4) t4).bind fun t45 =>
  (Z00 P .add 3 t45 t7).bind fun t47 =>
  (Z06 t6 0).bind fun t48 =>
  (ld1 r2.2.1 t48).bind fun t49 =>
  (Z00 P .mul 3 (.int .i64 4) t49).bind fun t50 =>
  (Z06 t6 1).bind fun t52 =>
  (ixA 4 1 t52 t7).bind fun t53 =>
  (ld1 r2.2.1 t53).bind fun t54 =>
  (Z00 P .add 3 t50 t54).bind fun t55 =>
  (callF o 79 [t3,t47,t55] r2.2.1 (r2.2.2+1+1)).bind fun r3 =>
  some ⟨.normal,[t1,r3.1,t4,t5,t6,t7],r3.2.1,r3.2.2,df⟩)
  (some ⟨.normal,[t1,t3,t4,t5,t6,t7],r2.2.1,(r2.2.2+1),df⟩):Option (Rt H)).bind fun r5 =>
 cond (Z0q r5.e .normal)
  ((Z00 P .add 3 (r5.v 5) (.int .i64 1)).bind fun t39 =>
  some ⟨.normal,[r5.v 0,r5.v 1,r5.v 2,r5.v 3,r5.v 4,t39],r5.h,(r5.c+1),r5.df⟩)
  (none))
 (some ⟨(.exit 4),[t1,t3,t4,t5,t6,t7],r2.2.1,r2.2.2,df⟩)
theorem Z2X (o:Orc H) (rd:Option Nat) (t1 t3 t4 t5 t6 t7:Value) (h:H) (c:Nat) (df:List Nat):jx P o 59 rd Z8L (Z0f [1,3,4,5,6,7] [t1,t3,t4,t5,t6,t7]) h c df (Klp [1,3,4,5,6,7])=Z4Q o rd t1 t3 t4 t5 t6 t7 h c df:=by kernel_rfl
noncomputable def Z6F (o:Orc H) (rd:Option Nat) (t1 t3 t4 t5:Value) (h:H) (c:Nat) (df:List Nat):Option (Rt H) :=
 (Z00 P .lss 3 t5 (.int .i64 4)).bind fun t21 =>
 Z07 t21
 ((Z06 t1 0).bind fun t24 =>
 (ld1 h t24).bind fun t25 =>
 (ixS 20 t25 t4).bind fun t28 =>
 (ixA 4 5 t28 t5).bind fun t29 =>
 (ldN h 5 t29).bind fun t30 =>
 (stN (newB h (256*(c+1)+7) [(.int .i64 0),(.int .i64 0),(.int .i64 0),(.int .i64 0),(.int .i64 0)]) 5 (ptrTo (256*(c+1)+7)) t30).bind fun h1 =>
 (o (Z8K rd) [t1,t3,t4,t5,(ptrTo (256*(c+1)+7)),(.int .i64 0)] h1 (c+1+1+1) df).bind fun r2 =>
 cond (Z0q r2.e (.exit 4))
  ((Z00 P .add 3 (r2.v 3) (.int .i64 1)).bind fun t23 =>
  some ⟨.normal,[r2.v 0,r2.v 1,r2.v 2,t23],r2.h,(r2.c+1),r2.df⟩)
  (none))
 (some ⟨(.exit 2),[t1,t3,t4,t5],h,(c+1),df⟩)
theorem Z5z (o:Orc H) (rd:Option Nat) (t1 t3 t4 t5:Value) (h:H) (c:Nat) (df:List Nat):jx P o 59 rd Z8M (Z0f [1,3,4,5] [t1,t3,t4,t5]) h c df (Klp [1,3,4,5])=Z6F o rd t1 t3 t4 t5 h c df:=by kernel_rfl
noncomputable def Z8O (o:Orc H) (rd:Option Nat) (t1 t3 t4:Value) (h:H) (c:Nat) (df:List Nat):Option (Rt H) :=
 (Z06 t1 0).bind fun t14 =>
 (ld1 h t14).bind fun t15 =>
 (Z0X t15).bind fun t16 =>
 (Z00 P .lss 3 t4 t16).bind fun t17 =>
 Z07 t17
 ((o (Zc6 rd) [t1,t3,t4,(.int .i64 0)] h (c+1+1) df).bind fun r0 =>
 cond (Z0q r0.e (.exit 2))
  ((Z00 P .add 3 (r0.v 2) (.int .i64 1)).bind fun t19 =>
  some ⟨.normal,[r0.v 0,r0.v 1,t19],r0.h,(r0.c+1),r0.df⟩)
  (none))
 (some ⟨(.exit 0),[t1,t3,t4],h,(c+1),df⟩)
theorem Z7S (o:Orc H) (rd:Option Nat) (t1 t3 t4:Value) (h:H) (c:Nat) (df:List Nat):jx P o 59 rd Z8N (Z0f [1,3,4] [t1,t3,t4]) h c df (Klp [1,3,4])=Z8O o rd t1 t3 t4 h c df:=by kernel_rfl
noncomputable def Zrd (o:Orc H) (t0:Value) (h:H) (c:Nat):Option (Rt H) :=
 (bif (t0:Value).cells.toList.all Z0c then
 (Z06 (ptrTo (256*c+0)) 0).bind fun t8 =>
 (ld1 (newB h (256*c+0) (t0:Value).cells.toList) t8).bind fun t9 =>
 (Z0X t9).bind fun t10 =>
 (Z00 P .mul 3 (.int .i64 4) t10).bind fun t11 =>
 (callF o 78 [t11] (newB h (256*c+0) (t0:Value).cells.toList) (c+1+1)).bind fun r0 =>
 (o (Zc7 none) [(ptrTo (256*c+0)),r0.1,(.int .i64 0)] r0.2.1 (r0.2.2+1) []).bind fun r1 =>
 cond (Z0q r1.e (.exit 0))
 ((callF o 80 [r1.v 1] r1.h (r1.c+1)).bind fun r2 =>
 (Z0a r2.2.1 r1.df).bind fun h3 =>
 some ⟨.ret,[r2.1],h3,r2.2.2,[]⟩)
 (none)
 else none)
theorem Zov (o:Orc H) (t0:Value) (h:H) (c:Nat):jx P o 59 none f62_c (Z0f (List.range 1) [t0]) h c [] (Kfn P Try.f62.results.toList)=Zrd o t0 h c:=by kernel_rfl
theorem f62_go {t0:Value} {h:FH} {c:Nat} {df:List Nat} {r:Rt FH} (e:Zrd G t0 h c=some r):G (.fn 62) [t0] h c df=some r:=Z0d (a:=Zou) bk_62 rfl (fun args h c=>by cases args <;> rfl) rfl ((Zov G t0 h c).trans e)

variable {H:Type} [HeapC H]
noncomputable def Z8J (o:Orc H) (rd:Option Nat) (t0 t3 t4:Value) (h:H) (c:Nat) (df:List Nat):Option (Rt H) :=
 (Z0X t0).bind fun t7 =>
 (Z00 P .lss 3 t4 t7).bind fun t8 =>
 Z07 t8
 ((ixS 1 t0 t4).bind fun t14 =>
 (ld1 h t14).bind fun t15 =>
 (Z00 P .add 3 t15 (.int .i64 1)).bind fun t16 =>
 (Z28 max2 [t3,t16]).bind fun t17 =>
 (Z00 P .add 3 t4 (.int .i64 1)).bind fun t10 =>
 some ⟨.normal,[t0,t17,t10],h,(c+1+1+1),df⟩)
 (some ⟨(.exit 0),[t0,t3,t4],h,(c+1),df⟩)
theorem Z7R (o:Orc H) (rd:Option Nat) (t0 t3 t4:Value) (h:H) (c:Nat) (df:List Nat):jx P o 19 rd Z8I (Z0f [0,3,4] [t0,t3,t4]) h c df (Klp [0,3,4])=Z8J o rd t0 t3 t4 h c df:=by kernel_rfl
noncomputable def Zrc (o:Orc H) (t0:Value) (h:H) (c:Nat):Option (Rt H) :=
 (o (Zc5 none) [t0,(.int .i64 0),(.int .i64 0)] h (c+1+1+1) []).bind fun r0 =>
 cond (Z0q r0.e (.exit 0))
 ((Z0a r0.h r0.df).bind fun h1 =>
 some ⟨.ret,[r0.v 1],h1,(r0.c+1),[]⟩)
 (none)
theorem Zot (o:Orc H) (t0:Value) (h:H) (c:Nat):jx P o 19 none f63_c (Z0f (List.range 1) [t0]) h c [] (Kfn P Try.f63.results.toList)=Zrc o t0 h c:=by kernel_rfl
theorem f63_go {t0:Value} {h:FH} {c:Nat} {df:List Nat} {r:Rt FH} (e:Zrc G t0 h c=some r):G (.fn 63) [t0] h c df=some (gcR h c [] r):=Z0d (a:=Zos) bk_63 rfl (fun args h c=>by cases args <;> rfl) rfl ((Zot G t0 h c).trans e)
noncomputable def Z8H (o:Orc H) (rd:Option Nat) (t0 t1 t5 t11 t12:Value) (h:H) (c:Nat) (df:List Nat):Option (Rt H) :=
 (Z00 P .lss 3 t12 t11).bind fun t13 =>
 Z07 t13
 ((ixS 1 t0 t12).bind fun t19 =>
 (ld1 h t19).bind fun t20 =>
 (ixS 1 t1 t12).bind fun t23 =>
 (ld1 h t23).bind fun t24 =>
 (Z00 P .add 3 t20 t24).bind fun t25 =>
 (ixS 1 t5 t12).bind fun t26 =>
 (stN h 1 t26 t25).bind fun h1 =>
 (Z00 P .add 3 t12 (.int .i64 1)).bind fun t27 =>
 some ⟨.normal,[t0,t1,t5,t11,t27],h1,(c+1+1+1+1),df⟩)
 (some ⟨(.exit 0),[t0,t1,t5,t11,t12],h,(c+1),df⟩)
theorem Z7Q (o:Orc H) (rd:Option Nat) (t0 t1 t5 t11 t12:Value) (h:H) (c:Nat) (df:List Nat):jx P o 29 rd Z8G (Z0f [0,1,5,11,12] [t0,t1,t5,t11,t12]) h c df (Klp [0,1,5,11,12])=Z8H o rd t0 t1 t5 t11 t12 h c df:=by kernel_rfl
noncomputable def Zrb (o:Orc H) (t0 t1:Value) (h:H) (c:Nat):Option (Rt H) :=
 (Z0X t0).bind fun t8 =>
 (mkS 1 8 [(.int .i64 0)] t8 t8).bind fun r0 =>
 (Z0X t0).bind fun t11 =>
 (o (Zc4 none) [t0,t1,(.slice (some ⟨(256*(c+1)+2),0,none⟩) r0.2.1 r0.2.2),t11,(.int .i64 0)] (newB h (256*(c+1)+2) r0.1) (c+1+1+1) []).bind fun r1 =>
 cond (Z0q r1.e (.exit 0))
 ((Z0a r1.h r1.df).bind fun h2 =>
 some ⟨.ret,[r1.v 2],h2,(r1.c+1),[]⟩)
 (none)
theorem Zor (o:Orc H) (t0 t1:Value) (h:H) (c:Nat):jx P o 29 none f67_c (Z0f (List.range 2) [t0,t1]) h c [] (Kfn P Try.f67.results.toList)=Zrb o t0 t1 h c:=by kernel_rfl
theorem f67_go {t0 t1:Value} {h:FH} {c:Nat} {df:List Nat} {r:Rt FH} (e:Zrb G t0 t1 h c=some r):G (.fn 67) [t0,t1] h c df=some r:=Z0d (a:=Zoq) bk_67 rfl (fun args h c=>by cases args <;> rfl) rfl ((Zor G t0 t1 h c).trans e)
noncomputable def Z8F (o:Orc H) (rd:Option Nat) (t0 t3 t4 t5:Value) (h:H) (c:Nat) (df:List Nat):Option (Rt H) :=
 (ZjJ P h 9 t0).bind fun t9 =>
 (Z00 P .leq 3 t5 t9).bind fun t10 =>
 Z07 t10
 ((ZjJ P h 9 t0).bind fun t15 =>
 (Z00 P .eql 3 t5 t15).bind fun t16 =>
 (gd t16 false h (c+1+1) (some t0)).bind fun r0 =>
 (gd t16 false r0.2.1 r0.2.2 (some t5)).bind fun r1 =>
 (gd t16 false r1.2.1 r1.2.2 (ZiN r0.1 r1.1)).bind fun r2 =>
 (gd t16 false r2.2.1 r2.2.2 (Z00 P .eql 5 r2.1 (.int .u8 32))).bind fun r3 =>
 (Z0D t16 (.bool true) r3.1).bind fun t22 =>
 (Z1i .not t22).bind fun t24 =>
 (gd t24 true r3.2.1 (r3.2.2+1) (some t4)).bind fun r4 =>
 (gd t24 true r4.2.1 r4.2.2 (Z00 P .lss 3 r4.1 (.int .i64 0))).bind fun r5 =>
 (Z0D t24 r5.1 (.bool false)).bind fun t28 =>
 (Z07 t28
  (some ⟨.normal,[t0,t3,t5,t5,t22],r5.2.1,(r5.2.2+1),df⟩)
  (some ⟨.normal,[t0,t3,t4,t5,t22],r5.2.1,r5.2.2,df⟩):Option (Rt H)).bind fun r7 =>
 cond (Z0q r7.e .normal)
  (((gv (r7.v 4) true).bind fun w=>cond w (Z8f r7.h (r7.c+1) (some (r7.v 2))) (some (undef,r7.h,(r7.c+1)))).bind fun r8 =>
  ((gv (r7.v 4) true).bind fun w=>cond w (Z8f r8.2.1 r8.2.2 (Z00 P .geq 3 r8.1 (.int .i64 0))) (some (undef,r8.2.1,r8.2.2))).bind fun r9 =>
  (Z0D (r7.v 4) r9.1 (.bool false)).bind fun t34 =>
  (Z07 t34
   ((slStrV (r7.v 0) (some (r7.v 2)) (some (r7.v 3))).bind fun t39 =>
   (Z2T [(.string (ByteArray.mk #[]))] [(0,1,t39)]).bind fun r10 =>
   (Z7q (newB r9.2.1 (256*r9.2.2+5) r10) (256*r9.2.2+6) 1 16 (r7.v 1) (.slice (some ⟨(256*r9.2.2+5),0,none⟩) 1 1)).bind fun r11 =>
   some ⟨.normal,[r7.v 0,r11.1,(.int .i64 (-1)),r7.v 3],r11.2,(r9.2.2+1+1),r7.df⟩)
   (some ⟨.normal,[r7.v 0,r7.v 1,r7.v 2,r7.v 3],r9.2.1,r9.2.2,r7.df⟩):Option (Rt H)).bind fun r14 =>
  cond (Z0q r14.e .normal)
   ((Z00 P .add 3 (r14.v 3) (.int .i64 1)).bind fun t12 =>
   some ⟨.normal,[r14.v 0,r14.v 1,r14.v 2,t12],r14.h,(r14.c+1),r14.df⟩)
   (none))
  (none))
 (some ⟨(.exit 0),[t0,t3,t4,t5],h,(c+1),df⟩)
theorem ZdD (o:Orc H) (rd:Option Nat) (t0 t3 t4 t5:Value) (h:H) (c:Nat) (df:List Nat):jx P o 43 rd Z3o (Z0f [0,3,4,5] [t0,t3,t4,t5]) h c df (Klp [0,3,4,5])=Z8F o rd t0 t3 t4 t5 h c df:=by kernel_rfl
noncomputable def Zra (o:Orc H) (t0:Value) (h:H) (c:Nat):Option (Rt H) :=
 (o (Zj7 none) [t0,(.slice none 0 0),(.int .i64 (-1)),(.int .i64 0)] h (c+1+1+1+1) []).bind fun r0 =>
 cond (Z0q r0.e (.exit 0))
 ((Z0a r0.h r0.df).bind fun h1 =>
 some ⟨.ret,[r0.v 1],h1,(r0.c+1),[]⟩)
 (none)
theorem Zop (o:Orc H) (t0:Value) (h:H) (c:Nat):jx P o 43 none f68_c (Z0f (List.range 1) [t0]) h c [] (Kfn P Try.f68.results.toList)=Zra o t0 h c:=by kernel_rfl
noncomputable def Z8E (o:Orc H) (rd:Option Nat) (t0 t2 t3 t4 t5:Value) (h:H) (c:Nat) (df:List Nat):Option (Rt H) :=
 (ZjJ P h 9 t0).bind fun t26 =>
 (Z00 P .lss 3 t5 t26).bind fun t27 =>
 Z07 t27
 ((ZiN t0 t5).bind fun t32 =>
 (Z00 P .lss 5 t32 (.int .u8 48)).bind fun t33 =>
 (gd t33 false h (c+1+1) (some t0)).bind fun r0 =>
 (gd t33 false r0.2.1 r0.2.2 (some t5)).bind fun r1 =>
 (gd t33 false r1.2.1 r1.2.2 (ZiN r0.1 r1.1)).bind fun r2 =>
 (gd t33 false r2.2.1 r2.2.2 (Z00 P .gtr 5 r2.1 (.int .u8 57))).bind fun r3 =>
 (Z0D t33 (.bool true) r3.1).bind fun t39 =>
 Z07 t39
  (some ⟨.ret,[t0,(.int .i64 0),(.bool false),t4,t5],r3.2.1,(r3.2.2+1),df⟩)
  ((Z00 P .mul 3 (.int .i64 10) t4).bind fun t41 =>
  (ZiN t0 t5).bind fun t44 =>
  (Z00 P .sub 5 t44 (.int .u8 48)).bind fun t45 =>
  (cnvI .i64 t45).bind fun t46 =>
  (Z00 P .add 3 t41 t46).bind fun t47 =>
  (Z00 P .add 3 t5 (.int .i64 1)).bind fun t29 =>
  some ⟨.normal,[t0,t2,t3,t47,t29],r3.2.1,(r3.2.2+1+1),df⟩))
 (some ⟨(.exit 0),[t0,t2,t3,t4,t5],h,(c+1),df⟩)
theorem ZdC (o:Orc H) (rd:Option Nat) (t0 t2 t3 t4 t5:Value) (h:H) (c:Nat) (df:List Nat):jx P o 51 rd Z3n (Z0f [0,2,3,4,5] [t0,t2,t3,t4,t5]) h c df (Klp [0,2,3,4,5])=Z8E o rd t0 t2 t3 t4 t5 h c df:=by kernel_rfl
noncomputable def Zr9 (o:Orc H) (t0:Value) (h:H) (c:Nat):Option (Rt H) :=
 (ZjJ P h 9 t0).bind fun t7 =>
 (Z00 P .lss 3 t7 (.int .i64 1)).bind fun t8 =>
 (gd t8 false h (c+1+1) (some t0)).bind fun r0 =>
 (gg t8 false r0.2.1 r0.2.2 (((ZjJ P r0.2.1 9 r0.1).bind fun v=>some (v,r0.2.1)).bind fun r=>some (r.1,r.2,r0.2.2))).bind fun r1 =>
 (gd t8 false r1.2.1 r1.2.2 (Z00 P .gtr 3 r1.1 (.int .i64 4))).bind fun r2 =>
 (Z0D t8 (.bool true) r2.1).bind fun t13 =>
 (gd t13 false r2.2.1 r2.2.2 (some t0)).bind fun r3 =>
 (gg t13 false r3.2.1 r3.2.2 (((ZjJ P r3.2.1 9 r3.1).bind fun v=>some (v,r3.2.1)).bind fun r=>some (r.1,r.2,r3.2.2))).bind fun r4 =>
 (gd t13 false r4.2.1 r4.2.2 (Z00 P .gtr 3 r4.1 (.int .i64 1))).bind fun r5 =>
 (gd t13 false r5.2.1 r5.2.2 (some r5.1)).bind fun r6 =>
 (gd r6.1 true r6.2.1 r6.2.2 (some t0)).bind fun r7 =>
 (gd r6.1 true r7.2.1 r7.2.2 (ZiN r7.1 (.int .i64 0))).bind fun r8 =>
 (gd r6.1 true r8.2.1 r8.2.2 (Z00 P .eql 5 r8.1 (.int .u8 48))).bind fun r9 =>
 (gg t13 false r9.2.1 r9.2.2 (Zej r9.2.1 r9.2.2 r6.1 r9.1 (.bool false))).bind fun r10 =>
 (Z0D t13 (.bool true) r10.1).bind fun t23 =>
 Z07 t23
 (some ⟨.ret,[.tuple #[(.int .i64 0),(.bool false)]],r10.2.1,(r10.2.2+1),[]⟩)
 ((o (Zj5 none) [t0,(.int .i64 0),(.bool false),(.int .i64 0),(.int .i64 0)] r10.2.1 (r10.2.2+1+1) []).bind fun r11 =>
 cond (Z0q r11.e (.exit 0))
  ((Z00 P .leq 3 (r11.v 3) (.int .i64 1000)).bind fun t50 =>
  (Z0a r11.h r11.df).bind fun h13 =>
  some ⟨.ret,[.tuple #[r11.v 3,t50]],h13,(r11.c+1),[]⟩)
  (cond (Z0q r11.e .ret)
   ((Z0a r11.h r11.df).bind fun h12 =>
   some ⟨.ret,[.tuple #[r11.v 1,r11.v 2]],h12,r11.c,[]⟩)
   (none)))
theorem Zoo (o:Orc H) (t0:Value) (h:H) (c:Nat):jx P o 51 none f69_c (Z0f (List.range 1) [t0]) h c [] (Kfn P Try.f69.results.toList)=Zr9 o t0 h c:=by kernel_rfl
noncomputable def Z3m (o:Orc H) (l:Nat) (t13 t14 t1 t2 t3:Value) (h:H) (c:Nat):Option (Rt H) :=
 (stN (newB h (256*c+0) [(.int .i64 0),(.int .i64 0)]) 2 (ptrTo (256*c+0)) t13).bind fun h1 =>
 (stN (newB h1 (256*(c+1)+0) [(.int .i64 0),(.int .i64 0),(.int .i64 0),(.int .i64 0),(.int .i64 0)]) 5 (ptrTo (256*(c+1)+0)) t14).bind fun h3 =>
 (Z2f h3 l).bind fun h4 =>
 ((ldN h4 5 (ptrTo (256*(c+1)+0))).bind fun t15 =>
 (ldN h4 5 t3).bind fun t16 =>
 (Z00 P .eql 41 t15 t16).bind fun t17 =>
 Z07 t17
  (some ⟨.normal,[],h4,(c+1+1+1),[]⟩)
  ((Z06 (ptrTo (256*(c+1)+0)) 0).bind fun t18 =>
  (ld1 h4 t18).bind fun t19 =>
  (Z00 P .lss 3 t19 (.int .i64 0)).bind fun t20 =>
  (gd t20 false h4 (c+1+1+1+1) (Z06 (ptrTo (256*(c+1)+0)) 0)).bind fun r5 =>
  (gd t20 false r5.2.1 r5.2.2 (ld1 r5.2.1 r5.1)).bind fun r6 =>
  (gd t20 false r6.2.1 r6.2.2 (Z06 t1 0)).bind fun r7 =>
  (gd t20 false r7.2.1 r7.2.2 (ld1 r7.2.1 r7.1)).bind fun r8 =>
  (gg t20 false r8.2.1 r8.2.2 (((Z0X r8.1).bind fun v=>some (v,r8.2.1)).bind fun r=>some (r.1,r.2,r8.2.2))).bind fun r9 =>
  (gd t20 false r9.2.1 r9.2.2 (Z00 P .geq 3 r6.1 r9.1)).bind fun r10 =>
  (Z0D t20 (.bool true) r10.1).bind fun t28 =>
  (gd t28 false r10.2.1 r10.2.2 (Z06 (ptrTo (256*(c+1)+0)) 1)).bind fun r11 =>
  (gd t28 false r11.2.1 r11.2.2 (ldN r11.2.1 4 r11.1)).bind fun r12 =>
  (gg t28 false r12.2.1 r12.2.2 (callF o 84 [r12.1] r12.2.1 r12.2.2)).bind fun r13 =>
  (gd t28 false r13.2.1 r13.2.2 (Z1i .not r13.1)).bind fun r14 =>
  (Z0D t28 (.bool true) r14.1).bind fun t34 =>
  (gd t34 false r14.2.1 r14.2.2 (Z06 (ptrTo (256*(c+1)+0)) 0)).bind fun r15 =>
  (gd t34 false r15.2.1 r15.2.2 (ld1 r15.2.1 r15.1)).bind fun r16 =>
  (gd t34 false r16.2.1 r16.2.2 (Z06 (ptrTo (256*c+0)) 0)).bind fun r17 =>
  (gd t34 false r17.2.1 r17.2.2 (ld1 r17.2.1 r17.1)).bind fun r18 =>
  (gd t34 false r18.2.1 r18.2.2 (Z00 P .eql 3 r16.1 r18.1)).bind fun r19 =>
  (gd t34 false r19.2.1 r19.2.2 (some r19.1)).bind fun r20 =>
  (gd r20.1 true r20.2.1 r20.2.2 (Z06 (ptrTo (256*c+0)) 1)).bind fun r21 =>
  (gd r20.1 true r21.2.1 r21.2.2 (ld1 r21.2.1 r21.1)).bind fun r22 =>
  (gd r20.1 true r22.2.1 r22.2.2 (Z06 (ptrTo (256*(c+1)+0)) 1)).bind fun r23 =>
  (gd r20.1 true r23.2.1 r23.2.2 (ixA 4 1 r23.1 r22.1)).bind fun r24 =>
  (gd r20.1 true r24.2.1 r24.2.2 (ld1 r24.2.1 r24.1)).bind fun r25 =>
  (gd r20.1 true r25.2.1 r25.2.2 (Z06 (ptrTo (256*c+0)) 1)).bind fun r26 =>
  (gd r20.1 true r26.2.1 r26.2.2 (ld1 r26.2.1 r26.1)).bind fun r27 =>
  (gd r20.1 true r27.2.1 r27.2.2 (Z00 P .eql 3 r25.1 r27.1)).bind fun r28 =>
  (gg t34 false r28.2.1 r28.2.2 (Zej r28.2.1 r28.2.2 r20.1 r28.1 (.bool false))).bind fun r29 =>
  (Z0D t34 (.bool true) r29.1).bind fun t51 =>
  Z07 t51
   ((stN r29.2.1 1 t2 (.int .i64 7)).bind fun h31 =>
   some ⟨.ret,[],h31,(r29.2.2+1),[]⟩)
   ((Z06 t1 0).bind fun t52 =>
   (ld1 r29.2.1 t52).bind fun t53 =>
   (Z06 (ptrTo (256*(c+1)+0)) 0).bind fun t54 =>
   (ld1 r29.2.1 t54).bind fun t55 =>
   (Z06 (ptrTo (256*c+0)) 1).bind fun t56 =>
   (ld1 r29.2.1 t56).bind fun t57 =>
   (Z06 (ptrTo (256*(c+1)+0)) 1).bind fun t58 =>
   (ixA 4 1 t58 t57).bind fun t59 =>
   (ld1 r29.2.1 t59).bind fun t60 =>
   (ixS 20 t53 t55).bind fun t61 =>
   (ixA 4 5 t61 t60).bind fun t62 =>
   (ldN r29.2.1 5 t62).bind fun t63 =>
   (Z06 (ptrTo (256*c+0)) 0).bind fun t64 =>
   (ld1 r29.2.1 t64).bind fun t65 =>
   (Z06 (ptrTo (256*(c+1)+0)) 1).bind fun t66 =>
   (ldN r29.2.1 4 t66).bind fun t67 =>
   (callF o 85 [t67] r29.2.1 (r29.2.2+1)).bind fun r32 =>
   (Z4w [(.int .i64 0),(.int .i64 0),(.int .i64 0),(.int .i64 0),(.int .i64 0)] [(0,1,t65),(1,4,r32.1)]).bind fun t69 =>
   (Z00 P .neq 41 t63 t69).bind fun t70 =>
   (bif (Z18 (Z2G t52) r29.2.1 r32.2.1 && (Z18 (Z2G t54) r29.2.1 r32.2.1 && (Z18 (Z2G t56) r29.2.1 r32.2.1 && (Z18 (Z2G t59) r29.2.1 r32.2.1 && (Z18 (Z2G t62) r29.2.1 r32.2.1 && (Z18 (Z2G t64) r29.2.1 r32.2.1 && true)))))) then
   Z07 t70
    ((stN r32.2.1 1 t2 (.int .i64 7)).bind fun h34 =>
    some ⟨.ret,[],h34,(r32.2.2+1),[]⟩)
    (some ⟨.normal,[],r32.2.1,r32.2.2,[]⟩)
   else none))):Option (Rt H)).bind fun r35 =>
 cond (Z0q r35.e .normal)
 ((Z0I r35.h l .ready none).bind fun h37 =>
 cond (List.isEmpty (r35.df:List Nat)) (some ⟨.ret,[.bool true],h37,r35.c,[]⟩) none)
 (cond (Z0q r35.e .ret)
  ((Z0I r35.h l .done (some .ret)).bind fun h36 =>
  cond (List.isEmpty (r35.df:List Nat)) (some ⟨.ret,[.bool false],h36,r35.c,[]⟩) none)
  (none))
theorem Z7O (o:Orc H) (l:Nat) (t13 t14 t1 t2 t3:Value) (h:H) (c:Nat):jx P o 71 (some l) Z1E (Z0f ([13,14]++[1,2,3]) [t13,t14,t1,t2,t3]) h c [] (ZpI P o 71 l Z1D)=Z3m o l t13 t14 t1 t2 t3 h c:=by kernel_rfl
noncomputable def Zl6 (o:Orc H) (t0:Value) (h:H) (c:Nat):Option (Rt H) :=
 (bif (t0:Value).cells.toList.all Z0c then
 (Z06 (ptrTo (256*c+0)) 0).bind fun t6 =>
 (ld1 (newB (newB h (256*c+0) (t0:Value).cells.toList) (256*c+1) [(.int .i64 0)]) t6).bind fun t7 =>
 (Z0X t7).bind fun t8 =>
 (Z00 P .gtr 3 t8 (.int .i64 1000)).bind fun t9 =>
 Z07 t9
 ((stN (newB (newB h (256*c+0) (t0:Value).cells.toList) (256*c+1) [(.int .i64 0)]) 1 (ptrTo (256*c+1)) (.int .i64 7)).bind fun h1 =>
 (ld1 h1 (ptrTo (256*c+1))).bind fun v2 =>
 some ⟨.ret,[v2],h1,(c+1+1+1),[]⟩)
 ((Z4w [(.int .i64 0),(.int .i64 0),(.int .i64 0),(.int .i64 0),(.int .i64 0)] [(0,1,(.int .i64 (-1)))]).bind fun t10 =>
 (stN (newB (newB (newB h (256*c+0) (t0:Value).cells.toList) (256*c+1) [(.int .i64 0)]) (256*(c+1+1)+1) [(.int .i64 0),(.int .i64 0),(.int .i64 0),(.int .i64 0),(.int .i64 0)]) 5 (ptrTo (256*(c+1+1)+1)) t10).bind fun h4 =>
 (ldN h4 1 (ptrTo (256*c+0))).bind fun t11 =>
 (callF o 83 [t11] h4 (c+1+1+1+1)).bind fun r5 =>
 (Z5Y o 71 none [1,2,3] [] #[13,14] Z1E Z1D r5.1 [(ptrTo (256*c+0)),(ptrTo (256*c+1)),(ptrTo (256*(c+1+1)+1))] r5.2.1 r5.2.2 []).bind fun q6 =>
 cond (Z0q q6.1 .normal)
  ((stN q6.2.1 1 (ptrTo (256*c+1)) (.int .i64 0)).bind fun h10 =>
  (Z0a h10 q6.2.2.2).bind fun h11 =>
  (ld1 h11 (ptrTo (256*c+1))).bind fun v12 =>
  some ⟨.ret,[v12],h11,(q6.2.2.1+1),[]⟩)
  (cond (Z0q q6.1 .ret)
   ((Z0a q6.2.1 q6.2.2.2).bind fun h7 =>
   (ld1 h7 (ptrTo (256*c+1))).bind fun v8 =>
   some ⟨.ret,[v8],h7,q6.2.2.1,[]⟩)
   (none)))
 else none)
theorem ZhU (o:Orc H) (t0:Value) (h:H) (c:Nat):jx P o 71 none f70_c (Z0f (List.range 1) [t0]) h c [] (Kfn P Try.f70.results.toList)=Zl6 o t0 h c:=by kernel_rfl
theorem f70_go {t0:Value} {h:FH} {c:Nat} {df:List Nat} {r:Rt FH} (e:Zl6 G t0 h c=some r):G (.fn 70) [t0] h c df=some (gcR h c [] r):=Z0d (a:=ZfK) bk_70 rfl (fun args h c=>by cases args <;> rfl) rfl ((ZhU G t0 h c).trans e)
theorem Zj4 {t13 t14 t1 t2 t3:Value} {l:Nat} {h:FH} {c:Nat} {df:List Nat} {r:Rt FH} (e:Z3m G l t13 t14 t1 t2 t3 h c=some r):G (.rnd 71 [1,2,3] [] [13,14] l Z1E Z1D) [t13,t14,t1,t2,t3] h c df=some r:=Zd9 ((Z7O G l t13 t14 t1 t2 t3 h c).trans e)
noncomputable def Z4P (o:Orc H) (rd:Option Nat) (t2 t3 t10 t11:Value) (h:H) (c:Nat) (df:List Nat):Option (Rt H) :=
 (Z00 P .lss 3 t11 t10).bind fun t12 =>
 Z07 t12
 ((Z06 t3 0).bind fun t14 =>
 (ld1 h t14).bind fun t15 =>
 (ixS 1 t15 t11).bind fun t18 =>
 (stN h 1 t18 t11).bind fun h1 =>
 (Z00 P .add 3 t11 (.int .i64 1)).bind fun t19 =>
 some ⟨.normal,[t2,t3,t10,t19],h1,(c+1+1+1+1),df⟩)
 (some ⟨(.exit 0),[t2,t3,t10,t11],h,(c+1),df⟩)
theorem Z5y (o:Orc H) (rd:Option Nat) (t2 t3 t10 t11:Value) (h:H) (c:Nat) (df:List Nat):jx P o 21 rd Z3l (Z0f [2,3,10,11] [t2,t3,t10,t11]) h c df (Klp [2,3,10,11])=Z4P o rd t2 t3 t10 t11 h c df:=by kernel_rfl
noncomputable def Zl5 (o:Orc H) (t0:Value) (h:H) (c:Nat):Option (Rt H) :=
 (mkS 1 8 [(.int .i64 0)] t0 t0).bind fun r0 =>
 (Z4w [(.slice none 0 0)] [(0,1,(.slice (some ⟨(256*(c+1)+1),0,none⟩) r0.2.1 r0.2.2))]).bind fun t7 =>
 (stN (newB (newB (newB h (256*c+0) [(.slice none 0 0)]) (256*(c+1)+1) r0.1) (256*(c+1)+3) [(.slice none 0 0)]) 1 (ptrTo (256*(c+1)+3)) t7).bind fun h2 =>
 (Z06 (ptrTo (256*(c+1)+3)) 0).bind fun t8 =>
 (ld1 h2 t8).bind fun t9 =>
 (Z0X t9).bind fun t10 =>
 (o (Zc3 none) [(ptrTo (256*c+0)),(ptrTo (256*(c+1)+3)),t10,(.int .i64 0)] h2 (c+1+1+1) []).bind fun r3 =>
 cond (Z0q r3.e (.exit 0))
 ((ldN r3.h 1 (r3.v 1)).bind fun t20 =>
 (stN r3.h 1 (r3.v 0) t20).bind fun h5 =>
 (Z0a h5 r3.df).bind fun h6 =>
 (ldN h6 1 (r3.v 0)).bind fun v7 =>
 some ⟨.ret,[v7],h6,(r3.c+1),[]⟩)
 (none)
theorem ZhT (o:Orc H) (t0:Value) (h:H) (c:Nat):jx P o 21 none f71_c (Z0f (List.range 1) [t0]) h c [] (Kfn P Try.f71.results.toList)=Zl5 o t0 h c:=by kernel_rfl
theorem f71_go {t0:Value} {h:FH} {c:Nat} {df:List Nat} {r:Rt FH} (e:Zl5 G t0 h c=some r):G (.fn 71) [t0] h c df=some r:=Z0d (a:=ZfJ) bk_71 rfl (fun args h c=>by cases args <;> rfl) rfl ((ZhT G t0 h c).trans e)
noncomputable def Zj3 (o:Orc H) (t0 t1 t2:Value) (h:H) (c:Nat):Option (Rt H) :=
 (callF o 46 [t0,t1] h (c+1)).bind fun r0 =>
 (callF o 46 [t0,t2] r0.2.1 r0.2.2).bind fun r1 =>
 (Z0z t0).bind fun t13 =>
 (Z06 t13 0).bind fun t14 =>
 (ld1 r1.2.1 t14).bind fun t15 =>
 (Z28 max2 [r0.1,r1.1]).bind fun t18 =>
 (Z28 min2 [r0.1,r1.1]).bind fun t21 =>
 (ixS 1 t15 t18).bind fun t22 =>
 (stN r1.2.1 1 t22 t21).bind fun h5 =>
 some ⟨.ret,[.tuple #[]],h5,(r1.2.2+1),[]⟩
theorem ZhS (o:Orc H) (t0 t1 t2:Value) (h:H) (c:Nat):jx P o 23 none f72_c (Z0f (List.range 3) [t0,t1,t2]) h c [] (Kfn P Try.f72.results.toList)=Zj3 o t0 t1 t2 h c:=by kernel_rfl
theorem f72_go {t0 t1 t2:Value} {h:FH} {c:Nat} {df:List Nat} {r:Rt FH} (e:Zj3 G t0 t1 t2 h c=some r):G (.fn 72) [t0,t1,t2] h c df=some (gcR h c [] r):=Z0d (a:=ZfI) bk_72 rfl (fun args h c=>by cases args <;> rfl) rfl ((ZhS G t0 t1 t2 h c).trans e)
noncomputable def Zl4 (o:Orc H) (t0 t1:Value) (h:H) (c:Nat):Option (Rt H) :=
 (bif (t0:Value).cells.toList.all Z0c then
 (bif (t1:Value).cells.toList.all Z0c then
 (callF o 87 [] (newB (newB h (256*c+0) (t0:Value).cells.toList) (256*c+1) (t1:Value).cells.toList) (c+1+1)).bind fun r0 =>
 (callF o 86 [r0.1,(.func (.func 88) [].toArray [(ptrTo (256*c+0)),(ptrTo (256*c+1))].toArray)] r0.2.1 r0.2.2).bind fun r1 =>
 some ⟨.ret,[r1.1],r1.2.1,r1.2.2,[]⟩
 else none)
 else none)
theorem ZhR (o:Orc H) (t0 t1:Value) (h:H) (c:Nat):jx P o 8 none f73_c (Z0f (List.range 2) [t0,t1]) h c [] (Kfn P Try.f73.results.toList)=Zl4 o t0 t1 h c:=by kernel_rfl
theorem f73_go {t0 t1:Value} {h:FH} {c:Nat} {df:List Nat} {r:Rt FH} (e:Zl4 G t0 t1 h c=some r):G (.fn 73) [t0,t1] h c df=some (gcR h c [] r):=Z0d (a:=ZfH) bk_73 rfl (fun args h c=>by cases args <;> rfl) rfl ((ZhR G t0 t1 h c).trans e)
noncomputable def Z8D (o:Orc H) (rd:Option Nat) (t0 t1 t7 t8 t9 t34:Value) (h:H) (c:Nat) (df:List Nat):Option (Rt H) :=
 (Z00 P .lss 3 t34 (.int .i64 3)).bind fun t35 =>
 Z07 t35
 ((callF o 60 [] h (c+1+1+1)).bind fun r0 =>
 (ixV 4 true 4 r0.1 t7).bind fun t40 =>
 (ixV 4 false 1 t40 t8).bind fun t42 =>
 (Z00 P .neq 3 t34 t42).bind fun t43 =>
 (Z07 t43
  ((Z00 P .mul 3 (.int .i64 7) t1).bind fun t47 =>
  (Z00 P .add 3 t47 (.int .i64 4)).bind fun t48 =>
  (Z00 P .add 3 t48 t34).bind fun t50 =>
  (ixS 1 t0 t50).bind fun t51 =>
  (ld1 r0.2.1 t51).bind fun t52 =>
  (Z00 P .add 3 t9 t52).bind fun t53 =>
  some ⟨.normal,[t0,t1,t7,t8,t53,t34],r0.2.1,(r0.2.2+1),df⟩)
  (some ⟨.normal,[t0,t1,t7,t8,t9,t34],r0.2.1,r0.2.2,df⟩):Option (Rt H)).bind fun r2 =>
 cond (Z0q r2.e .normal)
  ((Z00 P .add 3 (r2.v 5) (.int .i64 1)).bind fun t54 =>
  some ⟨.normal,[r2.v 0,r2.v 1,r2.v 2,r2.v 3,r2.v 4,t54],r2.h,(r2.c+1),r2.df⟩)
  (none))
 (some ⟨(.exit 0),[t0,t1,t7,t8,t9,t34],h,(c+1),df⟩)
theorem ZdA (o:Orc H) (rd:Option Nat) (t0 t1 t7 t8 t9 t34:Value) (h:H) (c:Nat) (df:List Nat):jx P o 56 rd Z3k (Z0f [0,1,7,8,9,34] [t0,t1,t7,t8,t9,t34]) h c df (Klp [0,1,7,8,9,34])=Z8D o rd t0 t1 t7 t8 t9 t34 h c df:=by kernel_rfl
noncomputable def Zr6 (o:Orc H) (t0 t1 t2:Value) (h:H) (c:Nat):Option (Rt H) :=
 (callF o 89 [] h (c+1+1)).bind fun r0 =>
 (ixV 6 true 2 r0.1 t2).bind fun t13 =>
 (ixV 2 false 1 t13 (.int .i64 0)).bind fun t14 =>
 (callF o 89 [] r0.2.1 r0.2.2).bind fun r1 =>
 (ixV 6 true 2 r1.1 t2).bind fun t17 =>
 (ixV 2 false 1 t17 (.int .i64 1)).bind fun t18 =>
 (Z00 P .mul 3 (.int .i64 7) t1).bind fun t21 =>
 (Z00 P .add 3 t21 t14).bind fun t23 =>
 (ixS 1 t0 t23).bind fun t24 =>
 (ld1 r1.2.1 t24).bind fun t25 =>
 (Z00 P .mul 3 (.int .i64 7) t1).bind fun t28 =>
 (Z00 P .add 3 t28 t18).bind fun t30 =>
 (ixS 1 t0 t30).bind fun t31 =>
 (ld1 r1.2.1 t31).bind fun t32 =>
 (Z00 P .add 3 t25 t32).bind fun t33 =>
 (o (Zj1 none) [t0,t1,t14,t18,t33,(.int .i64 0)] r1.2.1 (r1.2.2+1+1) []).bind fun r2 =>
 cond (Z0q r2.e (.exit 0))
 ((Z0a r2.h r2.df).bind fun h3 =>
 some ⟨.ret,[r2.v 4],h3,(r2.c+1),[]⟩)
 (none)
theorem Zon (o:Orc H) (t0 t1 t2:Value) (h:H) (c:Nat):jx P o 56 none f74_c (Z0f (List.range 3) [t0,t1,t2]) h c [] (Kfn P Try.f74.results.toList)=Zr6 o t0 t1 t2 h c:=by kernel_rfl
noncomputable def Zl3 (o:Orc H) (t0 t1:Value) (h:H) (c:Nat):Option (Rt H) :=
 (callF o 90 [t0,t1] h (c+1+1)).bind fun r0 =>
 (Z00 P .geq 3 r0.1 (.int .i64 0)).bind fun t8 =>
 some ⟨.ret,[t8],r0.2.1,r0.2.2,[]⟩
theorem ZhQ (o:Orc H) (t0 t1:Value) (h:H) (c:Nat):jx P o 9 none f75_c (Z0f (List.range 2) [t0,t1]) h c [] (Kfn P Try.f75.results.toList)=Zl3 o t0 t1 h c:=by kernel_rfl
theorem f75_go {t0 t1:Value} {h:FH} {c:Nat} {df:List Nat} {r:Rt FH} (e:Zl3 G t0 t1 h c=some r):G (.fn 75) [t0,t1] h c df=some (gcR h c [] r):=Z0d (a:=ZfG) bk_75 rfl (fun args h c=>by cases args <;> rfl) rfl ((ZhQ G t0 t1 h c).trans e)
noncomputable def Zl2 (o:Orc H) (t0:Value) (h:H) (c:Nat):Option (Rt H) :=
 (Z00 P .lss 3 t0 (.int .i64 0)).bind fun t4 =>
 (gd t4 false h (c+1+1) (some t0)).bind fun r0 =>
 (gd t4 false r0.2.1 r0.2.2 (Z00 P .gtr 3 r0.1 (.int .i64 1000000))).bind fun r1 =>
 (Z0D t4 (.bool true) r1.1).bind fun t8 =>
 some ⟨.ret,[t8],r1.2.1,r1.2.2,[]⟩
theorem ZhP (o:Orc H) (t0:Value) (h:H) (c:Nat):jx P o 9 none f76_c (Z0f (List.range 1) [t0]) h c [] (Kfn P Try.f76.results.toList)=Zl2 o t0 h c:=by kernel_rfl
theorem f76_go {t0:Value} {h:FH} {c:Nat} {df:List Nat} {r:Rt FH} (e:Zl2 G t0 h c=some r):G (.fn 76) [t0] h c df=some (gcR h c [] r):=Z0d (a:=ZfF) bk_76 rfl (fun args h c=>by cases args <;> rfl) rfl ((ZhP G t0 h c).trans e)
end Go.Proofs.Ytcnndelmnobigaa
