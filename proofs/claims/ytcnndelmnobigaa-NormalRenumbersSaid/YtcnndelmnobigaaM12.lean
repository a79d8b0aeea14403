/- Parts of a proof: S6 S7. Conditions: none. -/
import Derived.Test.YtcnndelmnobigaaM9
set_option linter.all false
set_option maxRecDepth 100000
namespace Go.Proofs.Ytcnndelmnobigaa
open Go Go.Ab Go.Proofs
variable {H:Type} [HeapC H]
noncomputable def Z2O (o:Orc H) (l:Nat) (t13 t14 t1 t2 t3:Value) (h:H) (c:Nat):Option (Rt H) :=
 (stN (newB h (256*c+0) [(.int .i64 0),(.int .i64 0)]) 2 (ptrTo (256*c+0)) t13).bind fun h1 =>
 (stN (newB h1 (256*(c+1)+0) [(.int .i64 0),(.int .i64 0),(.int .i64 0),(.int .i64 0),(.int .i64 0)]) 5 (ptrTo (256*(c+1)+0)) t14).bind fun h3 =>
 (Z1R h3 l).bind fun h4 =>
 ((ldN h4 5 (ptrTo (256*(c+1)+0))).bind fun t15 =>
 (ldN h4 5 t3).bind fun t16 =>
 (Z00 P .eql 41 t15 t16).bind fun t17 =>
 Z08 t17
  (some ⟨.normal,[],h4,(c+1+1+1),[]⟩)
  ((Z04 (ptrTo (256*(c+1)+0)) 0).bind fun t18 =>
  (ld1 h4 t18).bind fun t19 =>
  (Z00 P .lss 3 t19 (.int .i64 0)).bind fun t20 =>
  (gd t20 false h4 (c+1+1+1+1) (Z04 (ptrTo (256*(c+1)+0)) 0)).bind fun r5 =>
  (gd t20 false r5.2.1 r5.2.2 (ld1 r5.2.1 r5.1)).bind fun r6 =>
  (gd t20 false r6.2.1 r6.2.2 (Z04 t1 0)).bind fun r7 =>
  (gd t20 false r7.2.1 r7.2.2 (ld1 r7.2.1 r7.1)).bind fun r8 =>
  (gg t20 false r8.2.1 r8.2.2 (((Z1B r8.1).bind fun v=>some (v,r8.2.1)).bind fun r=>some (r.1,r.2,r8.2.2))).bind fun r9 =>
  (gd t20 false r9.2.1 r9.2.2 (Z00 P .geq 3 r6.1 r9.1)).bind fun r10 =>
  (Z0v t20 (.bool true) r10.1).bind fun t28 =>
  (gd t28 false r10.2.1 r10.2.2 (Z04 (ptrTo (256*(c+1)+0)) 1)).bind fun r11 =>
  (gd t28 false r11.2.1 r11.2.2 (ldN r11.2.1 4 r11.1)).bind fun r12 =>
  (gg t28 false r12.2.1 r12.2.2 (callF o 84 [r12.1] r12.2.1 r12.2.2)).bind fun r13 =>
  (gd t28 false r13.2.1 r13.2.2 (Z1t .not r13.1)).bind fun r14 =>
  (Z0v t28 (.bool true) r14.1).bind fun t34 =>
  (gd t34 false r14.2.1 r14.2.2 (Z04 (ptrTo (256*(c+1)+0)) 0)).bind fun r15 =>
  (gd t34 false r15.2.1 r15.2.2 (ld1 r15.2.1 r15.1)).bind fun r16 =>
  (gd t34 false r16.2.1 r16.2.2 (Z04 (ptrTo (256*c+0)) 0)).bind fun r17 =>
  (gd t34 false r17.2.1 r17.2.2 (ld1 r17.2.1 r17.1)).bind fun r18 =>
  (gd t34 false r18.2.1 r18.2.2 (Z00 P .eql 3 r16.1 r18.1)).bind fun r19 =>
  (gd t34 false r19.2.1 r19.2.2 (some r19.1)).bind fun r20 =>
  (gd r20.1 true r20.2.1 r20.2.2 (Z04 (ptrTo (256*c+0)) 1)).bind fun r21 =>
  (gd r20.1 true r21.2.1 r21.2.2 (ld1 r21.2.1 r21.1)).bind fun r22 =>
  (gd r20.1 true r22.2.1 r22.2.2 (Z04 (ptrTo (256*(c+1)+0)) 1)).bind fun r23 =>
  (gd r20.1 true r23.2.1 r23.2.2 (ixA 4 1 r23.1 r22.1)).bind fun r24 =>
  (gd r20.1 true r24.2.1 r24.2.2 (ld1 r24.2.1 r24.1)).bind fun r25 =>
  (gd r20.1 true r25.2.1 r25.2.2 (Z04 (ptrTo (256*c+0)) 1)).bind fun r26 =>
  (gd r20.1 true r26.2.1 r26.2.2 (ld1 r26.2.1 r26.1)).bind fun r27 =>
  (gd r20.1 true r27.2.1 r27.2.2 (Z00 P .eql 3 r25.1 r27.1)).bind fun r28 =>
  (gg t34 false r28.2.1 r28.2.2 (Zco r28.2.1 r28.2.2 r20.1 r28.1 (.bool false))).bind fun r29 =>
  (Z0v t34 (.bool true) r29.1).bind fun t51 =>
  Z08 t51
   ((stN r29.2.1 1 t2 (.int .i64 7)).bind fun h31 =>
   some ⟨.ret,[],h31,(r29.2.2+1),[]⟩)
   ((Z04 t1 0).bind fun t52 =>
   (ld1 r29.2.1 t52).bind fun t53 =>
   (Z04 (ptrTo (256*(c+1)+0)) 0).bind fun t54 =>
   (ld1 r29.2.1 t54).bind fun t55 =>
   (Z04 (ptrTo (256*c+0)) 1).bind fun t56 =>
   (ld1 r29.2.1 t56).bind fun t57 =>
   (Z04 (ptrTo (256*(c+1)+0)) 1).bind fun t58 =>
   (ixA 4 1 t58 t57).bind fun t59 =>
   (ld1 r29.2.1 t59).bind fun t60 =>
   (ixS 20 t53 t55).bind fun t61 =>
   (ixA 4 5 t61 t60).bind fun t62 =>
   (ldN r29.2.1 5 t62).bind fun t63 =>
   (Z04 (ptrTo (256*c+0)) 0).bind fun t64 =>
   (ld1 r29.2.1 t64).bind fun t65 =>
   (Z04 (ptrTo (256*(c+1)+0)) 1).bind fun t66 =>
   (ldN r29.2.1 4 t66).bind fun t67 =>
   (callF o 85 [t67] r29.2.1 (r29.2.2+1)).bind fun r32 =>
   (Z3A [(.int .i64 0),(.int .i64 0),(.int .i64 0),(.int .i64 0),(.int .i64 0)] [(0,1,t65),(1,4,r32.1)]).bind fun t69 =>
   (Z00 P .neq 41 t63 t69).bind fun t70 =>
   (bif (Z1o (Z2A t52) r29.2.1 r32.2.1 && (Z1o (Z2A t54) r29.2.1 r32.2.1 && (Z1o (Z2A t56) r29.2.1 r32.2.1 && (Z1o (Z2A t59) r29.2.1 r32.2.1 && (Z1o (Z2A t62) r29.2.1 r32.2.1 && (Z1o (Z2A t64) r29.2.1 r32.2.1 && true)))))) then
   Z08 t70
    ((stN r32.2.1 1 t2 (.int .i64 7)).bind fun h34 =>
    some ⟨.ret,[],h34,(r32.2.2+1),[]⟩)
    (some ⟨.normal,[],r32.2.1,r32.2.2,[]⟩)
   else none))):Option (Rt H)).bind fun r35 =>
 cond (Z0x r35.e .normal)
 ((Z0A r35.h l .ready none).bind fun h37 =>
 cond (List.isEmpty (r35.df:List Nat)) (some ⟨.ret,[.bool true],h37,r35.c,[]⟩) none)
 (cond (Z0x r35.e .ret)
  ((Z0A r35.h l .done (some .ret)).bind fun h36 =>
  cond (List.isEmpty (r35.df:List Nat)) (some ⟨.ret,[.bool false],h36,r35.c,[]⟩) none)
  (none))
theorem Z6n (o:Orc H) (l:Nat) (t13 t14 t1 t2 t3:Value) (h:H) (c:Nat):jx P o 71 (some l) Z1r (Z0j ([13,14]++[1,2,3]) [t13,t14,t1,t2,t3]) h c [] (Zmq P o 71 l Z1q)=Z2O o l t13 t14 t1 t2 t3 h c:=by kernel_rfl
noncomputable def Ziz (o:Orc H) (t0:Value) (h:H) (c:Nat):Option (Rt H) :=
 (bif (t0:Value).cells.toList.all Z0d then
 (Z04 (ptrTo (256*c+0)) 0).bind fun t6 =>
 (ld1 (newB (newB h (256*c+0) (t0:Value).cells.toList) (256*c+1) [(.int .i64 0)]) t6).bind fun t7 =>
 (Z1B t7).bind fun t8 =>
 (Z00 P .gtr 3 t8 (.int .i64 1000)).bind fun t9 =>
 Z08 t9
 ((stN (newB (newB h (256*c+0) (t0:Value).cells.toList) (256*c+1) [(.int .i64 0)]) 1 (ptrTo (256*c+1)) (.int .i64 7)).bind fun h1 =>
 (ld1 h1 (ptrTo (256*c+1))).bind fun v2 =>
 some ⟨.ret,[v2],h1,(c+1+1+1),[]⟩)
 ((Z3A [(.int .i64 0),(.int .i64 0),(.int .i64 0),(.int .i64 0),(.int .i64 0)] [(0,1,(.int .i64 (-1)))]).bind fun t10 =>
 (stN (newB (newB (newB h (256*c+0) (t0:Value).cells.toList) (256*c+1) [(.int .i64 0)]) (256*(c+1+1)+1) [(.int .i64 0),(.int .i64 0),(.int .i64 0),(.int .i64 0),(.int .i64 0)]) 5 (ptrTo (256*(c+1+1)+1)) t10).bind fun h4 =>
 (ldN h4 1 (ptrTo (256*c+0))).bind fun t11 =>
 (callF o 83 [t11] h4 (c+1+1+1+1)).bind fun r5 =>
 (Z4X o 71 none [1,2,3] [] #[13,14] Z1r Z1q r5.1 [(ptrTo (256*c+0)),(ptrTo (256*c+1)),(ptrTo (256*(c+1+1)+1))] r5.2.1 r5.2.2 []).bind fun q6 =>
 cond (Z0x q6.1 .normal)
  ((stN q6.2.1 1 (ptrTo (256*c+1)) (.int .i64 0)).bind fun h10 =>
  (Z09 h10 q6.2.2.2).bind fun h11 =>
  (ld1 h11 (ptrTo (256*c+1))).bind fun v12 =>
  some ⟨.ret,[v12],h11,(q6.2.2.1+1),[]⟩)
  (cond (Z0x q6.1 .ret)
   ((Z09 q6.2.1 q6.2.2.2).bind fun h7 =>
   (ld1 h7 (ptrTo (256*c+1))).bind fun v8 =>
   some ⟨.ret,[v8],h7,q6.2.2.1,[]⟩)
   (none)))
 else none)
theorem Zf5 (o:Orc H) (t0:Value) (h:H) (c:Nat):jx P o 71 none f70_c (Z0j (List.range 1) [t0]) h c [] (Kfn P Try.f70.results.toList)=Ziz o t0 h c:=by kernel_rfl
theorem f70_go {t0:Value} {h:FH} {c:Nat} {df:List Nat} {r:Rt FH} (e:Ziz G t0 h c=some r):G (.fn 70) [t0] h c df=some (gcR h c [] r):=Z0h (a:=ZcU) bk_70 rfl (fun args h c=>by cases args <;> rfl) rfl ((Zf5 G t0 h c).trans e)
theorem Zgn {t13 t14 t1 t2 t3:Value} {l:Nat} {h:FH} {c:Nat} {df:List Nat} {r:Rt FH} (e:Z2O G l t13 t14 t1 t2 t3 h c=some r):G (.rnd 71 [1,2,3] [] [13,14] l Z1r Z1q) [t13,t14,t1,t2,t3] h c df=some r:=Zay ((Z6n G l t13 t14 t1 t2 t3 h c).trans e)
noncomputable def Z47 (o:Orc H) (rd:Option Nat) (t2 t3 t10 t11:Value) (h:H) (c:Nat) (df:List Nat):Option (Rt H) :=
 (Z00 P .lss 3 t11 t10).bind fun t12 =>
 Z08 t12
 ((Z04 t3 0).bind fun t14 =>
 (ld1 h t14).bind fun t15 =>
 (ixS 1 t15 t11).bind fun t18 =>
 (stN h 1 t18 t11).bind fun h1 =>
 (Z00 P .add 3 t11 (.int .i64 1)).bind fun t19 =>
 some ⟨.normal,[t2,t3,t10,t19],h1,(c+1+1+1+1),df⟩)
 (some ⟨(.exit 0),[t2,t3,t10,t11],h,(c+1),df⟩)
theorem Z4G (o:Orc H) (rd:Option Nat) (t2 t3 t10 t11:Value) (h:H) (c:Nat) (df:List Nat):jx P o 21 rd Z2N (Z0j [2,3,10,11] [t2,t3,t10,t11]) h c df (Klp [2,3,10,11])=Z47 o rd t2 t3 t10 t11 h c df:=by kernel_rfl
noncomputable def Ziy (o:Orc H) (t0:Value) (h:H) (c:Nat):Option (Rt H) :=
 (mkS 1 8 [(.int .i64 0)] t0 t0).bind fun r0 =>
 (Z3A [(.slice none 0 0)] [(0,1,(.slice (some ⟨(256*(c+1)+1),0,none⟩) r0.2.1 r0.2.2))]).bind fun t7 =>
 (stN (newB (newB (newB h (256*c+0) [(.slice none 0 0)]) (256*(c+1)+1) r0.1) (256*(c+1)+3) [(.slice none 0 0)]) 1 (ptrTo (256*(c+1)+3)) t7).bind fun h2 =>
 (Z04 (ptrTo (256*(c+1)+3)) 0).bind fun t8 =>
 (ld1 h2 t8).bind fun t9 =>
 (Z1B t9).bind fun t10 =>
 (o (Z9P none) [(ptrTo (256*c+0)),(ptrTo (256*(c+1)+3)),t10,(.int .i64 0)] h2 (c+1+1+1) []).bind fun r3 =>
 cond (Z0x r3.e (.exit 0))
 ((ldN r3.h 1 (r3.v 1)).bind fun t20 =>
 (stN r3.h 1 (r3.v 0) t20).bind fun h5 =>
 (Z09 h5 r3.df).bind fun h6 =>
 (ldN h6 1 (r3.v 0)).bind fun v7 =>
 some ⟨.ret,[v7],h6,(r3.c+1),[]⟩)
 (none)
theorem Zf4 (o:Orc H) (t0:Value) (h:H) (c:Nat):jx P o 21 none f71_c (Z0j (List.range 1) [t0]) h c [] (Kfn P Try.f71.results.toList)=Ziy o t0 h c:=by kernel_rfl
theorem f71_go {t0:Value} {h:FH} {c:Nat} {df:List Nat} {r:Rt FH} (e:Ziy G t0 h c=some r):G (.fn 71) [t0] h c df=some r:=Z0h (a:=ZcT) bk_71 rfl (fun args h c=>by cases args <;> rfl) rfl ((Zf4 G t0 h c).trans e)
noncomputable def Zgm (o:Orc H) (t0 t1 t2:Value) (h:H) (c:Nat):Option (Rt H) :=
 (callF o 46 [t0,t1] h (c+1)).bind fun r0 =>
 (callF o 46 [t0,t2] r0.2.1 r0.2.2).bind fun r1 =>
 (Z0s t0).bind fun t13 =>
 (Z04 t13 0).bind fun t14 =>
 (ld1 r1.2.1 t14).bind fun t15 =>
 (Z3X max2 [r0.1,r1.1]).bind fun t18 =>
 (Z3X min2 [r0.1,r1.1]).bind fun t21 =>
 (ixS 1 t15 t18).bind fun t22 =>
 (stN r1.2.1 1 t22 t21).bind fun h5 =>
 some ⟨.ret,[.tuple #[]],h5,(r1.2.2+1),[]⟩
theorem Zf3 (o:Orc H) (t0 t1 t2:Value) (h:H) (c:Nat):jx P o 23 none f72_c (Z0j (List.range 3) [t0,t1,t2]) h c [] (Kfn P Try.f72.results.toList)=Zgm o t0 t1 t2 h c:=by kernel_rfl
theorem f72_go {t0 t1 t2:Value} {h:FH} {c:Nat} {df:List Nat} {r:Rt FH} (e:Zgm G t0 t1 t2 h c=some r):G (.fn 72) [t0,t1,t2] h c df=some (gcR h c [] r):=Z0h (a:=ZcS) bk_72 rfl (fun args h c=>by cases args <;> rfl) rfl ((Zf3 G t0 t1 t2 h c).trans e)
noncomputable def Zix (o:Orc H) (t0 t1:Value) (h:H) (c:Nat):Option (Rt H) :=
 (bif (t0:Value).cells.toList.all Z0d then
 (bif (t1:Value).cells.toList.all Z0d then
 (callF o 87 [] (newB (newB h (256*c+0) (t0:Value).cells.toList) (256*c+1) (t1:Value).cells.toList) (c+1+1)).bind fun r0 =>
 (callF o 86 [r0.1,(.func (.func 88) [].toArray [(ptrTo (256*c+0)),(ptrTo (256*c+1))].toArray)] r0.2.1 r0.2.2).bind fun r1 =>
 some ⟨.ret,[r1.1],r1.2.1,r1.2.2,[]⟩
 else none)
 else none)
theorem Zf2 (o:Orc H) (t0 t1:Value) (h:H) (c:Nat):jx P o 8 none f73_c (Z0j (List.range 2) [t0,t1]) h c [] (Kfn P Try.f73.results.toList)=Zix o t0 t1 h c:=by kernel_rfl
theorem f73_go {t0 t1:Value} {h:FH} {c:Nat} {df:List Nat} {r:Rt FH} (e:Zix G t0 t1 h c=some r):G (.fn 73) [t0,t1] h c df=some (gcR h c [] r):=Z0h (a:=ZcR) bk_73 rfl (fun args h c=>by cases args <;> rfl) rfl ((Zf2 G t0 t1 h c).trans e)
noncomputable def Z46 (o:Orc H) (rd:Option Nat) (t0 t1 t7 t8 t9 t34:Value) (h:H) (c:Nat) (df:List Nat):Option (Rt H) :=
 (Z00 P .lss 3 t34 (.int .i64 3)).bind fun t35 =>
 Z08 t35
 ((callF o 60 [] h (c+1+1+1)).bind fun r0 =>
 (ixV 4 true 4 r0.1 t7).bind fun t40 =>
 (ixV 4 false 1 t40 t8).bind fun t42 =>
 (Z00 P .neq 3 t34 t42).bind fun t43 =>
 (Z08 t43
  ((Z00 P .mul 3 (.int .i64 7) t1).bind fun t47 =>
  (Z00 P .add 3 t47 (.int .i64 4)).bind fun t48 =>
  (Z00 P .add 3 t48 t34).bind fun t50 =>
  (ixS 1 t0 t50).bind fun t51 =>
  (ld1 r0.2.1 t51).bind fun t52 =>
  (Z00 P .add 3 t9 t52).bind fun t53 =>
  some ⟨.normal,[t0,t1,t7,t8,t53,t34],r0.2.1,(r0.2.2+1),df⟩)
  (some ⟨.normal,[t0,t1,t7,t8,t9,t34],r0.2.1,r0.2.2,df⟩):Option (Rt H)).bind fun r2 =>
 cond (Z0x r2.e .normal)
  ((Z00 P .add 3 (r2.v 5) (.int .i64 1)).bind fun t54 =>
  some ⟨.normal,[r2.v 0,r2.v 1,r2.v 2,r2.v 3,r2.v 4,t54],r2.h,(r2.c+1),r2.df⟩)
  (none))
 (some ⟨(.exit 0),[t0,t1,t7,t8,t9,t34],h,(c+1),df⟩)
theorem Z4F (o:Orc H) (rd:Option Nat) (t0 t1 t7 t8 t9 t34:Value) (h:H) (c:Nat) (df:List Nat):jx P o 56 rd Z2M (Z0j [0,1,7,8,9,34] [t0,t1,t7,t8,t9,t34]) h c df (Klp [0,1,7,8,9,34])=Z46 o rd t0 t1 t7 t8 t9 t34 h c df:=by kernel_rfl
noncomputable def Ziw (o:Orc H) (t0 t1 t2:Value) (h:H) (c:Nat):Option (Rt H) :=
 (callF o 89 [] h (c+1+1)).bind fun r0 =>
 (ixV 6 true 2 r0.1 t2).bind fun t13 =>
 (ixV 2 false 1 t13 (.int .i64 0)).bind fun t14 =>
 (callF o 89 [] r0.2.1 r0.2.2).bind fun r1 =>
 (ixV 6 true 2 r1.1 t2).bind fun t17 =>
 (ixV 2 false 1 t17 (.int .i64 1)).bind fun t18 =>
 (Z00 P .mul 3 (.int .i64 7) t1).bind fun t21 =>
 (Z00 P .add 3 t21 t14).bind fun t23 =>
 (ixS 1 t0 t23).bind fun t24 =>
 (ld1 r1.2.1 t24).bind fun t25 =>
 (Z00 P .mul 3 (.int .i64 7) t1).bind fun t28 =>
 (Z00 P .add 3 t28 t18).bind fun t30 =>
 (ixS 1 t0 t30).bind fun t31 =>
 (ld1 r1.2.1 t31).bind fun t32 =>
 (Z00 P .add 3 t25 t32).bind fun t33 =>
 (o (Z9O none) [t0,t1,t14,t18,t33,(.int .i64 0)] r1.2.1 (r1.2.2+1+1) []).bind fun r2 =>
 cond (Z0x r2.e (.exit 0))
 ((Z09 r2.h r2.df).bind fun h3 =>
 some ⟨.ret,[r2.v 4],h3,(r2.c+1),[]⟩)
 (none)
theorem Zf1 (o:Orc H) (t0 t1 t2:Value) (h:H) (c:Nat):jx P o 56 none f74_c (Z0j (List.range 3) [t0,t1,t2]) h c [] (Kfn P Try.f74.results.toList)=Ziw o t0 t1 t2 h c:=by kernel_rfl
theorem f74_go {t0 t1 t2:Value} {h:FH} {c:Nat} {df:List Nat} {r:Rt FH} (e:Ziw G t0 t1 t2 h c=some r):G (.fn 74) [t0,t1,t2] h c df=some (gcR h c [] r):=Z0h (a:=ZcQ) bk_74 rfl (fun args h c=>by cases args <;> rfl) rfl ((Zf1 G t0 t1 t2 h c).trans e)
noncomputable def Ziv (o:Orc H) (t0 t1:Value) (h:H) (c:Nat):Option (Rt H) :=
 (callF o 90 [t0,t1] h (c+1+1)).bind fun r0 =>
 (Z00 P .geq 3 r0.1 (.int .i64 0)).bind fun t8 =>
 some ⟨.ret,[t8],r0.2.1,r0.2.2,[]⟩
theorem Zf0 (o:Orc H) (t0 t1:Value) (h:H) (c:Nat):jx P o 9 none f75_c (Z0j (List.range 2) [t0,t1]) h c [] (Kfn P Try.f75.results.toList)=Ziv o t0 t1 h c:=by kernel_rfl
theorem f75_go {t0 t1:Value} {h:FH} {c:Nat} {df:List Nat} {r:Rt FH} (e:Ziv G t0 t1 h c=some r):G (.fn 75) [t0,t1] h c df=some (gcR h c [] r):=Z0h (a:=ZcP) bk_75 rfl (fun args h c=>by cases args <;> rfl) rfl ((Zf0 G t0 t1 h c).trans e)
noncomputable def Ziu (o:Orc H) (t0:Value) (h:H) (c:Nat):Option (Rt H) :=
 (Z00 P .lss 3 t0 (.int .i64 0)).bind fun t4 =>
 (gd t4 false h (c+1+1) (some t0)).bind fun r0 =>
 (gd t4 false r0.2.1 r0.2.2 (Z00 P .gtr 3 r0.1 (.int .i64 1000000))).bind fun r1 =>
 (Z0v t4 (.bool true) r1.1).bind fun t8 =>
 some ⟨.ret,[t8],r1.2.1,r1.2.2,[]⟩
theorem ZeZ (o:Orc H) (t0:Value) (h:H) (c:Nat):jx P o 9 none f76_c (Z0j (List.range 1) [t0]) h c [] (Kfn P Try.f76.results.toList)=Ziu o t0 h c:=by kernel_rfl
theorem f76_go {t0:Value} {h:FH} {c:Nat} {df:List Nat} {r:Rt FH} (e:Ziu G t0 h c=some r):G (.fn 76) [t0] h c df=some (gcR h c [] r):=Z0h (a:=ZcO) bk_76 rfl (fun args h c=>by cases args <;> rfl) rfl ((ZeZ G t0 h c).trans e)
noncomputable def Z22 (o:Orc H) (rd:Option Nat) (t0 t3 t5 t6 t9 t10 t11 t16 t17 t44:Value) (h:H) (c:Nat) (df:List Nat):Option (Rt H) :=
 (Z00 P .lss 3 t44 (.int .i64 4)).bind fun t45 =>
 Z08 t45
 ((Z00 P .neq 3 t44 t5).bind fun t49 =>
 (gd t49 true h (c+1+1+1) (some t0)).bind fun r0 =>
 (gd t49 true r0.2.1 r0.2.2 (some t3)).bind fun r1 =>
 (gd t49 true r1.2.1 r1.2.2 (some t5)).bind fun r2 =>
 (gd t49 true r2.2.1 r2.2.2 (some t44)).bind fun r3 =>
 (gd t49 true r3.2.1 r3.2.2 (Z04 t6 0)).bind fun r4 =>
 (gd t49 true r4.2.1 r4.2.2 (ld1 r4.2.1 r4.1)).bind fun r5 =>
 (gd t49 true r5.2.1 r5.2.2 (some t5)).bind fun r6 =>
 (gd t49 true r6.2.1 r6.2.2 (Z04 t6 1)).bind fun r7 =>
 (gd t49 true r7.2.1 r7.2.2 (ixA 4 1 r7.1 r6.1)).bind fun r8 =>
 (gd t49 true r8.2.1 r8.2.2 (ld1 r8.2.1 r8.1)).bind fun r9 =>
 (gd t49 true r9.2.1 r9.2.2 (some t44)).bind fun r10 =>
 (gd t49 true r10.2.1 r10.2.2 (Z04 t6 1)).bind fun r11 =>
 (gd t49 true r11.2.1 r11.2.2 (ixA 4 1 r11.1 r10.1)).bind fun r12 =>
 (gd t49 true r12.2.1 r12.2.2 (ld1 r12.2.1 r12.1)).bind fun r13 =>
 (gd t49 true r13.2.1 r13.2.2 (Z3A [(.int .i64 0),(.int .i64 0),(.int .i64 0),(.int .i64 0),(.int .i64 0),(.int .i64 0)] [(0,1,r1.1),(1,1,r2.1),(2,1,r3.1),(3,1,r5.1),(4,1,r9.1),(5,1,r13.1)])).bind fun r14 =>
 (gg t49 true r14.2.1 r14.2.2 (Z29 o r14.2.1 r14.2.2 r0.1 [r14.1])).bind fun r15 =>
 (gd t49 true r15.2.1 r15.2.2 (Z1t .not r15.1)).bind fun r16 =>
 (Z0v t49 r16.1 (.bool false)).bind fun t68 =>
 Z08 t68
  (some ⟨.ret,[t0,t3,t5,t6,t9,t10,t11,t16,t17,t44],r16.2.1,r16.2.2,df⟩)
  ((Z00 P .add 3 t44 (.int .i64 1)).bind fun t69 =>
  some ⟨.normal,[t0,t3,t5,t6,t9,t10,t11,t16,t17,t69],r16.2.1,(r16.2.2+1),df⟩))
 (some ⟨(.exit 4),[t0,t3,t5,t6,t9,t10,t11,t16,t17,t44],h,(c+1),df⟩)
theorem Z1P (o:Orc H) (rd:Option Nat) (t0 t3 t5 t6 t9 t10 t11 t16 t17 t44:Value) (h:H) (c:Nat) (df:List Nat):jx P o 72 rd Z2J (Z0j [0,3,5,6,9,10,11,16,17,44] [t0,t3,t5,t6,t9,t10,t11,t16,t17,t44]) h c df (Klp [0,3,5,6,9,10,11,16,17,44])=Z22 o rd t0 t3 t5 t6 t9 t10 t11 t16 t17 t44 h c df:=by kernel_rfl
noncomputable def Z44 (o:Orc H) (rd:Option Nat) (t0 t3 t9 t10 t11 t16 t17:Value) (h:H) (c:Nat) (df:List Nat):Option (Rt H) :=
 (Z00 P .lss 3 t17 (.int .i64 4)).bind fun t18 =>
 Z08 t18
 (((ixV 4 true 5 t16 t17).bind fun t20 =>
  (stN (newB h (256*(c+1)+2) [(.int .i64 0),(.int .i64 0),(.int .i64 0),(.int .i64 0),(.int .i64 0)]) 5 (ptrTo (256*(c+1)+2)) t20).bind fun h1 =>
  (Z04 (ptrTo (256*(c+1)+2)) 0).bind fun t21 =>
  (ld1 h1 t21).bind fun t22 =>
  (Z00 P .lss 3 t22 (.int .i64 0)).bind fun t23 =>
  (gd t23 false h1 (c+1+1+1) (Z04 (ptrTo (256*(c+1)+2)) 0)).bind fun r2 =>
  (gd t23 false r2.2.1 r2.2.2 (ld1 r2.2.1 r2.1)).bind fun r3 =>
  (gd t23 false r3.2.1 r3.2.2 (some t3)).bind fun r4 =>
  (gd t23 false r4.2.1 r4.2.2 (Z00 P .lss 3 r3.1 r4.1)).bind fun r5 =>
  (Z0v t23 (.bool true) r5.1).bind fun t29 =>
  (gd t29 false r5.2.1 r5.2.2 (Z04 (ptrTo (256*(c+1)+2)) 0)).bind fun r6 =>
  (gd t29 false r6.2.1 r6.2.2 (ld1 r6.2.1 r6.1)).bind fun r7 =>
  (gd t29 false r7.2.1 r7.2.2 (some t3)).bind fun r8 =>
  (gd t29 false r8.2.1 r8.2.2 (Z00 P .eql 3 r7.1 r8.1)).bind fun r9 =>
  (gd t29 false r9.2.1 r9.2.2 (some r9.1)).bind fun r10 =>
  (gd r10.1 true r10.2.1 r10.2.2 (some t17)).bind fun r11 =>
  (gd r10.1 true r11.2.1 r11.2.2 (Z04 (ptrTo (256*(c+1)+2)) 1)).bind fun r12 =>
  (gd r10.1 true r12.2.1 r12.2.2 (ixA 4 1 r12.1 r11.1)).bind fun r13 =>
  (gd r10.1 true r13.2.1 r13.2.2 (ld1 r13.2.1 r13.1)).bind fun r14 =>
  (gd r10.1 true r14.2.1 r14.2.2 (some t17)).bind fun r15 =>
  (gd r10.1 true r15.2.1 r15.2.2 (Z00 P .lss 3 r14.1 r15.1)).bind fun r16 =>
  (gg t29 false r16.2.1 r16.2.2 (Zco r16.2.1 r16.2.2 r10.1 r16.1 (.bool false))).bind fun r17 =>
  (Z0v t29 (.bool true) r17.1).bind fun t43 =>
  Z08 t43
   (some ⟨.normal,[t0,t3,t9,t10,t11,t16,t17],r17.2.1,r17.2.2,df⟩)
   ((o (Z6T rd) [t0,t3,t17,(ptrTo (256*(c+1)+2)),t9,t10,t11,t16,t17,(.int .i64 0)] r17.2.1 (r17.2.2+1) df).bind fun r18 =>
   cond (Z0x r18.e (.exit 4))
    (some ⟨.normal,[r18.v 0,r18.v 1,r18.v 4,r18.v 5,r18.v 6,r18.v 7,r18.v 8],r18.h,r18.c,r18.df⟩)
    (cond (Z0x r18.e .ret)
     (some ⟨.ret,[r18.v 0,r18.v 1,r18.v 4,r18.v 5,r18.v 6,r18.v 7,r18.v 8],r18.h,r18.c,r18.df⟩)
     (none))):Option (Rt H)).bind fun r19 =>
 cond (Z0x r19.e .normal)
  ((Z00 P .add 3 (r19.v 6) (.int .i64 1)).bind fun t70 =>
  some ⟨.normal,[r19.v 0,r19.v 1,r19.v 2,r19.v 3,r19.v 4,r19.v 5,t70],r19.h,(r19.c+1),r19.df⟩)
  (cond (Z0x r19.e .ret)
   (some ⟨.ret,[r19.v 0,r19.v 1,r19.v 2,r19.v 3,r19.v 4,r19.v 5,r19.v 6],r19.h,r19.c,r19.df⟩)
   (none)))
 (some ⟨(.exit 2),[t0,t3,t9,t10,t11,t16,t17],h,(c+1),df⟩)
theorem Z4D (o:Orc H) (rd:Option Nat) (t0 t3 t9 t10 t11 t16 t17:Value) (h:H) (c:Nat) (df:List Nat):jx P o 72 rd Z2K (Z0j [0,3,9,10,11,16,17] [t0,t3,t9,t10,t11,t16,t17]) h c df (Klp [0,3,9,10,11,16,17])=Z44 o rd t0 t3 t9 t10 t11 t16 t17 h c df:=by kernel_rfl
noncomputable def Z45 (o:Orc H) (rd:Option Nat) (t0 t9 t10 t11:Value) (h:H) (c:Nat) (df:List Nat):Option (Rt H) :=
 (Z00 P .lss 3 t11 t10).bind fun t12 =>
 Z08 t12
 ((ixS 20 t9 t11).bind fun t14 =>
 (ldN h 20 t14).bind fun t15 =>
 (stN (newB h (256*(c+1)+3) [(.int .i64 0),(.int .i64 0),(.int .i64 0),(.int .i64 0),(.int .i64 0),(.int .i64 0),(.int .i64 0),(.int .i64 0),(.int .i64 0),(.int .i64 0),(.int .i64 0),(.int .i64 0),(.int .i64 0),(.int .i64 0),(.int .i64 0),(.int .i64 0),(.int .i64 0),(.int .i64 0),(.int .i64 0),(.int .i64 0)]) 20 (ptrTo (256*(c+1)+3)) t15).bind fun h1 =>
 (ldN h1 20 (ptrTo (256*(c+1)+3))).bind fun t16 =>
 (o (Z6U rd) [t0,t11,t9,t10,t11,t16,(.int .i64 0)] h1 (c+1+1+1) df).bind fun r2 =>
 cond (Z0x r2.e (.exit 2))
  ((Z00 P .add 3 (r2.v 4) (.int .i64 1)).bind fun t71 =>
  some ⟨.normal,[r2.v 0,r2.v 2,r2.v 3,t71],r2.h,(r2.c+1),r2.df⟩)
  (cond (Z0x r2.e .ret)
   (some ⟨.ret,[r2.v 0,r2.v 2,r2.v 3,r2.v 4],r2.h,r2.c,r2.df⟩)
   (none)))
 (some ⟨(.exit 0),[t0,t9,t10,t11],h,(c+1),df⟩)
theorem Z4E (o:Orc H) (rd:Option Nat) (t0 t9 t10 t11:Value) (h:H) (c:Nat) (df:List Nat):jx P o 72 rd Z2L (Z0j [0,9,10,11] [t0,t9,t10,t11]) h c df (Klp [0,9,10,11])=Z45 o rd t0 t9 t10 t11 h c df:=by kernel_rfl
noncomputable def Zit (o:Orc H) (t0 t1:Value) (h:H) (c:Nat):Option (Rt H) :=
 (Z04 t1 0).bind fun t8 =>
 (ld1 h t8).bind fun t9 =>
 (Z1B t9).bind fun t10 =>
 (o (Z9N none) [t0,t9,t10,(.int .i64 0)] h (c+1) []).bind fun r0 =>
 cond (Z0x r0.e (.exit 0))
 ((Z09 r0.h r0.df).bind fun h2 =>
 some ⟨.ret,[.tuple #[]],h2,r0.c,[]⟩)
 (cond (Z0x r0.e .ret)
  ((Z09 r0.h r0.df).bind fun h1 =>
  some ⟨.ret,[.tuple #[]],h1,r0.c,[]⟩)
  (none))
theorem ZeY (o:Orc H) (t0 t1:Value) (h:H) (c:Nat):jx P o 72 none f77_c (Z0j (List.range 2) [t0,t1]) h c [] (Kfn P Try.f77.results.toList)=Zit o t0 t1 h c:=by kernel_rfl
theorem f77_go {t0 t1:Value} {h:FH} {c:Nat} {df:List Nat} {r:Rt FH} (e:Zit G t0 t1 h c=some r):G (.fn 77) [t0,t1] h c df=some r:=Z0h (a:=ZcN) bk_77 rfl (fun args h c=>by cases args <;> rfl) rfl ((ZeY G t0 t1 h c).trans e)
noncomputable def Zis (o:Orc H) (t0:Value) (h:H) (c:Nat):Option (Rt H) :=
 (bif (t0:Value).cells.toList.all Z0d then
 some ⟨.ret,[(.func (.func 91) [].toArray [(ptrTo (256*c+0))].toArray)],(newB h (256*c+0) (t0:Value).cells.toList),(c+1+1),[]⟩
 else none)
theorem ZeX (o:Orc H) (t0:Value) (h:H) (c:Nat):jx P o 4 none f83_c (Z0j (List.range 1) [t0]) h c [] (Kfn P Try.f83.results.toList)=Zis o t0 h c:=by kernel_rfl
theorem f83_go {t0:Value} {h:FH} {c:Nat} {df:List Nat} {r:Rt FH} (e:Zis G t0 h c=some r):G (.fn 83) [t0] h c df=some r:=Z0h (a:=ZcM) bk_83 rfl (fun args h c=>by cases args <;> rfl) rfl ((ZeX G t0 h c).trans e)
noncomputable def Z1K (o:Orc H) (rd:Option Nat) (t2 t3 t6 t7:Value) (h:H) (c:Nat) (df:List Nat):Option (Rt H) :=
 (Z00 P .lss 3 t7 (.int .i64 4)).bind fun t8 =>
 Z08 t8
 ((ixV 4 false 1 t6 t7).bind fun t9 =>
 (Z00 P .lss 3 t9 (.int .i64 0)).bind fun t11 =>
 (gd t11 false h (c+1+1+1) (some t9)).bind fun r0 =>
 (gd t11 false r0.2.1 r0.2.2 (Z00 P .gtr 3 r0.1 (.int .i64 3))).bind fun r1 =>
 (Z0v t11 (.bool true) r1.1).bind fun t15 =>
 Z08 t15
  (some ⟨.ret,[(.bool false),t3,t6,t7],r1.2.1,(r1.2.2+1),df⟩)
  ((Z00 P .shl 3 (.int .i64 1) t9).bind fun t18 =>
  (Z00 P .or 3 t3 t18).bind fun t19 =>
  (Z00 P .add 3 t7 (.int .i64 1)).bind fun t20 =>
  some ⟨.normal,[t2,t19,t6,t20],r1.2.1,(r1.2.2+1+1),df⟩))
 (some ⟨(.exit 0),[t2,t3,t6,t7],h,(c+1),df⟩)
theorem Z4C (o:Orc H) (rd:Option Nat) (t2 t3 t6 t7:Value) (h:H) (c:Nat) (df:List Nat):jx P o 23 rd Z2I (Z0j [2,3,6,7] [t2,t3,t6,t7]) h c df (Klp [2,3,6,7])=Z1K o rd t2 t3 t6 t7 h c df:=by kernel_rfl
noncomputable def Zir (o:Orc H) (t0:Value) (h:H) (c:Nat):Option (Rt H) :=
 (bif (t0:Value).cells.toList.all Z0d then
 (ldN (newB h (256*c+0) (t0:Value).cells.toList) 4 (ptrTo (256*c+0))).bind fun t6 =>
 (o (Z43 none) [(.bool false),(.int .i64 0),t6,(.int .i64 0)] (newB h (256*c+0) (t0:Value).cells.toList) (c+1+1+1) []).bind fun r0 =>
 cond (Z0x r0.e (.exit 0))
 ((Z00 P .eql 3 (r0.v 1) (.int .i64 15)).bind fun t22 =>
 (Z09 r0.h r0.df).bind fun h2 =>
 some ⟨.ret,[t22],h2,(r0.c+1),[]⟩)
 (cond (Z0x r0.e .ret)
  ((Z09 r0.h r0.df).bind fun h1 =>
  some ⟨.ret,[r0.v 0],h1,r0.c,[]⟩)
  (none))
 else none)
theorem ZeW (o:Orc H) (t0:Value) (h:H) (c:Nat):jx P o 23 none f84_c (Z0j (List.range 1) [t0]) h c [] (Kfn P Try.f84.results.toList)=Zir o t0 h c:=by kernel_rfl
theorem f84_go {t0:Value} {h:FH} {c:Nat} {df:List Nat} {r:Rt FH} (e:Zir G t0 h c=some r):G (.fn 84) [t0] h c df=some (gcR h c [] r):=Z0h (a:=ZcL) bk_84 rfl (fun args h c=>by cases args <;> rfl) rfl ((ZeW G t0 h c).trans e)
theorem Zgl {rd:Option Nat} {t2 t3 t6 t7:Value} {h:FH} {c:Nat} {df:List Nat} {q r:Rt FH} (e:Z1K G rd t2 t3 t6 t7 h c df=some q) (hq:q.e = .normal) (k:G (Z43 rd) q.vs (gcR h c df q).h (gcR h c df q).c q.df=some r):G (Z43 rd) [t2,t3,t6,t7] h c df=some r:=Z0J ((Z4C G rd t2 t3 t6 t7 h c df).trans e) hq k
theorem Z9M {rd:Option Nat} {t2 t3 t6 t7:Value} {h:FH} {c:Nat} {df:List Nat} {q:Rt FH} (e:Z1K G rd t2 t3 t6 t7 h c df=some q) (hq:q.e ≠ .normal):G (Z43 rd) [t2,t3,t6,t7] h c df=some (gcR h c df q):=Z0K ((Z4C G rd t2 t3 t6 t7 h c df).trans e) hq

variable {H:Type} [HeapC H]
noncomputable def Z21 (o:Orc H) (rd:Option Nat) (t2 t3 t6 t7:Value) (h:H) (c:Nat) (df:List Nat):Option (Rt H) :=
 (Z00 P .lss 3 t7 (.int .i64 4)).bind fun t8 =>
 Z08 t8
 ((ixV 4 false 1 t6 t7).bind fun t10 =>
 (ixA 4 1 t3 t10).bind fun t13 =>
 (stN h 1 t13 t7).bind fun h1 =>
 (Z00 P .add 3 t7 (.int .i64 1)).bind fun t14 =>
 some ⟨.normal,[t2,t3,t6,t14],h1,(c+1+1+1+1),df⟩)
 (some ⟨(.exit 0),[t2,t3,t6,t7],h,(c+1),df⟩)
theorem Z4B (o:Orc H) (rd:Option Nat) (t2 t3 t6 t7:Value) (h:H) (c:Nat) (df:List Nat):jx P o 16 rd Z2H (Z0j [2,3,6,7] [t2,t3,t6,t7]) h c df (Klp [2,3,6,7])=Z21 o rd t2 t3 t6 t7 h c df:=by kernel_rfl
noncomputable def Ziq (o:Orc H) (t0:Value) (h:H) (c:Nat):Option (Rt H) :=
 (bif (t0:Value).cells.toList.all Z0d then
 (ldN (newB (newB (newB h (256*c+0) (t0:Value).cells.toList) (256*c+1) [(.int .i64 0),(.int .i64 0),(.int .i64 0),(.int .i64 0)]) (256*(c+1)+0) [(.int .i64 0),(.int .i64 0),(.int .i64 0),(.int .i64 0)]) 4 (ptrTo (256*c+0))).bind fun t6 =>
 (o (Z42 none) [(ptrTo (256*c+1)),(ptrTo (256*(c+1)+0)),t6,(.int .i64 0)] (newB (newB (newB h (256*c+0) (t0:Value).cells.toList) (256*c+1) [(.int .i64 0),(.int .i64 0),(.int .i64 0),(.int .i64 0)]) (256*(c+1)+0) [(.int .i64 0),(.int .i64 0),(.int .i64 0),(.int .i64 0)]) (c+1+1+1) []).bind fun r0 =>
 cond (Z0x r0.e (.exit 0))
 ((ldN r0.h 4 (r0.v 1)).bind fun t15 =>
 (stN r0.h 4 (r0.v 0) t15).bind fun h2 =>
 (Z09 h2 r0.df).bind fun h3 =>
 (ldN h3 4 (r0.v 0)).bind fun v4 =>
 some ⟨.ret,[v4],h3,(r0.c+1),[]⟩)
 (none)
 else none)
theorem ZeV (o:Orc H) (t0:Value) (h:H) (c:Nat):jx P o 16 none f85_c (Z0j (List.range 1) [t0]) h c [] (Kfn P Try.f85.results.toList)=Ziq o t0 h c:=by kernel_rfl
theorem f85_go {t0:Value} {h:FH} {c:Nat} {df:List Nat} {r:Rt FH} (e:Ziq G t0 h c=some r):G (.fn 85) [t0] h c df=some (gcR h c [] r):=Z0h (a:=ZcK) bk_85 rfl (fun args h c=>by cases args <;> rfl) rfl ((ZeV G t0 h c).trans e)
theorem Zgk {rd:Option Nat} {t2 t3 t6 t7:Value} {h:FH} {c:Nat} {df:List Nat} {q r:Rt FH} (e:Z21 G rd t2 t3 t6 t7 h c df=some q) (hq:q.e = .normal) (k:G (Z42 rd) q.vs (gcR h c df q).h (gcR h c df q).c q.df=some r):G (Z42 rd) [t2,t3,t6,t7] h c df=some r:=Z0J ((Z4B G rd t2 t3 t6 t7 h c df).trans e) hq k
theorem Zgj {rd:Option Nat} {t2 t3 t6 t7:Value} {h:FH} {c:Nat} {df:List Nat} {q:Rt FH} (e:Z21 G rd t2 t3 t6 t7 h c df=some q) (hq:q.e ≠ .normal):G (Z42 rd) [t2,t3,t6,t7] h c df=some (gcR h c df q):=Z0K ((Z4B G rd t2 t3 t6 t7 h c df).trans e) hq
noncomputable def Z41 (o:Orc H) (rd:Option Nat) (t0 t1 t4 t7 t8:Value) (h:H) (c:Nat) (df:List Nat):Option (Rt H) :=
 (Z00 P .lss 3 t8 t7).bind fun t9 =>
 Z08 t9
 ((ixS 2 t0 t8).bind fun t14 =>
 (ldN h 2 t14).bind fun t15 =>
 (Z29 o h (c+1+1+1) t1 [t15]).bind fun r0 =>
 Z08 r0.1
  (some ⟨.ret,[t0,t1,t8,t7,t8],r0.2.1,(r0.2.2+1),df⟩)
  ((Z00 P .add 3 t8 (.int .i64 1)).bind fun t18 =>
  some ⟨.normal,[t0,t1,t4,t7,t18],r0.2.1,(r0.2.2+1),df⟩))
 (some ⟨(.exit 0),[t0,t1,t4,t7,t8],h,(c+1),df⟩)
theorem Z4A (o:Orc H) (rd:Option Nat) (t0 t1 t4 t7 t8:Value) (h:H) (c:Nat) (df:List Nat):jx P o 19 rd Z2G (Z0j [0,1,4,7,8] [t0,t1,t4,t7,t8]) h c df (Klp [0,1,4,7,8])=Z41 o rd t0 t1 t4 t7 t8 h c df:=by kernel_rfl
noncomputable def Zip (o:Orc H) (t0 t1:Value) (h:H) (c:Nat):Option (Rt H) :=
 (Z1B t0).bind fun t7 =>
 (o (Z9L none) [t0,t1,(.int .i64 0),t7,(.int .i64 0)] h (c+1+1) []).bind fun r0 =>
 cond (Z0x r0.e (.exit 0))
 ((Z09 r0.h r0.df).bind fun h2 =>
 some ⟨.ret,[(.int .i64 (-1))],h2,(r0.c+1),[]⟩)
 (cond (Z0x r0.e .ret)
  ((Z09 r0.h r0.df).bind fun h1 =>
  some ⟨.ret,[r0.v 2],h1,r0.c,[]⟩)
  (none))
theorem ZeU (o:Orc H) (t0 t1:Value) (h:H) (c:Nat):jx P o 19 none f86_c (Z0j (List.range 2) [t0,t1]) h c [] (Kfn P Try.f86.results.toList)=Zip o t0 t1 h c:=by kernel_rfl
theorem f86_go {t0 t1:Value} {h:FH} {c:Nat} {df:List Nat} {r:Rt FH} (e:Zip G t0 t1 h c=some r):G (.fn 86) [t0,t1] h c df=some (gcR h c [] r):=Z0h (a:=ZcJ) bk_86 rfl (fun args h c=>by cases args <;> rfl) rfl ((ZeU G t0 t1 h c).trans e)
noncomputable def Zio (o:Orc H) (h:H) (c:Nat):Option (Rt H) :=
 (callF o 89 [] h (c+1+1)).bind fun r0 =>
 (stN (newB r0.2.1 (256*(c+1)+1) [(.int .i64 0),(.int .i64 0),(.int .i64 0),(.int .i64 0),(.int .i64 0),(.int .i64 0),(.int .i64 0),(.int .i64 0),(.int .i64 0),(.int .i64 0),(.int .i64 0),(.int .i64 0)]) 12 (ptrTo (256*(c+1)+1)) r0.1).bind fun h2 =>
 (slA 6 2 (ptrTo (256*(c+1)+1)) none none none).bind fun t3 =>
 some ⟨.ret,[t3],h2,(r0.2.2+1),[]⟩
theorem ZeT (o:Orc H) (h:H) (c:Nat):jx P o 4 none f87_c (Z0j (List.range 0) []) h c [] (Kfn P Try.f87.results.toList)=Zio o h c:=by kernel_rfl
theorem f87_go {h:FH} {c:Nat} {df:List Nat} {r:Rt FH} (e:Zio G h c=some r):G (.fn 87) [] h c df=some r:=Z0h (a:=ZcI) bk_87 rfl (fun args h c=>by cases args <;> rfl) rfl ((ZeT G h c).trans e)
noncomputable def Zin (o:Orc H) (t0 t1 t2:Value) (h:H) (c:Nat):Option (Rt H) :=
 (bif (t0:Value).cells.toList.all Z0d then
 (ldN (newB h (256*c+0) (t0:Value).cells.toList) 2 (ptrTo (256*c+0))).bind fun t5 =>
 (ld1 (newB h (256*c+0) (t0:Value).cells.toList) t1).bind fun t6 =>
 (ld1 (newB h (256*c+0) (t0:Value).cells.toList) t2).bind fun t7 =>
 (Z3A [(.int .i64 0),(.int .i64 0)] [(0,1,t6),(1,1,t7)]).bind fun t8 =>
 (Z00 P .eql 115 t5 t8).bind fun t9 =>
 (gd t9 false (newB h (256*c+0) (t0:Value).cells.toList) (c+1+1) (ldN (newB h (256*c+0) (t0:Value).cells.toList) 2 (ptrTo (256*c+0)))).bind fun r0 =>
 (gd t9 false r0.2.1 r0.2.2 (ld1 r0.2.1 t2)).bind fun r1 =>
 (gd t9 false r1.2.1 r1.2.2 (ld1 r1.2.1 t1)).bind fun r2 =>
 (gd t9 false r2.2.1 r2.2.2 (Z3A [(.int .i64 0),(.int .i64 0)] [(0,1,r1.1),(1,1,r2.1)])).bind fun r3 =>
 (gd t9 false r3.2.1 r3.2.2 (Z00 P .eql 115 r0.1 r3.1)).bind fun r4 =>
 (Z0v t9 (.bool true) r4.1).bind fun t16 =>
 some ⟨.ret,[t16],r4.2.1,r4.2.2,[]⟩
 else none)
theorem ZeS (o:Orc H) (t0 t1 t2:Value) (h:H) (c:Nat):jx P o 17 none f88_c (Z0j (List.range 3) [t0,t1,t2]) h c [] (Kfn P Try.f88.results.toList)=Zin o t0 t1 t2 h c:=by kernel_rfl
theorem f88_go {t0 t1 t2:Value} {h:FH} {c:Nat} {df:List Nat} {r:Rt FH} (e:Zin G t0 t1 t2 h c=some r):G (.fn 88) [t0,t1,t2] h c df=some (gcR h c [] r):=Z0h (a:=ZcH) bk_88 rfl (fun args h c=>by cases args <;> rfl) rfl ((ZeS G t0 t1 t2 h c).trans e)
noncomputable def Zim (o:Orc H) (h:H) (c:Nat):Option (Rt H) :=
 (Z3A [(.int .i64 0),(.int .i64 0)] [(0,1,(.int .i64 0)),(1,1,(.int .i64 1))]).bind fun t1 =>
 (Z3A [(.int .i64 0),(.int .i64 0)] [(0,1,(.int .i64 0)),(1,1,(.int .i64 2))]).bind fun t2 =>
 (Z3A [(.int .i64 0),(.int .i64 0)] [(0,1,(.int .i64 0)),(1,1,(.int .i64 3))]).bind fun t3 =>
 (Z3A [(.int .i64 0),(.int .i64 0)] [(0,1,(.int .i64 1)),(1,1,(.int .i64 2))]).bind fun t4 =>
 (Z3A [(.int .i64 0),(.int .i64 0)] [(0,1,(.int .i64 1)),(1,1,(.int .i64 3))]).bind fun t5 =>
 (Z3A [(.int .i64 0),(.int .i64 0)] [(0,1,(.int .i64 2)),(1,1,(.int .i64 3))]).bind fun t6 =>
 (Z3A [(.int .i64 0),(.int .i64 0),(.int .i64 0),(.int .i64 0),(.int .i64 0),(.int .i64 0),(.int .i64 0),(.int .i64 0),(.int .i64 0),(.int .i64 0),(.int .i64 0),(.int .i64 0)] [(0,2,t1),(2,2,t2),(4,2,t3),(6,2,t4),(8,2,t5),(10,2,t6)]).bind fun t7 =>
 (stN (newB h (256*c+0) [(.int .i64 0),(.int .i64 0),(.int .i64 0),(.int .i64 0),(.int .i64 0),(.int .i64 0),(.int .i64 0),(.int .i64 0),(.int .i64 0),(.int .i64 0),(.int .i64 0),(.int .i64 0)]) 12 (ptrTo (256*c+0)) t7).bind fun h1 =>
 (ldN h1 12 (ptrTo (256*c+0))).bind fun v2 =>
 some ⟨.ret,[v2],h1,(c+1+1),[]⟩
theorem ZeR (o:Orc H) (h:H) (c:Nat):jx P o 8 none f89_c (Z0j (List.range 0) []) h c [] (Kfn P Try.f89.results.toList)=Zim o h c:=by kernel_rfl
theorem f89_go {h:FH} {c:Nat} {df:List Nat} {r:Rt FH} (e:Zim G h c=some r):G (.fn 89) [] h c df=some (gcR h c [] r):=Z0h (a:=ZcG) bk_89 rfl (fun args h c=>by cases args <;> rfl) rfl ((ZeR G h c).trans e)
noncomputable def Z40 (o:Orc H) (rd:Option Nat) (t0 t1 t4 t7 t8:Value) (h:H) (c:Nat) (df:List Nat):Option (Rt H) :=
 (Z00 P .lss 3 t8 t7).bind fun t9 =>
 Z08 t9
 ((ixS 1 t0 t8).bind fun t14 =>
 (ld1 h t14).bind fun t15 =>
 (Z29 o h (c+1+1+1) t1 [t15]).bind fun r0 =>
 Z08 r0.1
  (some ⟨.ret,[t0,t1,t8,t7,t8],r0.2.1,(r0.2.2+1),df⟩)
  ((Z00 P .add 3 t8 (.int .i64 1)).bind fun t18 =>
  some ⟨.normal,[t0,t1,t4,t7,t18],r0.2.1,(r0.2.2+1),df⟩))
 (some ⟨(.exit 0),[t0,t1,t4,t7,t8],h,(c+1),df⟩)
theorem Z4z (o:Orc H) (rd:Option Nat) (t0 t1 t4 t7 t8:Value) (h:H) (c:Nat) (df:List Nat):jx P o 19 rd Z2F (Z0j [0,1,4,7,8] [t0,t1,t4,t7,t8]) h c df (Klp [0,1,4,7,8])=Z40 o rd t0 t1 t4 t7 t8 h c df:=by kernel_rfl
noncomputable def Zgi (o:Orc H) (t0 t1:Value) (h:H) (c:Nat):Option (Rt H) :=
 (Z1B t0).bind fun t7 =>
 (o (Z9K none) [t0,t1,(.int .i64 0),t7,(.int .i64 0)] h (c+1+1) []).bind fun r0 =>
 cond (Z0x r0.e (.exit 0))
 ((Z09 r0.h r0.df).bind fun h2 =>
 some ⟨.ret,[(.int .i64 (-1))],h2,(r0.c+1),[]⟩)
 (cond (Z0x r0.e .ret)
  ((Z09 r0.h r0.df).bind fun h1 =>
  some ⟨.ret,[r0.v 2],h1,r0.c,[]⟩)
  (none))
theorem ZeQ (o:Orc H) (t0 t1:Value) (h:H) (c:Nat):jx P o 19 none f90_c (Z0j (List.range 2) [t0,t1]) h c [] (Kfn P Try.f90.results.toList)=Zgi o t0 t1 h c:=by kernel_rfl
theorem ZmH {t0 t1:Value} {h:FH} {c:Nat} {df:List Nat} {r:Rt FH} (e:Zgi G t0 t1 h c=some r):G (.fn 90) [t0,t1] h c df=some (gcR h c [] r):=Z0h (a:=ZcF) bk_90 rfl (fun args h c=>by cases args <;> rfl) rfl ((ZeQ G t0 t1 h c).trans e)
noncomputable def Z1I (o:Orc H) (rd:Option Nat) (t0 t1 t3 t8 t9 t16 t17:Value) (h:H) (c:Nat) (df:List Nat):Option (Rt H) :=
 (Z00 P .lss 3 t17 (.int .i64 4)).bind fun t18 =>
 Z08 t18
 ((ixV 4 true 5 t16 t17).bind fun t20 =>
 (stN (newB h (256*(c+1)+2) [(.int .i64 0),(.int .i64 0),(.int .i64 0),(.int .i64 0),(.int .i64 0)]) 5 (ptrTo (256*(c+1)+2)) t20).bind fun h1 =>
 (Z3A [(.int .i64 0),(.int .i64 0)] [(0,1,t3),(1,1,t17)]).bind fun t24 =>
 (ldN h1 5 (ptrTo (256*(c+1)+2))).bind fun t25 =>
 (Z29 o h1 (c+1+1+1) t0 [t24,t25]).bind fun r2 =>
 (Z1t .not r2.1).bind fun t27 =>
 Z08 t27
  (some ⟨.ret,[t0,t1,t3,t8,t9,t16,t17],r2.2.1,r2.2.2,df⟩)
  ((Z00 P .add 3 t17 (.int .i64 1)).bind fun t28 =>
  some ⟨.normal,[t0,t1,t3,t8,t9,t16,t28],r2.2.1,(r2.2.2+1),df⟩))
 (some ⟨(.exit 2),[t0,t1,t3,t8,t9,t16,t17],h,(c+1),df⟩)
theorem Z4x (o:Orc H) (rd:Option Nat) (t0 t1 t3 t8 t9 t16 t17:Value) (h:H) (c:Nat) (df:List Nat):jx P o 30 rd Z2D (Z0j [0,1,3,8,9,16,17] [t0,t1,t3,t8,t9,t16,t17]) h c df (Klp [0,1,3,8,9,16,17])=Z1I o rd t0 t1 t3 t8 t9 t16 t17 h c df:=by kernel_rfl
noncomputable def Z1J (o:Orc H) (rd:Option Nat) (t0 t1 t8 t9:Value) (h:H) (c:Nat) (df:List Nat):Option (Rt H) :=
 (Z00 P .lss 3 t9 t8).bind fun t10 =>
 Z08 t10
 ((Z04 t1 0).bind fun t12 =>
 (ld1 h t12).bind fun t13 =>
 (ixS 20 t13 t9).bind fun t15 =>
 (ldN h 20 t15).bind fun t16 =>
 (o (Z3Y rd) [t0,t1,t9,t8,t9,t16,(.int .i64 0)] h (c+1+1+1) df).bind fun r0 =>
 cond (Z0x r0.e (.exit 2))
  ((Z00 P .add 3 (r0.v 4) (.int .i64 1)).bind fun t29 =>
  some ⟨.normal,[r0.v 0,r0.v 1,r0.v 3,t29],r0.h,(r0.c+1),r0.df⟩)
  (cond (Z0x r0.e .ret)
   (some ⟨.ret,[r0.v 0,r0.v 1,r0.v 3,r0.v 4],r0.h,r0.c,r0.df⟩)
   (none)))
 (some ⟨(.exit 0),[t0,t1,t8,t9],h,(c+1),df⟩)
theorem Z4y (o:Orc H) (rd:Option Nat) (t0 t1 t8 t9:Value) (h:H) (c:Nat) (df:List Nat):jx P o 30 rd Z2E (Z0j [0,1,8,9] [t0,t1,t8,t9]) h c df (Klp [0,1,8,9])=Z1J o rd t0 t1 t8 t9 h c df:=by kernel_rfl
noncomputable def Zgf (o:Orc H) (t0 t1:Value) (h:H) (c:Nat):Option (Rt H) :=
 (Z04 t1 0).bind fun t6 =>
 (ld1 h t6).bind fun t7 =>
 (Z1B t7).bind fun t8 =>
 (o (Z3Z none) [t0,t1,t8,(.int .i64 0)] h (c+1) []).bind fun r0 =>
 cond (Z0x r0.e (.exit 0))
 ((Z09 r0.h r0.df).bind fun h2 =>
 some ⟨.ret,[.tuple #[]],h2,r0.c,[]⟩)
 (cond (Z0x r0.e .ret)
  ((Z09 r0.h r0.df).bind fun h1 =>
  some ⟨.ret,[.tuple #[]],h1,r0.c,[]⟩)
  (none))
theorem ZeP (o:Orc H) (t0 t1:Value) (h:H) (c:Nat):jx P o 30 none f91_c (Z0j (List.range 2) [t0,t1]) h c [] (Kfn P Try.f91.results.toList)=Zgf o t0 t1 h c:=by kernel_rfl
theorem ZmG {t0 t1:Value} {h:FH} {c:Nat} {df:List Nat} {r:Rt FH} (e:Zgf G t0 t1 h c=some r):G (.fn 91) [t0,t1] h c df=some r:=Z0h (a:=ZcE) bk_91 rfl (fun args h c=>by cases args <;> rfl) rfl ((ZeP G t0 t1 h c).trans e)
theorem Zgg {rd:Option Nat} {t0 t1 t3 t8 t9 t16 t17:Value} {h:FH} {c:Nat} {df:List Nat} {q r:Rt FH} (e:Z1I G rd t0 t1 t3 t8 t9 t16 t17 h c df=some q) (hq:q.e = .normal) (k:G (Z3Y rd) q.vs q.h q.c q.df=some r):G (Z3Y rd) [t0,t1,t3,t8,t9,t16,t17] h c df=some r:=Z0J ((Z4x G rd t0 t1 t3 t8 t9 t16 t17 h c df).trans e) hq k
theorem Z9I {rd:Option Nat} {t0 t1 t3 t8 t9 t16 t17:Value} {h:FH} {c:Nat} {df:List Nat} {q:Rt FH} (e:Z1I G rd t0 t1 t3 t8 t9 t16 t17 h c df=some q) (hq:q.e ≠ .normal):G (Z3Y rd) [t0,t1,t3,t8,t9,t16,t17] h c df=some q:=Z0K ((Z4x G rd t0 t1 t3 t8 t9 t16 t17 h c df).trans e) hq
theorem Zgh {rd:Option Nat} {t0 t1 t8 t9:Value} {h:FH} {c:Nat} {df:List Nat} {q r:Rt FH} (e:Z1J G rd t0 t1 t8 t9 h c df=some q) (hq:q.e = .normal) (k:G (Z3Z rd) q.vs q.h q.c q.df=some r):G (Z3Z rd) [t0,t1,t8,t9] h c df=some r:=Z0J ((Z4y G rd t0 t1 t8 t9 h c df).trans e) hq k
theorem Z9J {rd:Option Nat} {t0 t1 t8 t9:Value} {h:FH} {c:Nat} {df:List Nat} {q:Rt FH} (e:Z1J G rd t0 t1 t8 t9 h c df=some q) (hq:q.e ≠ .normal):G (Z3Z rd) [t0,t1,t8,t9] h c df=some q:=Z0K ((Z4y G rd t0 t1 t8 t9 h c df).trans e) hq
end Go.Proofs.Ytcnndelmnobigaa
