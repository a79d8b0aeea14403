/- Parts of a proof: S0 S1 S2. Conditions: none. -/
import Derived.Test.YtemkjcpfgmbibaaM9
set_option linter.all false
set_option maxRecDepth 100000
namespace Go.Proofs.Ytemkjcpfgmbibaa
open Go Go.Ab Go.Proofs
variable {H:Type} [HeapC H]
noncomputable def f5_S (o:Orc H) (t0 t1 t2 t3:Value) (h:H) (c:Nat):Option (Rt H) :=
 (bif (t0:Value).cells.toList.all Z08 then
 (bif (t1:Value).cells.toList.all Z08 then
 (bif (t2:Value).cells.toList.all Z08 then
 (bif (t3:Value).cells.toList.all Z08 then
 (ldN (newB (newB (newB (newB h (256*c+0) (t0:Value).cells.toList) (256*c+1) (t1:Value).cells.toList) (256*c+2) (t2:Value).cells.toList) (256*c+3) (t3:Value).cells.toList) 2 (ptrTo (256*c+0))).bind fun t28 =>
 (ldN (newB (newB (newB (newB h (256*c+0) (t0:Value).cells.toList) (256*c+1) (t1:Value).cells.toList) (256*c+2) (t2:Value).cells.toList) (256*c+3) (t3:Value).cells.toList) 2 (ptrTo (256*c+1))).bind fun t29 =>
 (callF o 16 [t28,t29] (newB (newB (newB (newB h (256*c+0) (t0:Value).cells.toList) (256*c+1) (t1:Value).cells.toList) (256*c+2) (t2:Value).cells.toList) (256*c+3) (t3:Value).cells.toList) (c+1+1)).bind fun r0 =>
 (Z2f r0.1 0).bind fun t31 =>
 (Z2f r0.1 1).bind fun t32 =>
 (stN (newB r0.2.1 (256*(c+1)+6) [(.slice none 0 0),(.slice none 0 0)]) 2 (ptrTo (256*(c+1)+6)) t31).bind fun h2 =>
 (ldN h2 2 (ptrTo (256*c+0))).bind fun t34 =>
 (ldN h2 2 (ptrTo (256*c+1))).bind fun t35 =>
 (callF o 17 [t34,t35] h2 (r0.2.2+1)).bind fun r3 =>
 (Z2f r3.1 0).bind fun t37 =>
 (Z2f r3.1 1).bind fun t38 =>
 (stN (newB r3.2.1 (256*r0.2.2+6) [(.slice none 0 0),(.slice none 0 0)]) 2 (ptrTo (256*r0.2.2+6)) t37).bind fun h5 =>
 (ldN h5 2 (ptrTo (256*c+0))).bind fun t40 =>
 (callF o 18 [t40] h5 (r3.2.2+1)).bind fun r6 =>
 (Z2f r6.1 0).bind fun t42 =>
 (Z2f r6.1 1).bind fun t43 =>
 (stN (newB r6.2.1 (256*r3.2.2+5) [(.slice none 0 0),(.slice none 0 0)]) 2 (ptrTo (256*r3.2.2+5)) t42).bind fun h8 =>
 (ldN h8 2 (ptrTo (256*c+0))).bind fun t45 =>
 (callF o 19 [t45] h8 (r6.2.2+1)).bind fun r9 =>
 (Z2f r9.1 0).bind fun t47 =>
 (Z2f r9.1 1).bind fun t48 =>
 (stN (newB r9.2.1 (256*r6.2.2+5) [(.slice none 0 0),(.slice none 0 0)]) 2 (ptrTo (256*r6.2.2+5)) t47).bind fun h11 =>
 (callF o 13 [] h11 (r9.2.2+1)).bind fun r12 =>
 (Z10 .not r12.1).bind fun t50 =>
 (gd t50 false r12.2.1 r12.2.2 (some t32)).bind fun r13 =>
 (gd t50 false r13.2.1 r13.2.2 (some t38)).bind fun r14 =>
 (gd t50 false r14.2.1 r14.2.2 (Z00 P .neq 26 r13.1 r14.1)).bind fun r15 =>
 (Z0v t50 (.bool true) r15.1).bind fun t55 =>
 (gd t55 false r15.2.1 r15.2.2 (ldN r15.2.1 2 (ptrTo (256*(c+1)+6)))).bind fun r16 =>
 (gd t55 false r16.2.1 r16.2.2 (ldN r16.2.1 2 (ptrTo (256*r0.2.2+6)))).bind fun r17 =>
 (gg t55 false r17.2.1 r17.2.2 (callF o 12 [r16.1,r17.1] r17.2.1 r17.2.2)).bind fun r18 =>
 (gd t55 false r18.2.1 r18.2.2 (Z10 .not r18.1)).bind fun r19 =>
 (Z0v t55 (.bool true) r19.1).bind fun t61 =>
 (gd t61 false r19.2.1 r19.2.2 (some t43)).bind fun r20 =>
 (gd t61 false r20.2.1 r20.2.2 (some t48)).bind fun r21 =>
 (gd t61 false r21.2.1 r21.2.2 (Z00 P .neq 26 r20.1 r21.1)).bind fun r22 =>
 (Z0v t61 (.bool true) r22.1).bind fun t66 =>
 (gd t66 false r22.2.1 r22.2.2 (ldN r22.2.1 2 (ptrTo (256*r3.2.2+5)))).bind fun r23 =>
 (gd t66 false r23.2.1 r23.2.2 (ldN r23.2.1 2 (ptrTo (256*r6.2.2+5)))).bind fun r24 =>
 (gg t66 false r24.2.1 r24.2.2 (callF o 12 [r23.1,r24.1] r24.2.1 r24.2.2)).bind fun r25 =>
 (gd t66 false r25.2.1 r25.2.2 (Z10 .not r25.1)).bind fun r26 =>
 (Z0v t66 (.bool true) r26.1).bind fun t72 =>
 Z09 t72
 (some ⟨.ret,[(.bool false)],r26.2.1,(r26.2.2+1),[]⟩)
 ((ldN r26.2.1 2 (ptrTo (256*c+1))).bind fun t74 =>
 (ldN r26.2.1 2 (ptrTo (256*c+2))).bind fun t75 =>
 (callF o 16 [t74,t75] r26.2.1 (r26.2.2+1)).bind fun r27 =>
 (Z2f r27.1 0).bind fun t77 =>
 (Z2f r27.1 1).bind fun t78 =>
 (stN (newB r27.2.1 (256*r26.2.2+6) [(.slice none 0 0),(.slice none 0 0)]) 2 (ptrTo (256*r26.2.2+6)) t77).bind fun h29 =>
 (Z00 P .eql 26 t32 (.int .i64 0)).bind fun t80 =>
 (gd t80 true h29 (r27.2.2+1) (some t78)).bind fun r30 =>
 (gd t80 true r30.2.1 r30.2.2 (Z00 P .eql 26 r30.1 (.int .i64 0))).bind fun r31 =>
 (Z0v t80 r31.1 (.bool false)).bind fun t84 =>
 (Z09 t84
  ((ldN r31.2.1 2 (ptrTo (256*(c+1)+6))).bind fun t86 =>
  (ldN r31.2.1 2 (ptrTo (256*c+2))).bind fun t87 =>
  (callF o 16 [t86,t87] r31.2.1 (r31.2.2+1)).bind fun r32 =>
  (Z2f r32.1 0).bind fun t89 =>
  (Z2f r32.1 1).bind fun t90 =>
  (stN (newB r32.2.1 (256*r31.2.2+6) [(.slice none 0 0),(.slice none 0 0)]) 2 (ptrTo (256*r31.2.2+6)) t89).bind fun h34 =>
  (ldN h34 2 (ptrTo (256*c+0))).bind fun t92 =>
  (ldN h34 2 (ptrTo (256*r26.2.2+6))).bind fun t93 =>
  (callF o 16 [t92,t93] h34 (r32.2.2+1)).bind fun r35 =>
  (Z2f r35.1 0).bind fun t95 =>
  (Z2f r35.1 1).bind fun t96 =>
  (stN (newB r35.2.1 (256*r32.2.2+6) [(.slice none 0 0),(.slice none 0 0)]) 2 (ptrTo (256*r32.2.2+6)) t95).bind fun h37 =>
  (Z00 P .neq 26 t90 (.int .i64 0)).bind fun t98 =>
  (gd t98 false h37 (r35.2.2+1) (some t96)).bind fun r38 =>
  (gd t98 false r38.2.1 r38.2.2 (Z00 P .neq 26 r38.1 (.int .i64 0))).bind fun r39 =>
  (Z0v t98 (.bool true) r39.1).bind fun t102 =>
  (gd t102 false r39.2.1 r39.2.2 (ldN r39.2.1 2 (ptrTo (256*r31.2.2+6)))).bind fun r40 =>
  (gd t102 false r40.2.1 r40.2.2 (ldN r40.2.1 2 (ptrTo (256*r32.2.2+6)))).bind fun r41 =>
  (gg t102 false r41.2.1 r41.2.2 (callF o 12 [r40.1,r41.1] r41.2.1 r41.2.2)).bind fun r42 =>
  (gd t102 false r42.2.1 r42.2.2 (Z10 .not r42.1)).bind fun r43 =>
  (Z0v t102 (.bool true) r43.1).bind fun t108 =>
  Z09 t108
   (some ⟨.ret,[(.bool false)],r43.2.1,(r43.2.2+1),[]⟩)
   (some ⟨.normal,[(ptrTo (256*c+0)),(ptrTo (256*c+1)),(ptrTo (256*c+3)),(ptrTo (256*(c+1)+6)),t32,(ptrTo (256*r3.2.2+5))],r43.2.1,r43.2.2,[]⟩))
  (some ⟨.normal,[(ptrTo (256*c+0)),(ptrTo (256*c+1)),(ptrTo (256*c+3)),(ptrTo (256*(c+1)+6)),t32,(ptrTo (256*r3.2.2+5))],r31.2.1,r31.2.2,[]⟩):Option (Rt H)).bind fun r44 =>
 cond (Z0t r44.e .ret)
  ((Z07 r44.h r44.df).bind fun h64 =>
  some ⟨.ret,[r44.v 0],h64,r44.c,[]⟩)
  (cond (Z0t r44.e .normal)
   ((Z00 P .neq 26 (r44.v 4) (.int .i64 0)).bind fun t110 =>
   (gd t110 false r44.h (r44.c+1) (Z01 (r44.v 2) 0)).bind fun r45 =>
   (gd t110 false r45.2.1 r45.2.2 (ld1 r45.2.1 r45.1)).bind fun r46 =>
   (gg t110 false r46.2.1 r46.2.2 (((Z1f r46.1).bind fun v=>some (v,r46.2.1)).bind fun r=>some (r.1,r.2,r46.2.2))).bind fun r47 =>
   (gd t110 false r47.2.1 r47.2.2 (Z00 P .gtr 3 r47.1 (.int .i64 100))).bind fun r48 =>
   (Z0v t110 (.bool true) r48.1).bind fun t116 =>
   Z09 t116
    ((Z07 r48.2.1 r44.df).bind fun h49 =>
    some ⟨.ret,[(.bool true)],h49,(r48.2.2+1),[]⟩)
    ((ldN r48.2.1 1 (r44.v 2)).bind fun t118 =>
    (Z01 (r44.v 0) 0).bind fun t119 =>
    (ld1 r48.2.1 t119).bind fun t120 =>
    (Z01 (r44.v 0) 1).bind fun t121 =>
    (ld1 r48.2.1 t121).bind fun t122 =>
    (callF o 20 [t118,t120,t122] r48.2.1 (r48.2.2+1)).bind fun r50 =>
    (Z2f r50.1 0).bind fun t124 =>
    (Z2f r50.1 1).bind fun t125 =>
    (stN (newB r50.2.1 (256*r48.2.2+9) [(.slice none 0 0)]) 1 (ptrTo (256*r48.2.2+9)) t124).bind fun h52 =>
    (Z00 P .neq 26 t125 (.int .i64 0)).bind fun t127 =>
    Z09 t127
     ((Z07 h52 r44.df).bind fun h53 =>
     some ⟨.ret,[(.bool true)],h53,(r50.2.2+1+1),[]⟩)
     ((ldN h52 1 (ptrTo (256*r48.2.2+9))).bind fun t129 =>
     (Z01 (r44.v 1) 0).bind fun t130 =>
     (ld1 h52 t130).bind fun t131 =>
     (Z01 (r44.v 1) 1).bind fun t132 =>
     (ld1 h52 t132).bind fun t133 =>
     (callF o 20 [t129,t131,t133] h52 (r50.2.2+1+1)).bind fun r54 =>
     (Z2f r54.1 0).bind fun t135 =>
     (Z2f r54.1 1).bind fun t136 =>
     (stN (newB r54.2.1 (256*(r50.2.2+1)+9) [(.slice none 0 0)]) 1 (ptrTo (256*(r50.2.2+1)+9)) t135).bind fun h56 =>
     (ldN h56 1 (r44.v 2)).bind fun t137 =>
     (ldN h56 1 (ptrTo (256*(r50.2.2+1)+9))).bind fun t138 =>
     (ldN h56 2 (r44.v 3)).bind fun t139 =>
     (callF o 14 [t137,t138,t139] h56 (r54.2.2+1)).bind fun r57 =>
     (Z00 P .eql 26 r57.1 (.int .i64 0)).bind fun t141 =>
     (gd t141 true r57.2.1 r57.2.2 (ldN r57.2.1 1 (ptrTo (256*r48.2.2+9)))).bind fun r58 =>
     (gd t141 true r58.2.1 r58.2.2 (ldN r58.2.1 1 (r44.v 2))).bind fun r59 =>
     (gd t141 true r59.2.1 r59.2.2 (ldN r59.2.1 2 (r44.v 5))).bind fun r60 =>
     (gg t141 true r60.2.1 r60.2.2 (callF o 14 [r58.1,r59.1,r60.1] r60.2.1 r60.2.2)).bind fun r61 =>
     (gd t141 true r61.2.1 r61.2.2 (Z00 P .eql 26 r61.1 (.int .i64 0))).bind fun r62 =>
     (Z0v t141 r62.1 (.bool false)).bind fun t148 =>
     (Z07 r62.2.1 r44.df).bind fun h63 =>
     some ⟨.ret,[t148],h63,r62.2.2,[]⟩)))
   (none)))
 else none)
 else none)
 else none)
 else none)
theorem Znb (o:Orc H) (t0 t1 t2 t3:Value) (h:H) (c:Nat):jx P o 149 none f5_c (Z0g (List.range 4) [t0,t1,t2,t3]) h c [] (Kfn P Try.f5.results.toList)=f5_S o t0 t1 t2 t3 h c:=by kernel_rfl
theorem f5_go {t0 t1 t2 t3:Value} {h:FH} {c:Nat} {df:List Nat} {r:Rt FH} (e:f5_S G t0 t1 t2 t3 h c=some r):G (.fn 5) [t0,t1,t2,t3] h c df=some (gcR h c [] r):=Z0p (a:=f5_f) bk_5 rfl (fun args h c=>by cases args <;> rfl) rfl ((Znb G t0 t1 t2 t3 h c).trans e)
noncomputable def Z7n (o:Orc H) (l:Nat) (t51 t2 t3 t9 t10:Value) (h:H) (c:Nat):Option (Rt H) :=
 (stN (newB h (256*c+0) [(.int .i64 0),(.int .i64 0),(.int .i64 0),(.int .i64 0)]) 4 (ptrTo (256*c+0)) t51).bind fun h1 =>
 (Z2m h1 l).bind fun h2 =>
 (ldN h2 1 t2).bind fun t53 =>
 (ldN h2 1 t3).bind fun t54 =>
 (ld1 h2 t10).bind fun t55 =>
 (ldN h2 4 (ptrTo (256*c+0))).bind fun t56 =>
 (callF o 35 [t53,t54,t55,t56] h2 (c+1+1)).bind fun r3 =>
 (Z2f r3.1 0).bind fun t58 =>
 (Z2f r3.1 1).bind fun t59 =>
 (stN (newB r3.2.1 (256*(c+1)+8) [(.slice none 0 0),(.slice none 0 0)]) 2 (ptrTo (256*(c+1)+8)) t58).bind fun h5 =>
 (Z09 t59
  ((ld1 h5 t9).bind fun t61 =>
  (ldN h5 2 (ptrTo (256*(c+1)+8))).bind fun t62 =>
  (Z5d [(.slice none 0 0),(.slice none 0 0)] [(0,2,t62)]).bind fun r6 =>
  (Z67 (newB h5 (256*(r3.2.2+1)+2) r6) (256*(r3.2.2+1)+3) 2 48 t61 (.slice (some ⟨(256*(r3.2.2+1)+2),0,none⟩) 1 1)).bind fun r7 =>
  (stN r7.2 1 t9 r7.1).bind fun h9 =>
  some ⟨.normal,[],h9,(r3.2.2+1+1),[]⟩)
  (some ⟨.normal,[],h5,(r3.2.2+1),[]⟩):Option (Rt H)).bind fun r10 =>
 cond (Z0t r10.e .normal)
 ((Z0I r10.h l .ready none).bind fun h11 =>
 cond (List.isEmpty (r10.df:List Nat)) (some ⟨.ret,[.bool true],h11,r10.c,[]⟩) none)
 (none)
theorem Zbd (o:Orc H) (l:Nat) (t51 t2 t3 t9 t10:Value) (h:H) (c:Nat):jx P o 67 (some l) Z3k (Z0g ([51]++[2,3,9,10]) [t51,t2,t3,t9,t10]) h c [] (ZlO P o 67 l Z3i)=Z7n o l t51 t2 t3 t9 t10 h c:=by kernel_rfl
noncomputable def Z7o (o:Orc H) (rd:Option Nat) (t2 t3 t9 t46 t47:Value) (h:H) (c:Nat) (df:List Nat):Option (Rt H) :=
 (Z00 P .lss 3 t47 t46).bind fun t48 =>
 Z09 t48
 ((stN (newB h (256*(c+1)+1) [(.int .i64 0)]) 1 (ptrTo (256*(c+1)+1)) t47).bind fun h1 =>
 (callF o 34 [] h1 (c+1+1+1)).bind fun r2 =>
 (Z4N o 67 rd [2,3,9,10] [] #[51] Z3k Z3i r2.1 [t2,t3,t9,(ptrTo (256*(c+1)+1))] r2.2.1 r2.2.2 df).bind fun q3 =>
 cond (Z0t q3.1 .normal)
  ((Z00 P .add 3 t47 (.int .i64 1)).bind fun t65 =>
  some ⟨.normal,[t2,t3,t9,t46,t65],q3.2.1,(q3.2.2.1+1),q3.2.2.2⟩)
  (none))
 (some ⟨(.exit 0),[t2,t3,t9,t46,t47],h,(c+1),df⟩)
theorem Zbe (o:Orc H) (rd:Option Nat) (t2 t3 t9 t46 t47:Value) (h:H) (c:Nat) (df:List Nat):jx P o 67 rd Z3j (Z0g [2,3,9,46,47] [t2,t3,t9,t46,t47]) h c df (Klp [2,3,9,46,47])=Z7o o rd t2 t3 t9 t46 t47 h c df:=by kernel_rfl
noncomputable def ZnC (o:Orc H) (t0 t1:Value) (h:H) (c:Nat):Option (Rt H) :=
 (bif (t0:Value).cells.toList.all Z08 then
 (bif (t1:Value).cells.toList.all Z08 then
 (ldN (newB (newB h (256*c+0) (t0:Value).cells.toList) (256*c+1) (t1:Value).cells.toList) 1 (ptrTo (256*c+0))).bind fun t14 =>
 (ldN (newB (newB h (256*c+0) (t0:Value).cells.toList) (256*c+1) (t1:Value).cells.toList) 1 (ptrTo (256*c+1))).bind fun t15 =>
 (Z5d [(.slice none 0 0),(.slice none 0 0)] [(0,1,t14),(1,1,t15)]).bind fun r0 =>
 (callF o 31 [(.slice (some ⟨(256*(c+1)+2),0,none⟩) 2 2)] (newB (newB (newB h (256*c+0) (t0:Value).cells.toList) (256*c+1) (t1:Value).cells.toList) (256*(c+1)+2) r0) (c+1+1)).bind fun r1 =>
 (Z00 P .neq 26 r1.1 (.int .i64 0)).bind fun t19 =>
 Z09 t19
 (some ⟨.ret,[.tuple #[(.slice none 0 0),r1.1]],r1.2.1,(r1.2.2+1+1),[]⟩)
 ((ldN r1.2.1 1 (ptrTo (256*c+0))).bind fun t22 =>
 (callF o 32 [t22] r1.2.1 (r1.2.2+1+1)).bind fun r2 =>
 (Z2f r2.1 0).bind fun t24 =>
 (Z2f r2.1 1).bind fun t25 =>
 (Z1f t24).bind fun t27 =>
 (Z00 P .eql 3 t27 (.int .i64 0)).bind fun t28 =>
 (gd t28 false r2.2.1 (r2.2.2+1) (some t24)).bind fun r3 =>
 (gg t28 false r3.2.1 r3.2.2 (callF o 33 [r3.1] r3.2.1 r3.2.2)).bind fun r4 =>
 (gd t28 false r4.2.1 r4.2.2 (Z00 P .gtr 3 r4.1 (.int .i64 0))).bind fun r5 =>
 (Z0v t28 (.bool true) r5.1).bind fun t33 =>
 Z09 t33
  (some ⟨.ret,[.tuple #[(.slice none 0 0),(.int .i64 1)]],r5.2.1,(r5.2.2+1),[]⟩)
  ((Z1f t24).bind fun t35 =>
  (Z00 P .gtr 3 t35 (.int .i64 200)).bind fun t36 =>
  Z09 t36
   (some ⟨.ret,[.tuple #[(.slice none 0 0),(.int .i64 2)]],r5.2.1,(r5.2.2+1+1),[]⟩)
   ((Z01 (ptrTo (256*c+1)) 0).bind fun t37 =>
   (ld1 r5.2.1 t37).bind fun t38 =>
   (Z1f t38).bind fun t39 =>
   (Z01 (ptrTo (256*c+0)) 0).bind fun t40 =>
   (ld1 r5.2.1 t40).bind fun t41 =>
   (Z1f t41).bind fun t42 =>
   (Z00 P .neq 3 t39 t42).bind fun t43 =>
   Z09 t43
    (some ⟨.ret,[.tuple #[(.slice none 0 0),(.int .i64 0)]],r5.2.1,(r5.2.2+1+1+1),[]⟩)
    ((Z01 (ptrTo (256*c+0)) 0).bind fun t44 =>
    (ld1 (newB r5.2.1 (256*(r5.2.2+1+1)+0) [(.slice none 0 0)]) t44).bind fun t45 =>
    (Z1f t45).bind fun t46 =>
    (o (Zgo none) [(ptrTo (256*c+0)),(ptrTo (256*c+1)),(ptrTo (256*(r5.2.2+1+1)+0)),t46,(.int .i64 0)] (newB r5.2.1 (256*(r5.2.2+1+1)+0) [(.slice none 0 0)]) (r5.2.2+1+1+1+1) []).bind fun r6 =>
    cond (Z0t r6.e (.exit 0))
     ((ld1 r6.h (r6.v 2)).bind fun t66 =>
     (Z07 r6.h r6.df).bind fun h7 =>
     some ⟨.ret,[.tuple #[t66,(.int .i64 0)]],h7,(r6.c+1),[]⟩)
     (none)))))
 else none)
 else none)
theorem Zlo (o:Orc H) (t0 t1:Value) (h:H) (c:Nat):jx P o 67 none f10_c (Z0g (List.range 2) [t0,t1]) h c [] (Kfn P Try.f10.results.toList)=ZnC o t0 t1 h c:=by kernel_rfl
noncomputable def Z7m (o:Orc H) (rd:Option Nat) (t2 t3 t4 t5:Value) (h:H) (c:Nat) (df:List Nat):Option (Rt H) :=
 (Z01 t2 1).bind fun t22 =>
 (ld1 h t22).bind fun t23 =>
 (Z1f t23).bind fun t24 =>
 (Z00 P .lss 3 t5 t24).bind fun t25 =>
 Z09 t25
 ((Z01 t2 1).bind fun t28 =>
 (ld1 h t28).bind fun t29 =>
 (ixS 4 t29 t5).bind fun t31 =>
 (ldN h 4 t31).bind fun t32 =>
 (Z01 t3 1).bind fun t33 =>
 (ld1 h t33).bind fun t34 =>
 (ixS 4 t34 t5).bind fun t36 =>
 (ldN h 4 t36).bind fun t37 =>
 (Z00 P .neq 67 t32 t37).bind fun t38 =>
 Z09 t38
  (some ⟨.ret,[t2,t3,(.bool false),t5],h,(c+1+1+1),df⟩)
  ((Z00 P .add 3 t5 (.int .i64 1)).bind fun t27 =>
  some ⟨.normal,[t2,t3,t4,t27],h,(c+1+1+1),df⟩))
 (some ⟨(.exit 0),[t2,t3,t4,t5],h,(c+1),df⟩)
theorem Z62 (o:Orc H) (rd:Option Nat) (t2 t3 t4 t5:Value) (h:H) (c:Nat) (df:List Nat):jx P o 39 rd Z7l (Z0g [2,3,4,5] [t2,t3,t4,t5]) h c df (Klp [2,3,4,5])=Z7m o rd t2 t3 t4 t5 h c df:=by kernel_rfl
noncomputable def ZnB (o:Orc H) (t0 t1:Value) (h:H) (c:Nat):Option (Rt H) :=
 (bif (t0:Value).cells.toList.all Z08 then
 (bif (t1:Value).cells.toList.all Z08 then
 (Z01 (ptrTo (256*c+0)) 0).bind fun t6 =>
 (ld1 (newB (newB h (256*c+0) (t0:Value).cells.toList) (256*c+1) (t1:Value).cells.toList) t6).bind fun t7 =>
 (Z01 (ptrTo (256*c+1)) 0).bind fun t8 =>
 (ld1 (newB (newB h (256*c+0) (t0:Value).cells.toList) (256*c+1) (t1:Value).cells.toList) t8).bind fun t9 =>
 (callF o 26 [t7,t9] (newB (newB h (256*c+0) (t0:Value).cells.toList) (256*c+1) (t1:Value).cells.toList) (c+1+1)).bind fun r0 =>
 (Z10 .not r0.1).bind fun t11 =>
 (gd t11 false r0.2.1 r0.2.2 (Z01 (ptrTo (256*c+0)) 1)).bind fun r1 =>
 (gd t11 false r1.2.1 r1.2.2 (ld1 r1.2.1 r1.1)).bind fun r2 =>
 (gg t11 false r2.2.1 r2.2.2 (((Z1f r2.1).bind fun v=>some (v,r2.2.1)).bind fun r=>some (r.1,r.2,r2.2.2))).bind fun r3 =>
 (gd t11 false r3.2.1 r3.2.2 (Z01 (ptrTo (256*c+1)) 1)).bind fun r4 =>
 (gd t11 false r4.2.1 r4.2.2 (ld1 r4.2.1 r4.1)).bind fun r5 =>
 (gg t11 false r5.2.1 r5.2.2 (((Z1f r5.1).bind fun v=>some (v,r5.2.1)).bind fun r=>some (r.1,r.2,r5.2.2))).bind fun r6 =>
 (gd t11 false r6.2.1 r6.2.2 (Z00 P .neq 3 r3.1 r6.1)).bind fun r7 =>
 (Z0v t11 (.bool true) r7.1).bind fun t20 =>
 Z09 t20
 (some ⟨.ret,[(.bool false)],r7.2.1,(r7.2.2+1),[]⟩)
 ((o (Za2 none) [(ptrTo (256*c+0)),(ptrTo (256*c+1)),(.bool false),(.int .i64 0)] r7.2.1 (r7.2.2+1) []).bind fun r8 =>
 cond (Z0t r8.e (.exit 0))
  ((Z07 r8.h r8.df).bind fun h10 =>
  some ⟨.ret,[(.bool true)],h10,(r8.c+1),[]⟩)
  (cond (Z0t r8.e .ret)
   ((Z07 r8.h r8.df).bind fun h9 =>
   some ⟨.ret,[r8.v 2],h9,r8.c,[]⟩)
   (none)))
 else none)
 else none)
theorem Zln (o:Orc H) (t0 t1:Value) (h:H) (c:Nat):jx P o 39 none f12_c (Z0g (List.range 2) [t0,t1]) h c [] (Kfn P Try.f12.results.toList)=ZnB o t0 t1 h c:=by kernel_rfl
theorem f12_go {t0 t1:Value} {h:FH} {c:Nat} {df:List Nat} {r:Rt FH} (e:ZnB G t0 t1 h c=some r):G (.fn 12) [t0,t1] h c df=some (gcR h c [] r):=Z0p (a:=Zlm) bk_12 rfl (fun args h c=>by cases args <;> rfl) rfl ((Zln G t0 t1 h c).trans e)

variable {H:Type} [HeapC H]
noncomputable def ZnA (o:Orc H) (h:H) (c:Nat):Option (Rt H) :=
 (Z1v [(.int .i64 0),(.int .i64 0),(.int .i64 0),(.int .i64 0),(.int .i64 0)] [(0,1,(.int .i64 (-1)))]).bind fun t13 =>
 (Z1v [(.int .i64 0),(.int .i64 0),(.int .i64 0),(.int .i64 0),(.int .i64 0)] [(0,1,(.int .i64 (-1)))]).bind fun t14 =>
 (Z1v [(.int .i64 0),(.int .i64 0),(.int .i64 0),(.int .i64 0),(.int .i64 0)] [(0,1,(.int .i64 (-1)))]).bind fun t15 =>
 (Z1v [(.int .i64 0),(.int .i64 0),(.int .i64 0),(.int .i64 0),(.int .i64 0)] [(0,1,(.int .i64 (-1)))]).bind fun t16 =>
 (Z1v [(.int .i64 0),(.int .i64 0),(.int .i64 0),(.int .i64 0),(.int .i64 0),(.int .i64 0),(.int .i64 0),(.int .i64 0),(.int .i64 0),(.int .i64 0),(.int .i64 0),(.int .i64 0),(.int .i64 0),(.int .i64 0),(.int .i64 0),(.int .i64 0),(.int .i64 0),(.int .i64 0),(.int .i64 0),(.int .i64 0)] [(0,5,t13),(5,5,t14),(10,5,t15),(15,5,t16)]).bind fun t17 =>
 (Z5d [(.int .i64 0),(.int .i64 0),(.int .i64 0),(.int .i64 0),(.int .i64 0),(.int .i64 0),(.int .i64 0),(.int .i64 0),(.int .i64 0),(.int .i64 0),(.int .i64 0),(.int .i64 0),(.int .i64 0),(.int .i64 0),(.int .i64 0),(.int .i64 0),(.int .i64 0),(.int .i64 0),(.int .i64 0),(.int .i64 0)] [(0,20,t17)]).bind fun r0 =>
 (Z1v [(.slice none 0 0)] [(0,1,(.slice (some ⟨(256*(c+1)+5),0,none⟩) 1 1))]).bind fun t19 =>
 (stN (newB (newB h (256*(c+1)+5) r0) (256*(c+1)+7) [(.slice none 0 0)]) 1 (ptrTo (256*(c+1)+7)) t19).bind fun h2 =>
 (callF o 39 [] h2 (c+1+1+1)).bind fun r3 =>
 (callF o 22 [r3.1] r3.2.1 r3.2.2).bind fun r4 =>
 (Z2f r4.1 0).bind fun t23 =>
 (Z2f r4.1 1).bind fun t24 =>
 (callF o 39 [] r4.2.1 (r4.2.2+1)).bind fun r5 =>
 (callF o 39 [] r5.2.1 r5.2.2).bind fun r6 =>
 (callF o 10 [r5.1,r6.1] r6.2.1 r6.2.2).bind fun r7 =>
 (Z2f r7.1 0).bind fun t29 =>
 (Z2f r7.1 1).bind fun t30 =>
 (ldN r7.2.1 1 (ptrTo (256*(c+1)+7))).bind fun t32 =>
 (ldN r7.2.1 1 (ptrTo (256*(c+1)+7))).bind fun t33 =>
 (callF o 10 [t32,t33] r7.2.1 (r7.2.2+1)).bind fun r8 =>
 (Z2f r8.1 0).bind fun t35 =>
 (Z2f r8.1 1).bind fun t36 =>
 (callF o 39 [] r8.2.1 (r8.2.2+1)).bind fun r9 =>
 (ldN r9.2.1 1 (ptrTo (256*(c+1)+7))).bind fun t39 =>
 (callF o 28 [r9.1,t39] r9.2.1 r9.2.2).bind fun r10 =>
 (Z2f r10.1 0).bind fun t41 =>
 (Z2f r10.1 1).bind fun t42 =>
 (Z2f r10.1 2).bind fun t43 =>
 (stN (newB r10.2.1 (256*r8.2.2+7) [(.slice none 0 0),(.slice none 0 0)]) 2 (ptrTo (256*r8.2.2+7)) t41).bind fun h12 =>
 (bif (Z14 (Z22 (ptrTo (256*(c+1)+7))) r8.2.1 r9.2.1 && true) then
 (Z5d [(.int .i64 0)] [(0,1,(.int .i64 0))]).bind fun r13 =>
 (Z1v [(.int .i64 0),(.int .i64 0),(.int .i64 0),(.int .i64 0)] [(0,1,(.int .i64 1)),(1,1,(.int .i64 2)),(2,1,(.int .i64 3)),(3,1,(.int .i64 0))]).bind fun t46 =>
 (Z5d [(.int .i64 0),(.int .i64 0),(.int .i64 0),(.int .i64 0)] [(0,4,t46)]).bind fun r14 =>
 (Z1v [(.slice none 0 0),(.slice none 0 0)] [(0,1,(.slice (some ⟨(256*r10.2.2+0),0,none⟩) 1 1)),(1,1,(.slice (some ⟨(256*r10.2.2+2),0,none⟩) 1 1))]).bind fun t48 =>
 (Z5d [(.int .i64 0)] [(0,1,(.int .i64 0))]).bind fun r15 =>
 (Z1v [(.int .i64 0),(.int .i64 0),(.int .i64 0),(.int .i64 0)] [(0,1,(.int .i64 1)),(1,1,(.int .i64 0)),(2,1,(.int .i64 2)),(3,1,(.int .i64 3))]).bind fun t50 =>
 (Z5d [(.int .i64 0),(.int .i64 0),(.int .i64 0),(.int .i64 0)] [(0,4,t50)]).bind fun r16 =>
 (Z1v [(.slice none 0 0),(.slice none 0 0)] [(0,1,(.slice (some ⟨(256*r10.2.2+4),0,none⟩) 1 1)),(1,1,(.slice (some ⟨(256*r10.2.2+6),0,none⟩) 1 1))]).bind fun t52 =>
 (callF o 16 [t48,t52] (newB (newB (newB (newB h12 (256*r10.2.2+0) r13) (256*r10.2.2+2) r14) (256*r10.2.2+4) r15) (256*r10.2.2+6) r16) (r10.2.2+1)).bind fun r17 =>
 (Z2f r17.1 0).bind fun t54 =>
 (Z2f r17.1 1).bind fun t55 =>
 (stN (newB r17.2.1 (256*r10.2.2+12) [(.slice none 0 0),(.slice none 0 0)]) 2 (ptrTo (256*r10.2.2+12)) t54).bind fun h19 =>
 (Z00 P .eql 26 t24 (.int .i64 0)).bind fun t57 =>
 (gd t57 true h19 (r17.2.2+1) (some t30)).bind fun r20 =>
 (gd t57 true r20.2.1 r20.2.2 (Z00 P .eql 26 r20.1 (.int .i64 0))).bind fun r21 =>
 (Z0v t57 r21.1 (.bool false)).bind fun t61 =>
 (gd t61 true r21.2.1 r21.2.2 (some t36)).bind fun r22 =>
 (gd t61 true r22.2.1 r22.2.2 (Z00 P .eql 26 r22.1 (.int .i64 0))).bind fun r23 =>
 (Z0v t61 r23.1 (.bool false)).bind fun t65 =>
 (gd t65 true r23.2.1 r23.2.2 (some t43)).bind fun r24 =>
 (gd t65 true r24.2.1 r24.2.2 (Z00 P .eql 26 r24.1 (.int .i64 0))).bind fun r25 =>
 (Z0v t65 r25.1 (.bool false)).bind fun t69 =>
 (gd t69 true r25.2.1 r25.2.2 (some t55)).bind fun r26 =>
 (gd t69 true r26.2.1 r26.2.2 (Z00 P .eql 26 r26.1 (.int .i64 0))).bind fun r27 =>
 (Z0v t69 r27.1 (.bool false)).bind fun t73 =>
 (gd t73 true r27.2.1 r27.2.2 (some t23)).bind fun r28 =>
 (gg t73 true r28.2.1 r28.2.2 ((Z5d [(.int .i64 0),(.int .i64 0),(.int .i64 0),(.int .i64 0),(.int .i64 0),(.int .i64 0),(.int .i64 0),(.int .i64 0),(.int .i64 0),(.int .i64 0),(.int .i64 0),(.int .i64 0),(.int .i64 0),(.int .i64 0),(.int .i64 0),(.int .i64 0),(.int .i64 0),(.int .i64 0),(.int .i64 0),(.int .i64 0)] [(0,1,(.int .i64 0)),(1,1,(.int .i64 1)),(2,1,(.int .i64 0)),(3,1,(.int .i64 2)),(4,1,(.int .i64 3)),(5,1,(.int .i64 0)),(6,1,(.int .i64 1)),(7,1,(.int .i64 0)),(8,1,(.int .i64 2)),(9,1,(.int .i64 3)),(10,1,(.int .i64 0)),(11,1,(.int .i64 0)),(12,1,(.int .i64 1)),(13,1,(.int .i64 3)),(14,1,(.int .i64 2)),(15,1,(.int .i64 0)),(16,1,(.int .i64 0)),(17,1,(.int .i64 1)),(18,1,(.int .i64 3)),(19,1,(.int .i64 2))]).bind fun cs=>some (.slice (some ⟨(256*r17.2.2+20),0,none⟩) 20 20,newB r28.2.1 (256*r17.2.2+20) cs,r28.2.2))).bind fun r29 =>
 (gg t73 true r29.2.1 r29.2.2 (callF o 26 [r28.1,r29.1] r29.2.1 r29.2.2)).bind fun r30 =>
 (Z0v t73 r30.1 (.bool false)).bind fun t78 =>
 (gd t78 true r30.2.1 r30.2.2 (some t29)).bind fun r31 =>
 (gg t78 true r31.2.1 r31.2.2 (((Z1f r31.1).bind fun v=>some (v,r31.2.1)).bind fun r=>some (r.1,r.2,r31.2.2))).bind fun r32 =>
 (gd t78 true r32.2.1 r32.2.2 (Z00 P .eql 3 r32.1 (.int .i64 8))).bind fun r33 =>
 (Z0v t78 r33.1 (.bool false)).bind fun t83 =>
 (gd t83 true r33.2.1 r33.2.2 (some t35)).bind fun r34 =>
 (gg t83 true r34.2.1 r34.2.2 (((Z1f r34.1).bind fun v=>some (v,r34.2.1)).bind fun r=>some (r.1,r.2,r34.2.2))).bind fun r35 =>
 (gd t83 true r35.2.1 r35.2.2 (Z00 P .eql 3 r35.1 (.int .i64 24))).bind fun r36 =>
 (Z0v t83 r36.1 (.bool false)).bind fun t88 =>
 (gd t88 true r36.2.1 r36.2.2 (some t42)).bind fun r37 =>
 (gd t88 true r37.2.1 r37.2.2 (Z10 .not r37.1)).bind fun r38 =>
 (Z0v t88 r38.1 (.bool false)).bind fun t92 =>
 (gd t92 true r38.2.1 r38.2.2 (Z01 (ptrTo (256*r10.2.2+12)) 1)).bind fun r39 =>
 (gd t92 true r39.2.1 r39.2.2 (ld1 r39.2.1 r39.1)).bind fun r40 =>
 (gg t92 true r40.2.1 r40.2.2 (((Z1f r40.1).bind fun v=>some (v,r40.2.1)).bind fun r=>some (r.1,r.2,r40.2.2))).bind fun r41 =>
 (gd t92 true r41.2.1 r41.2.2 (Z00 P .eql 3 r41.1 (.int .i64 1))).bind fun r42 =>
 (Z0v t92 r42.1 (.bool false)).bind fun t98 =>
 (gd t98 true r42.2.1 r42.2.2 (Z01 (ptrTo (256*r10.2.2+12)) 1)).bind fun r43 =>
 (gd t98 true r43.2.1 r43.2.2 (ld1 r43.2.1 r43.1)).bind fun r44 =>
 (gd t98 true r44.2.1 r44.2.2 (ixS 4 r44.1 (.int .i64 0))).bind fun r45 =>
 (gd t98 true r45.2.1 r45.2.2 (ldN r45.2.1 4 r45.1)).bind fun r46 =>
 (gd t98 true r46.2.1 r46.2.2 (Z1v [(.int .i64 0),(.int .i64 0),(.int .i64 0),(.int .i64 0)] [(0,1,(.int .i64 2)),(1,1,(.int .i64 1)),(2,1,(.int .i64 3)),(3,1,(.int .i64 0))])).bind fun r47 =>
 (gd t98 true r47.2.1 r47.2.2 (Z00 P .eql 67 r46.1 r47.1)).bind fun r48 =>
 (Z0v t98 r48.1 (.bool false)).bind fun t106 =>
 some ⟨.ret,[t106],r48.2.1,r48.2.2,[]⟩
 else none)
theorem Zll (o:Orc H) (h:H) (c:Nat):jx P o 107 none f13_c (Z0g (List.range 0) []) h c [] (Kfn P Try.f13.results.toList)=ZnA o h c:=by kernel_rfl
noncomputable def Zi2 (o:Orc H) (t0 t1 t2:Value) (h:H) (c:Nat):Option (Rt H) :=
 (bif (t0:Value).cells.toList.all Z08 then
 (bif (t1:Value).cells.toList.all Z08 then
 (bif (t2:Value).cells.toList.all Z08 then
 (ldN (newB (newB (newB h (256*c+0) (t0:Value).cells.toList) (256*c+1) (t1:Value).cells.toList) (256*c+2) (t2:Value).cells.toList) 1 (ptrTo (256*c+0))).bind fun t10 =>
 (ldN (newB (newB (newB h (256*c+0) (t0:Value).cells.toList) (256*c+1) (t1:Value).cells.toList) (256*c+2) (t2:Value).cells.toList) 1 (ptrTo (256*c+1))).bind fun t11 =>
 (Z5d [(.slice none 0 0),(.slice none 0 0)] [(0,1,t10),(1,1,t11)]).bind fun r0 =>
 (callF o 31 [(.slice (some ⟨(256*(c+1)+2),0,none⟩) 2 2)] (newB (newB (newB (newB h (256*c+0) (t0:Value).cells.toList) (256*c+1) (t1:Value).cells.toList) (256*c+2) (t2:Value).cells.toList) (256*(c+1)+2) r0) (c+1+1)).bind fun r1 =>
 (Z00 P .neq 26 r1.1 (.int .i64 0)).bind fun t15 =>
 Z09 t15
 (some ⟨.ret,[r1.1],r1.2.1,(r1.2.2+1+1),[]⟩)
 ((ldN r1.2.1 1 (ptrTo (256*c+0))).bind fun t18 =>
 (Z01 (ptrTo (256*c+2)) 0).bind fun t19 =>
 (ld1 r1.2.1 t19).bind fun t20 =>
 (Z01 (ptrTo (256*c+2)) 1).bind fun t21 =>
 (ld1 r1.2.1 t21).bind fun t22 =>
 (callF o 40 [t18,t20,t22] r1.2.1 (r1.2.2+1+1)).bind fun r2 =>
 (Z2f r2.1 0).bind fun t24 =>
 (Z2f r2.1 1).bind fun t25 =>
 (stN (newB r2.2.1 (256*(r1.2.2+1)+9) [(.slice none 0 0)]) 1 (ptrTo (256*(r1.2.2+1)+9)) t24).bind fun h4 =>
 (Z00 P .neq 26 t25 (.int .i64 0)).bind fun t27 =>
 (gd t27 false h4 (r2.2.2+1) (ldN h4 1 (ptrTo (256*(r1.2.2+1)+9)))).bind fun r5 =>
 (gd t27 false r5.2.1 r5.2.2 (ldN r5.2.1 1 (ptrTo (256*c+1)))).bind fun r6 =>
 (gg t27 false r6.2.1 r6.2.2 (callF o 41 [r5.1,r6.1] r6.2.1 r6.2.2)).bind fun r7 =>
 (gd t27 false r7.2.1 r7.2.2 (Z10 .not r7.1)).bind fun r8 =>
 (Z0v t27 (.bool true) r8.1).bind fun t33 =>
 Z09 t33
  (some ⟨.ret,[(.int .i64 30)],r8.2.1,(r8.2.2+1),[]⟩)
  (some ⟨.ret,[(.int .i64 0)],r8.2.1,(r8.2.2+1),[]⟩))
 else none)
 else none)
 else none)
theorem ZeQ (o:Orc H) (t0 t1 t2:Value) (h:H) (c:Nat):jx P o 34 none f14_c (Z0g (List.range 3) [t0,t1,t2]) h c [] (Kfn P Try.f14.results.toList)=Zi2 o t0 t1 t2 h c:=by kernel_rfl
theorem f14_go {t0 t1 t2:Value} {h:FH} {c:Nat} {df:List Nat} {r:Rt FH} (e:Zi2 G t0 t1 t2 h c=some r):G (.fn 14) [t0,t1,t2] h c df=some (gcR h c [] r):=Z0p (a:=Zd2) bk_14 rfl (fun args h c=>by cases args <;> rfl) rfl ((ZeQ G t0 t1 t2 h c).trans e)
noncomputable def Zi1 (o:Orc H) (t0 t1:Value) (h:H) (c:Nat):Option (Rt H) :=
 (bif (t0:Value).cells.toList.all Z08 then
 (bif (t1:Value).cells.toList.all Z08 then
 (ldN (newB (newB (newB h (256*c+0) (t0:Value).cells.toList) (256*c+1) (t1:Value).cells.toList) (256*c+2) [(.slice none 0 0),(.slice none 0 0)]) 2 (ptrTo (256*c+0))).bind fun t6 =>
 (callF o 42 [t6] (newB (newB (newB h (256*c+0) (t0:Value).cells.toList) (256*c+1) (t1:Value).cells.toList) (256*c+2) [(.slice none 0 0),(.slice none 0 0)]) (c+1+1)).bind fun r0 =>
 (Z10 .not r0.1).bind fun t8 =>
 (gd t8 false r0.2.1 r0.2.2 (ldN r0.2.1 2 (ptrTo (256*c+1)))).bind fun r1 =>
 (gg t8 false r1.2.1 r1.2.2 (callF o 42 [r1.1] r1.2.1 r1.2.2)).bind fun r2 =>
 (gd t8 false r2.2.1 r2.2.2 (Z10 .not r2.1)).bind fun r3 =>
 (Z0v t8 (.bool true) r3.1).bind fun t13 =>
 (gd t13 false r3.2.1 r3.2.2 (Z01 (ptrTo (256*c+0)) 0)).bind fun r4 =>
 (gd t13 false r4.2.1 r4.2.2 (ld1 r4.2.1 r4.1)).bind fun r5 =>
 (gg t13 false r5.2.1 r5.2.2 (((Z1f r5.1).bind fun v=>some (v,r5.2.1)).bind fun r=>some (r.1,r.2,r5.2.2))).bind fun r6 =>
 (gd t13 false r6.2.1 r6.2.2 (Z01 (ptrTo (256*c+1)) 0)).bind fun r7 =>
 (gd t13 false r7.2.1 r7.2.2 (ld1 r7.2.1 r7.1)).bind fun r8 =>
 (gg t13 false r8.2.1 r8.2.2 (((Z1f r8.1).bind fun v=>some (v,r8.2.1)).bind fun r=>some (r.1,r.2,r8.2.2))).bind fun r9 =>
 (gd t13 false r9.2.1 r9.2.2 (Z00 P .neq 3 r6.1 r9.1)).bind fun r10 =>
 (Z0v t13 (.bool true) r10.1).bind fun t22 =>
 Z09 t22
 ((Z1v [(.slice none 0 0),(.slice none 0 0)] []).bind fun t23 =>
 (stN r10.2.1 2 (ptrTo (256*c+2)) t23).bind fun h12 =>
 (ldN h12 2 (ptrTo (256*c+2))).bind fun v13 =>
 some ⟨.ret,[.tuple #[v13,(.int .i64 1)]],h12,(r10.2.2+1),[]⟩)
 ((ldN r10.2.1 2 (ptrTo (256*c+0))).bind fun t24 =>
 (ldN r10.2.1 2 (ptrTo (256*c+1))).bind fun t25 =>
 (callF o 43 [t24,t25] r10.2.1 (r10.2.2+1)).bind fun r14 =>
 (stN r14.2.1 2 (ptrTo (256*c+2)) r14.1).bind fun h16 =>
 (ldN h16 2 (ptrTo (256*c+2))).bind fun v17 =>
 some ⟨.ret,[.tuple #[v17,(.int .i64 0)]],h16,r14.2.2,[]⟩)
 else none)
 else none)
theorem ZeP (o:Orc H) (t0 t1:Value) (h:H) (c:Nat):jx P o 27 none f16_c (Z0g (List.range 2) [t0,t1]) h c [] (Kfn P Try.f16.results.toList)=Zi1 o t0 t1 h c:=by kernel_rfl
theorem f16_go {t0 t1:Value} {h:FH} {c:Nat} {df:List Nat} {r:Rt FH} (e:Zi1 G t0 t1 h c=some r):G (.fn 16) [t0,t1] h c df=some r:=Z0p (a:=Zd1) bk_16 rfl (fun args h c=>by cases args <;> rfl) rfl ((ZeP G t0 t1 h c).trans e)
noncomputable def Z7k (o:Orc H) (rd:Option Nat) (t2 t3 t4 t6 t7 t8:Value) (h:H) (c:Nat) (df:List Nat):Option (Rt H) :=
 (Z00 P .lss 3 t8 t6).bind fun t30 =>
 Z09 t30
 ((Z01 t7 0).bind fun t33 =>
 (ld1 h t33).bind fun t34 =>
 (Z01 t2 0).bind fun t35 =>
 (ld1 h t35).bind fun t36 =>
 (Z01 t3 0).bind fun t37 =>
 (ld1 h t37).bind fun t38 =>
 (ixS 1 t38 t8).bind fun t40 =>
 (ld1 h t40).bind fun t41 =>
 (ixS 1 t36 t41).bind fun t42 =>
 (ld1 h t42).bind fun t43 =>
 (Z5d [(.int .i64 0)] [(0,1,t43)]).bind fun r0 =>
 (Z67 (newB h (256*(c+1)+11) r0) (256*(c+1)+12) 1 8 t34 (.slice (some ⟨(256*(c+1)+11),0,none⟩) 1 1)).bind fun r1 =>
 (Z01 t7 0).bind fun t46 =>
 (stN r1.2 1 t46 r1.1).bind fun h3 =>
 (Z01 t7 1).bind fun t47 =>
 (ld1 h3 t47).bind fun t48 =>
 (Z01 t2 1).bind fun t49 =>
 (ld1 h3 t49).bind fun t50 =>
 (Z01 t3 0).bind fun t51 =>
 (ld1 h3 t51).bind fun t52 =>
 (ixS 1 t52 t8).bind fun t54 =>
 (ld1 h3 t54).bind fun t55 =>
 (ixS 4 t50 t55).bind fun t56 =>
 (ldN h3 4 t56).bind fun t57 =>
 (Z01 t3 1).bind fun t58 =>
 (ld1 h3 t58).bind fun t59 =>
 (ixS 4 t59 t8).bind fun t61 =>
 (ldN h3 4 t61).bind fun t62 =>
 (callF o 45 [t57,t62] h3 (c+1+1+1)).bind fun r4 =>
 (Z5d [(.int .i64 0),(.int .i64 0),(.int .i64 0),(.int .i64 0)] [(0,4,r4.1)]).bind fun r5 =>
 (Z67 (newB r4.2.1 (256*(c+1+1)+17) r5) (256*(c+1+1)+18) 4 32 t48 (.slice (some ⟨(256*(c+1+1)+17),0,none⟩) 1 1)).bind fun r6 =>
 (Z01 t7 1).bind fun t66 =>
 (stN r6.2 1 t66 r6.1).bind fun h8 =>
 (bif (Z14 (Z22 t47) h3 r4.2.1 && true) then
 (Z00 P .add 3 t8 (.int .i64 1)).bind fun t32 =>
 some ⟨.normal,[t2,t3,t4,t6,t7,t32],h8,(r4.2.2+1),df⟩
 else none))
 (some ⟨(.exit 0),[t2,t3,t4,t6,t7,t8],h,(c+1),df⟩)
theorem Z61 (o:Orc H) (rd:Option Nat) (t2 t3 t4 t6 t7 t8:Value) (h:H) (c:Nat) (df:List Nat):jx P o 68 rd Z7j (Z0g [2,3,4,6,7,8] [t2,t3,t4,t6,t7,t8]) h c df (Klp [2,3,4,6,7,8])=Z7k o rd t2 t3 t4 t6 t7 t8 h c df:=by kernel_rfl
noncomputable def Znz (o:Orc H) (t0 t1:Value) (h:H) (c:Nat):Option (Rt H) :=
 (bif (t0:Value).cells.toList.all Z08 then
 (bif (t1:Value).cells.toList.all Z08 then
 (Z01 (ptrTo (256*c+0)) 0).bind fun t9 =>
 (ld1 (newB (newB (newB h (256*c+0) (t0:Value).cells.toList) (256*c+1) (t1:Value).cells.toList) (256*c+2) [(.slice none 0 0),(.slice none 0 0)]) t9).bind fun t10 =>
 (Z1f t10).bind fun t11 =>
 (Z00 P .gtr 3 t11 (.int .i64 1000)).bind fun t13 =>
 (gd t13 false (newB (newB (newB h (256*c+0) (t0:Value).cells.toList) (256*c+1) (t1:Value).cells.toList) (256*c+2) [(.slice none 0 0),(.slice none 0 0)]) (c+1+1+1) (ldN (newB (newB (newB h (256*c+0) (t0:Value).cells.toList) (256*c+1) (t1:Value).cells.toList) (256*c+2) [(.slice none 0 0),(.slice none 0 0)]) 2 (ptrTo (256*c+0)))).bind fun r0 =>
 (gd t13 false r0.2.1 r0.2.2 (some t11)).bind fun r1 =>
 (gg t13 false r1.2.1 r1.2.2 (callF o 44 [r0.1,r1.1] r1.2.1 r1.2.2)).bind fun r2 =>
 (gd t13 false r2.2.1 r2.2.2 (Z10 .not r2.1)).bind fun r3 =>
 (Z0v t13 (.bool true) r3.1).bind fun t19 =>
 (gd t19 false r3.2.1 r3.2.2 (ldN r3.2.1 2 (ptrTo (256*c+1)))).bind fun r4 =>
 (gd t19 false r4.2.1 r4.2.2 (some t11)).bind fun r5 =>
 (gg t19 false r5.2.1 r5.2.2 (callF o 44 [r4.1,r5.1] r5.2.1 r5.2.2)).bind fun r6 =>
 (gd t19 false r6.2.1 r6.2.2 (Z10 .not r6.1)).bind fun r7 =>
 (Z0v t19 (.bool true) r7.1).bind fun t25 =>
 Z09 t25
 ((Z1v [(.slice none 0 0),(.slice none 0 0)] []).bind fun t26 =>
 (stN r7.2.1 2 (ptrTo (256*c+2)) t26).bind fun h9 =>
 (ldN h9 2 (ptrTo (256*c+2))).bind fun v10 =>
 some ⟨.ret,[.tuple #[v10,(.int .i64 1)]],h9,(r7.2.2+1),[]⟩)
 ((Z1v [(.slice none 0 0),(.slice none 0 0)] []).bind fun t27 =>
 (stN (newB r7.2.1 (256*r7.2.2+1) [(.slice none 0 0),(.slice none 0 0)]) 2 (ptrTo (256*r7.2.2+1)) t27).bind fun h12 =>
 (o (Za1 none) [(ptrTo (256*c+0)),(ptrTo (256*c+1)),(ptrTo (256*c+2)),t11,(ptrTo (256*r7.2.2+1)),(.int .i64 0)] h12 (r7.2.2+1+1) []).bind fun r13 =>
 cond (Z0t r13.e (.exit 0))
  ((ldN r13.h 2 (r13.v 4)).bind fun t67 =>
  (stN r13.h 2 (r13.v 2) t67).bind fun h15 =>
  (Z07 h15 r13.df).bind fun h16 =>
  (ldN h16 2 (r13.v 2)).bind fun v17 =>
  some ⟨.ret,[.tuple #[v17,(.int .i64 0)]],h16,(r13.c+1),[]⟩)
  (none))
 else none)
 else none)
theorem Zlk (o:Orc H) (t0 t1:Value) (h:H) (c:Nat):jx P o 68 none f17_c (Z0g (List.range 2) [t0,t1]) h c [] (Kfn P Try.f17.results.toList)=Znz o t0 t1 h c:=by kernel_rfl
theorem f17_go {t0 t1:Value} {h:FH} {c:Nat} {df:List Nat} {r:Rt FH} (e:Znz G t0 t1 h c=some r):G (.fn 17) [t0,t1] h c df=some r:=Z0p (a:=Zlj) bk_17 rfl (fun args h c=>by cases args <;> rfl) rfl ((Zlk G t0 t1 h c).trans e)
noncomputable def Zny (o:Orc H) (t0:Value) (h:H) (c:Nat):Option (Rt H) :=
 (bif (t0:Value).cells.toList.all Z08 then
 (ldN (newB (newB h (256*c+0) (t0:Value).cells.toList) (256*c+1) [(.slice none 0 0),(.slice none 0 0)]) 2 (ptrTo (256*c+0))).bind fun t4 =>
 (callF o 42 [t4] (newB (newB h (256*c+0) (t0:Value).cells.toList) (256*c+1) [(.slice none 0 0),(.slice none 0 0)]) (c+1+1)).bind fun r0 =>
 (Z10 .not r0.1).bind fun t6 =>
 Z09 t6
 ((Z1v [(.slice none 0 0),(.slice none 0 0)] []).bind fun t7 =>
 (stN r0.2.1 2 (ptrTo (256*c+1)) t7).bind fun h2 =>
 (ldN h2 2 (ptrTo (256*c+1))).bind fun v3 =>
 some ⟨.ret,[.tuple #[v3,(.int .i64 1)]],h2,(r0.2.2+1),[]⟩)
 ((ldN r0.2.1 2 (ptrTo (256*c+0))).bind fun t8 =>
 (callF o 46 [t8] r0.2.1 (r0.2.2+1)).bind fun r4 =>
 (stN r4.2.1 2 (ptrTo (256*c+1)) r4.1).bind fun h6 =>
 (ldN h6 2 (ptrTo (256*c+1))).bind fun v7 =>
 some ⟨.ret,[.tuple #[v7,(.int .i64 0)]],h6,r4.2.2,[]⟩)
 else none)
theorem Zli (o:Orc H) (t0:Value) (h:H) (c:Nat):jx P o 10 none f18_c (Z0g (List.range 1) [t0]) h c [] (Kfn P Try.f18.results.toList)=Zny o t0 h c:=by kernel_rfl
theorem f18_go {t0:Value} {h:FH} {c:Nat} {df:List Nat} {r:Rt FH} (e:Zny G t0 h c=some r):G (.fn 18) [t0] h c df=some r:=Z0p (a:=Zlh) bk_18 rfl (fun args h c=>by cases args <;> rfl) rfl ((Zli G t0 h c).trans e)
noncomputable def Z7i (o:Orc H) (rd:Option Nat) (t1 t2 t4 t5 t6:Value) (h:H) (c:Nat) (df:List Nat):Option (Rt H) :=
 (Z00 P .lss 3 t6 t4).bind fun t26 =>
 Z09 t26
 ((Z01 t5 0).bind fun t29 =>
 (ld1 h t29).bind fun t30 =>
 (Z01 t1 0).bind fun t31 =>
 (ld1 h t31).bind fun t32 =>
 (ixS 1 t32 t6).bind fun t34 =>
 (ld1 h t34).bind fun t35 =>
 (ixS 1 t30 t35).bind fun t37 =>
 (stN h 1 t37 t6).bind fun h1 =>
 (Z01 t5 1).bind fun t38 =>
 (ld1 h1 t38).bind fun t39 =>
 (Z01 t1 0).bind fun t40 =>
 (ld1 h1 t40).bind fun t41 =>
 (ixS 1 t41 t6).bind fun t43 =>
 (ld1 h1 t43).bind fun t44 =>
 (Z01 t1 1).bind fun t45 =>
 (ld1 h1 t45).bind fun t46 =>
 (ixS 4 t46 t6).bind fun t48 =>
 (ldN h1 4 t48).bind fun t49 =>
 (callF o 47 [t49] h1 (c+1+1+1)).bind fun r2 =>
 (ixS 4 t39 t44).bind fun t51 =>
 (stN r2.2.1 4 t51 r2.1).bind fun h4 =>
 (bif (Z14 (Z22 t38) h1 r2.2.1 && (Z14 (Z22 t40) h1 r2.2.1 && (Z14 (Z22 t43) h1 r2.2.1 && true))) then
 (Z00 P .add 3 t6 (.int .i64 1)).bind fun t28 =>
 some ⟨.normal,[t1,t2,t4,t5,t28],h4,(r2.2.2+1),df⟩
 else none))
 (some ⟨(.exit 0),[t1,t2,t4,t5,t6],h,(c+1),df⟩)
theorem Z60 (o:Orc H) (rd:Option Nat) (t1 t2 t4 t5 t6:Value) (h:H) (c:Nat) (df:List Nat):jx P o 53 rd Z7h (Z0g [1,2,4,5,6] [t1,t2,t4,t5,t6]) h c df (Klp [1,2,4,5,6])=Z7i o rd t1 t2 t4 t5 t6 h c df:=by kernel_rfl
noncomputable def Znx (o:Orc H) (t0:Value) (h:H) (c:Nat):Option (Rt H) :=
 (bif (t0:Value).cells.toList.all Z08 then
 (Z01 (ptrTo (256*c+0)) 0).bind fun t7 =>
 (ld1 (newB (newB h (256*c+0) (t0:Value).cells.toList) (256*c+1) [(.slice none 0 0),(.slice none 0 0)]) t7).bind fun t8 =>
 (Z1f t8).bind fun t9 =>
 (Z00 P .gtr 3 t9 (.int .i64 1000)).bind fun t11 =>
 (gd t11 false (newB (newB h (256*c+0) (t0:Value).cells.toList) (256*c+1) [(.slice none 0 0),(.slice none 0 0)]) (c+1+1+1) (ldN (newB (newB h (256*c+0) (t0:Value).cells.toList) (256*c+1) [(.slice none 0 0),(.slice none 0 0)]) 2 (ptrTo (256*c+0)))).bind fun r0 =>
 (gd t11 false r0.2.1 r0.2.2 (some t9)).bind fun r1 =>
 (gg t11 false r1.2.1 r1.2.2 (callF o 44 [r0.1,r1.1] r1.2.1 r1.2.2)).bind fun r2 =>
 (gd t11 false r2.2.1 r2.2.2 (Z10 .not r2.1)).bind fun r3 =>
 (Z0v t11 (.bool true) r3.1).bind fun t17 =>
 Z09 t17
 ((Z1v [(.slice none 0 0),(.slice none 0 0)] []).bind fun t18 =>
 (stN r3.2.1 2 (ptrTo (256*c+1)) t18).bind fun h5 =>
 (ldN h5 2 (ptrTo (256*c+1))).bind fun v6 =>
 some ⟨.ret,[.tuple #[v6,(.int .i64 1)]],h5,(r3.2.2+1),[]⟩)
 ((mkS 1 8 [(.int .i64 0)] t9 t9).bind fun r7 =>
 (mkS 4 32 [(.int .i64 0),(.int .i64 0),(.int .i64 0),(.int .i64 0)] t9 t9).bind fun r8 =>
 (Z1v [(.slice none 0 0),(.slice none 0 0)] [(0,1,(.slice (some ⟨(256*r3.2.2+1),0,none⟩) r7.2.1 r7.2.2)),(1,1,(.slice (some ⟨(256*r3.2.2+3),0,none⟩) r8.2.1 r8.2.2))]).bind fun t23 =>
 (stN (newB (newB (newB r3.2.1 (256*r3.2.2+1) r7.1) (256*r3.2.2+3) r8.1) (256*r3.2.2+5) [(.slice none 0 0),(.slice none 0 0)]) 2 (ptrTo (256*r3.2.2+5)) t23).bind fun h10 =>
 (o (Za0 none) [(ptrTo (256*c+0)),(ptrTo (256*c+1)),t9,(ptrTo (256*r3.2.2+5)),(.int .i64 0)] h10 (r3.2.2+1+1) []).bind fun r11 =>
 cond (Z0t r11.e (.exit 0))
  ((ldN r11.h 2 (r11.v 3)).bind fun t52 =>
  (stN r11.h 2 (r11.v 1) t52).bind fun h13 =>
  (Z07 h13 r11.df).bind fun h14 =>
  (ldN h14 2 (r11.v 1)).bind fun v15 =>
  some ⟨.ret,[.tuple #[v15,(.int .i64 0)]],h14,(r11.c+1),[]⟩)
  (none))
 else none)
theorem Zlg (o:Orc H) (t0:Value) (h:H) (c:Nat):jx P o 53 none f19_c (Z0g (List.range 1) [t0]) h c [] (Kfn P Try.f19.results.toList)=Znx o t0 h c:=by kernel_rfl
theorem f19_go {t0:Value} {h:FH} {c:Nat} {df:List Nat} {r:Rt FH} (e:Znx G t0 h c=some r):G (.fn 19) [t0] h c df=some r:=Z0p (a:=Zlf) bk_19 rfl (fun args h c=>by cases args <;> rfl) rfl ((Zlg G t0 h c).trans e)

variable {H:Type} [HeapC H]
noncomputable def Z7g (o:Orc H) (rd:Option Nat) (t1 t2 t3 t6 t8 t9 t10:Value) (h:H) (c:Nat) (df:List Nat):Option (Rt H) :=
 (Z00 P .lss 3 t10 t8).bind fun t34 =>
 Z09 t34
 ((ixS 1 t1 t10).bind fun t40 =>
 (ld1 h t40).bind fun t41 =>
 (ixS 1 t9 t41).bind fun t43 =>
 (stN h 1 t43 t10).bind fun h1 =>
 (Z00 P .add 3 t10 (.int .i64 1)).bind fun t36 =>
 some ⟨.normal,[t1,t2,t3,t6,t8,t9,t36],h1,(c+1+1+1),df⟩)
 (some ⟨(.exit 0),[t1,t2,t3,t6,t8,t9,t10],h,(c+1),df⟩)
theorem Z5Z (o:Orc H) (rd:Option Nat) (t1 t2 t3 t6 t8 t9 t10:Value) (h:H) (c:Nat) (df:List Nat):jx P o 103 rd Z7d (Z0g [1,2,3,6,8,9,10] [t1,t2,t3,t6,t8,t9,t10]) h c df (Klp [1,2,3,6,8,9,10])=Z7g o rd t1 t2 t3 t6 t8 t9 t10 h c df:=by kernel_rfl
noncomputable def Z7e (o:Orc H) (rd:Option Nat) (t1 t2 t3 t6 t8 t9 t11 t12 t13 t14:Value) (h:H) (c:Nat) (df:List Nat):Option (Rt H) :=
 (Z00 P .lss 3 t14 (.int .i64 4)).bind fun t50 =>
 Z09 t50
 (((Z01 t3 0).bind fun t53 =>
  (ld1 h t53).bind fun t54 =>
  (ixS 1 t1 t12).bind fun t57 =>
  (ld1 h t57).bind fun t58 =>
  (ixS 4 t2 t12).bind fun t62 =>
  (ixA 4 1 t62 t14).bind fun t63 =>
  (ld1 h t63).bind fun t64 =>
  (ixS 20 t54 t58).bind fun t65 =>
  (ixA 4 5 t65 t64).bind fun t66 =>
  (ldN h 5 t66).bind fun t67 =>
  (stN (newB h (256*(c+1)+15) [(.int .i64 0),(.int .i64 0),(.int .i64 0),(.int .i64 0),(.int .i64 0)]) 5 (ptrTo (256*(c+1)+15)) t67).bind fun h1 =>
  (Z01 (ptrTo (256*(c+1)+15)) 0).bind fun t68 =>
  (ld1 h1 t68).bind fun t69 =>
  (Z00 P .lss 3 t69 (.int .i64 0)).bind fun t70 =>
  Z09 t70
   ((ixA 4 5 t13 t14).bind fun t72 =>
   (Z01 t72 0).bind fun t73 =>
   (stN h1 1 t73 (.int .i64 (-1))).bind fun h3 =>
   some ⟨.normal,[t1,t2,t3,t6,t8,t9,t11,t12,t13,t14],h3,(c+1+1+1+1),df⟩)
   ((Z01 (ptrTo (256*(c+1)+15)) 0).bind fun t75 =>
   (ld1 h1 t75).bind fun t76 =>
   (ixS 1 t9 t76).bind fun t77 =>
   (ld1 h1 t77).bind fun t78 =>
   (ixS 4 t2 t78).bind fun t83 =>
   (ldN h1 4 t83).bind fun t84 =>
   (callF o 47 [t84] h1 (c+1+1+1+1+1)).bind fun r4 =>
   (Z01 (ptrTo (256*(c+1)+15)) 1).bind fun t86 =>
   (ldN r4.2.1 4 t86).bind fun t87 =>
   (ixS 4 t2 t12).bind fun t90 =>
   (ldN r4.2.1 4 t90).bind fun t91 =>
   (callF o 45 [t87,t91] r4.2.1 r4.2.2).bind fun r5 =>
   (callF o 45 [r4.1,r5.1] r5.2.1 r5.2.2).bind fun r6 =>
   (Z1v [(.int .i64 0),(.int .i64 0),(.int .i64 0),(.int .i64 0),(.int .i64 0)] [(0,1,t78),(1,4,r6.1)]).bind fun t94 =>
   (ixA 4 5 t13 t14).bind fun t95 =>
   (stN r6.2.1 5 t95 t94).bind fun h8 =>
   (bif (Z14 (Z22 t86) h1 r4.2.1 && (Z14 (Z22 t90) h1 r4.2.1 && true)) then
   some ⟨.normal,[t1,t2,t3,t6,t8,t9,t11,t12,t13,t14],h8,r6.2.2,df⟩
   else none)):Option (Rt H)).bind fun r9 =>
 cond (Z0t r9.e .normal)
  ((Z00 P .add 3 (r9.v 9) (.int .i64 1)).bind fun t52 =>
  some ⟨.normal,[r9.v 0,r9.v 1,r9.v 2,r9.v 3,r9.v 4,r9.v 5,r9.v 6,r9.v 7,r9.v 8,t52],r9.h,(r9.c+1),r9.df⟩)
  (none))
 (some ⟨(.exit 4),[t1,t2,t3,t6,t8,t9,t11,t12,t13,t14],h,(c+1),df⟩)
theorem Z5X (o:Orc H) (rd:Option Nat) (t1 t2 t3 t6 t8 t9 t11 t12 t13 t14:Value) (h:H) (c:Nat) (df:List Nat):jx P o 103 rd Z7b (Z0g [1,2,3,6,8,9,11,12,13,14] [t1,t2,t3,t6,t8,t9,t11,t12,t13,t14]) h c df (Klp [1,2,3,6,8,9,11,12,13,14])=Z7e o rd t1 t2 t3 t6 t8 t9 t11 t12 t13 t14 h c df:=by kernel_rfl
noncomputable def Z7f (o:Orc H) (rd:Option Nat) (t1 t2 t3 t6 t8 t9 t11 t12:Value) (h:H) (c:Nat) (df:List Nat):Option (Rt H) :=
 (Z00 P .lss 3 t12 t8).bind fun t46 =>
 Z09 t46
 ((o (Z9X rd) [t1,t2,t3,t6,t8,t9,t11,t12,(ptrTo (256*(c+1)+0)),(.int .i64 0)] (newB h (256*(c+1)+0) [(.int .i64 0),(.int .i64 0),(.int .i64 0),(.int .i64 0),(.int .i64 0),(.int .i64 0),(.int .i64 0),(.int .i64 0),(.int .i64 0),(.int .i64 0),(.int .i64 0),(.int .i64 0),(.int .i64 0),(.int .i64 0),(.int .i64 0),(.int .i64 0),(.int .i64 0),(.int .i64 0),(.int .i64 0),(.int .i64 0)]) (c+1+1+1) df).bind fun r0 =>
 cond (Z0t r0.e (.exit 4))
  ((Z01 (r0.v 6) 0).bind fun t96 =>
  (ld1 r0.h t96).bind fun t97 =>
  (ldN r0.h 20 (r0.v 8)).bind fun t98 =>
  (Z5d [(.int .i64 0),(.int .i64 0),(.int .i64 0),(.int .i64 0),(.int .i64 0),(.int .i64 0),(.int .i64 0),(.int .i64 0),(.int .i64 0),(.int .i64 0),(.int .i64 0),(.int .i64 0),(.int .i64 0),(.int .i64 0),(.int .i64 0),(.int .i64 0),(.int .i64 0),(.int .i64 0),(.int .i64 0),(.int .i64 0)] [(0,20,t98)]).bind fun r1 =>
  (Z67 (newB r0.h (256*r0.c+3) r1) (256*r0.c+4) 20 160 t97 (.slice (some ⟨(256*r0.c+3),0,none⟩) 1 1)).bind fun r2 =>
  (Z01 (r0.v 6) 0).bind fun t101 =>
  (stN r2.2 1 t101 r2.1).bind fun h4 =>
  (Z00 P .add 3 (r0.v 7) (.int .i64 1)).bind fun t48 =>
  some ⟨.normal,[r0.v 0,r0.v 1,r0.v 2,r0.v 3,r0.v 4,r0.v 5,r0.v 6,t48],h4,(r0.c+1+1),r0.df⟩)
  (none))
 (some ⟨(.exit 2),[t1,t2,t3,t6,t8,t9,t11,t12],h,(c+1),df⟩)
theorem Z5Y (o:Orc H) (rd:Option Nat) (t1 t2 t3 t6 t8 t9 t11 t12:Value) (h:H) (c:Nat) (df:List Nat):jx P o 103 rd Z7c (Z0g [1,2,3,6,8,9,11,12] [t1,t2,t3,t6,t8,t9,t11,t12]) h c df (Klp [1,2,3,6,8,9,11,12])=Z7f o rd t1 t2 t3 t6 t8 t9 t11 t12 h c df:=by kernel_rfl
noncomputable def Znw (o:Orc H) (t0 t1 t2:Value) (h:H) (c:Nat):Option (Rt H) :=
 (bif (t0:Value).cells.toList.all Z08 then
 (ldN (newB (newB h (256*c+0) (t0:Value).cells.toList) (256*c+1) [(.slice none 0 0)]) 1 (ptrTo (256*c+0))).bind fun t17 =>
 (callF o 23 [t17] (newB (newB h (256*c+0) (t0:Value).cells.toList) (256*c+1) [(.slice none 0 0)]) (c+1+1)).bind fun r0 =>
 (Z00 P .neq 26 r0.1 (.int .i64 0)).bind fun t19 =>
 Z09 t19
 ((Z1v [(.slice none 0 0)] []).bind fun t20 =>
 (stN r0.2.1 1 (ptrTo (256*c+1)) t20).bind fun h2 =>
 (ldN h2 1 (ptrTo (256*c+1))).bind fun v3 =>
 some ⟨.ret,[.tuple #[v3,(.int .i64 7)]],h2,(r0.2.2+1),[]⟩)
 ((Z01 (ptrTo (256*c+0)) 0).bind fun t21 =>
 (ld1 r0.2.1 t21).bind fun t22 =>
 (Z1f t22).bind fun t23 =>
 (callF o 48 [t1,t2,t23] r0.2.1 (r0.2.2+1+1)).bind fun r4 =>
 (Z10 .not r4.1).bind fun t28 =>
 Z09 t28
  ((Z1v [(.slice none 0 0)] []).bind fun t29 =>
  (stN r4.2.1 1 (ptrTo (256*c+1)) t29).bind fun h6 =>
  (ldN h6 1 (ptrTo (256*c+1))).bind fun v7 =>
  some ⟨.ret,[.tuple #[v7,(.int .i64 1)]],h6,(r4.2.2+1),[]⟩)
  ((mkS 1 8 [(.int .i64 0)] t23 t23).bind fun r8 =>
  (o (Z9Z none) [t1,t2,(ptrTo (256*c+0)),(ptrTo (256*c+1)),t23,(.slice (some ⟨(256*r4.2.2+1),0,none⟩) r8.2.1 r8.2.2),(.int .i64 0)] (newB r4.2.1 (256*r4.2.2+1) r8.1) (r4.2.2+1+1) []).bind fun r9 =>
  cond (Z0t r9.e (.exit 0))
   ((o (Z9Y none) [r9.v 0,r9.v 1,r9.v 2,r9.v 3,r9.v 4,r9.v 5,(ptrTo (256*r9.c+0)),(.int .i64 0)] (newB r9.h (256*r9.c+0) [(.slice none 0 0)]) (r9.c+1+1) r9.df).bind fun r10 =>
   cond (Z0t r10.e (.exit 2))
    ((ldN r10.h 1 (r10.v 6)).bind fun t102 =>
    (stN r10.h 1 (r10.v 3) t102).bind fun h12 =>
    (Z07 h12 r10.df).bind fun h13 =>
    (ldN h13 1 (r10.v 3)).bind fun v14 =>
    some ⟨.ret,[.tuple #[v14,(.int .i64 0)]],h13,(r10.c+1),[]⟩)
    (none))
   (none)))
 else none)
theorem Zle (o:Orc H) (t0 t1 t2:Value) (h:H) (c:Nat):jx P o 103 none f20_c (Z0g (List.range 3) [t0,t1,t2]) h c [] (Kfn P Try.f20.results.toList)=Znw o t0 t1 t2 h c:=by kernel_rfl
theorem f20_go {t0 t1 t2:Value} {h:FH} {c:Nat} {df:List Nat} {r:Rt FH} (e:Znw G t0 t1 t2 h c=some r):G (.fn 20) [t0,t1,t2] h c df=some r:=Z0p (a:=Zld) bk_20 rfl (fun args h c=>by cases args <;> rfl) rfl ((Zle G t0 t1 t2 h c).trans e)
noncomputable def Z79 (o:Orc H) (rd:Option Nat) (t7 t24 t25 t26 t30 t31:Value) (h:H) (c:Nat) (df:List Nat):Option (Rt H) :=
 (Z00 P .lss 3 t31 (.int .i64 4)).bind fun t32 =>
 Z09 t32
 ((ixV 4 true 5 t30 t31).bind fun t33 =>
 (stN (newB h (256*(c+1)+1) [(.int .i64 0),(.int .i64 0),(.int .i64 0),(.int .i64 0),(.int .i64 0)]) 5 (ptrTo (256*(c+1)+1)) t33).bind fun h1 =>
 (Z01 (ptrTo (256*(c+1)+1)) 0).bind fun t35 =>
 (ld1 h1 t35).bind fun t36 =>
 (Z5d [(.int .i64 0)] [(0,1,t36)]).bind fun r2 =>
 (Z67 (newB h1 (256*(c+1+1)+3) r2) (256*(c+1+1)+4) 1 8 t7 (.slice (some ⟨(256*(c+1+1)+3),0,none⟩) 1 1)).bind fun r3 =>
 (Z01 (ptrTo (256*(c+1)+1)) 1).bind fun t40 =>
 (slA 4 1 t40 none none none).bind fun t41 =>
 (Z67 r3.2 (256*(c+1+1+1)+3) 1 8 r3.1 t41).bind fun r5 =>
 (Z00 P .add 3 t31 (.int .i64 1)).bind fun t43 =>
 some ⟨.normal,[r5.1,t24,t25,t26,t30,t43],r5.2,(c+1+1+1+1+1),df⟩)
 (some ⟨(.exit 2),[t7,t24,t25,t26,t30,t31],h,(c+1),df⟩)
theorem Zb9 (o:Orc H) (rd:Option Nat) (t7 t24 t25 t26 t30 t31:Value) (h:H) (c:Nat) (df:List Nat):jx P o 46 rd Z3g (Z0g [7,24,25,26,30,31] [t7,t24,t25,t26,t30,t31]) h c df (Klp [7,24,25,26,30,31])=Z79 o rd t7 t24 t25 t26 t30 t31 h c df:=by kernel_rfl
noncomputable def Z7a (o:Orc H) (rd:Option Nat) (t7 t24 t25 t26:Value) (h:H) (c:Nat) (df:List Nat):Option (Rt H) :=
 (Z00 P .lss 3 t26 t25).bind fun t27 =>
 Z09 t27
 ((ixS 20 t24 t26).bind fun t28 =>
 (ldN h 20 t28).bind fun t29 =>
 (stN (newB h (256*(c+1)+2) [(.int .i64 0),(.int .i64 0),(.int .i64 0),(.int .i64 0),(.int .i64 0),(.int .i64 0),(.int .i64 0),(.int .i64 0),(.int .i64 0),(.int .i64 0),(.int .i64 0),(.int .i64 0),(.int .i64 0),(.int .i64 0),(.int .i64 0),(.int .i64 0),(.int .i64 0),(.int .i64 0),(.int .i64 0),(.int .i64 0)]) 20 (ptrTo (256*(c+1)+2)) t29).bind fun h1 =>
 (ldN h1 20 (ptrTo (256*(c+1)+2))).bind fun t30 =>
 (o (Zgk rd) [t7,t24,t25,t26,t30,(.int .i64 0)] h1 (c+1+1+1) df).bind fun r2 =>
 cond (Z0t r2.e (.exit 2))
  ((Z00 P .add 3 (r2.v 3) (.int .i64 1)).bind fun t44 =>
  some ⟨.normal,[r2.v 0,r2.v 1,r2.v 2,t44],r2.h,(r2.c+1),r2.df⟩)
  (none))
 (some ⟨(.exit 0),[t7,t24,t25,t26],h,(c+1),df⟩)
theorem Zba (o:Orc H) (rd:Option Nat) (t7 t24 t25 t26:Value) (h:H) (c:Nat) (df:List Nat):jx P o 46 rd Z3h (Z0g [7,24,25,26] [t7,t24,t25,t26]) h c df (Klp [7,24,25,26])=Z7a o rd t7 t24 t25 t26 h c df:=by kernel_rfl
noncomputable def Znv (o:Orc H) (t0:Value) (h:H) (c:Nat):Option (Rt H) :=
 (bif (t0:Value).cells.toList.all Z08 then
 (ldN (newB h (256*c+0) (t0:Value).cells.toList) 1 (ptrTo (256*c+0))).bind fun t12 =>
 (Z5d [(.slice none 0 0)] [(0,1,t12)]).bind fun r0 =>
 (callF o 31 [(.slice (some ⟨(256*(c+1)+1),0,none⟩) 1 1)] (newB (newB h (256*c+0) (t0:Value).cells.toList) (256*(c+1)+1) r0) (c+1+1)).bind fun r1 =>
 (Z00 P .neq 26 r1.1 (.int .i64 0)).bind fun t16 =>
 Z09 t16
 (some ⟨.ret,[.tuple #[(.slice none 0 0),r1.1]],r1.2.1,(r1.2.2+1+1),[]⟩)
 ((ldN r1.2.1 1 (ptrTo (256*c+0))).bind fun t19 =>
 (callF o 49 [t19] r1.2.1 (r1.2.2+1+1)).bind fun r2 =>
 (Z2f r2.1 0).bind fun t21 =>
 (Z2f r2.1 1).bind fun t22 =>
 (stN (newB (newB r2.2.1 (256*(r1.2.2+1)+5) [(.slice none 0 0)]) (256*(r1.2.2+1)+6) [(.slice none 0 0),(.slice none 0 0)]) 1 (ptrTo (256*(r1.2.2+1)+5)) t21).bind fun h4 =>
 (stN h4 2 (ptrTo (256*(r1.2.2+1)+6)) t22).bind fun h6 =>
 (Z01 (ptrTo (256*(r1.2.2+1)+5)) 0).bind fun t23 =>
 (ld1 h6 t23).bind fun t24 =>
 (Z1f t24).bind fun t25 =>
 (o (Zgl none) [(.slice none 0 0),t24,t25,(.int .i64 0)] h6 (r2.2.2+1+1) []).bind fun r7 =>
 cond (Z0t r7.e (.exit 0))
  ((Z07 r7.h r7.df).bind fun h8 =>
  some ⟨.ret,[.tuple #[r7.v 0,(.int .i64 0)]],h8,(r7.c+1),[]⟩)
  (none))
 else none)
theorem Zlc (o:Orc H) (t0:Value) (h:H) (c:Nat):jx P o 46 none f22_c (Z0g (List.range 1) [t0]) h c [] (Kfn P Try.f22.results.toList)=Znv o t0 h c:=by kernel_rfl
noncomputable def Z3f (o:Orc H) (rd:Option Nat) (t1 t2 t3 t4 t5:Value) (h:H) (c:Nat) (df:List Nat):Option (Rt H) :=
 (Z00 P .lss 3 t5 (.int .i64 4)).bind fun t18 =>
 Z09 t18
 (((Z01 t1 0).bind fun t21 =>
  (ld1 h t21).bind fun t22 =>
  (ixS 20 t22 t4).bind fun t25 =>
  (ixA 4 5 t25 t5).bind fun t26 =>
  (ldN h 5 t26).bind fun t27 =>
  (stN (newB h (256*(c+1)+7) [(.int .i64 0),(.int .i64 0),(.int .i64 0),(.int .i64 0),(.int .i64 0)]) 5 (ptrTo (256*(c+1)+7)) t27).bind fun h1 =>
  (Z01 (ptrTo (256*(c+1)+7)) 0).bind fun t28 =>
  (ld1 h1 t28).bind fun t29 =>
  (Z00 P .eql 3 t29 (.int .i64 (-1))).bind fun t30 =>
  (gd t30 true h1 (c+1+1+1) (Z01 (ptrTo (256*(c+1)+7)) 1)).bind fun r2 =>
  (gd t30 true r2.2.1 r2.2.2 (ldN r2.2.1 4 r2.1)).bind fun r3 =>
  (gd t30 true r3.2.1 r3.2.2 (Z1v [(.int .i64 0),(.int .i64 0),(.int .i64 0),(.int .i64 0)] [])).bind fun r4 =>
  (gd t30 true r4.2.1 r4.2.2 (Z00 P .eql 67 r3.1 r4.1)).bind fun r5 =>
  (Z0v t30 r5.1 (.bool false)).bind fun t36 =>
  Z09 t36
   (some ⟨.normal,[t1,t2,t3,t4,t5],r5.2.1,r5.2.2,df⟩)
   ((Z01 (ptrTo (256*(c+1)+7)) 0).bind fun t37 =>
   (ld1 r5.2.1 t37).bind fun t38 =>
   (Z00 P .lss 3 t38 (.int .i64 0)).bind fun t39 =>
   (gd t39 false r5.2.1 (r5.2.2+1) (Z01 (ptrTo (256*(c+1)+7)) 0)).bind fun r6 =>
   (gd t39 false r6.2.1 r6.2.2 (ld1 r6.2.1 r6.1)).bind fun r7 =>
   (gd t39 false r7.2.1 r7.2.2 (some t3)).bind fun r8 =>
   (gd t39 false r8.2.1 r8.2.2 (Z00 P .geq 3 r7.1 r8.1)).bind fun r9 =>
   (Z0v t39 (.bool true) r9.1).bind fun t45 =>
   (gd t45 false r9.2.1 r9.2.2 (Z01 (ptrTo (256*(c+1)+7)) 1)).bind fun r10 =>
   (gd t45 false r10.2.1 r10.2.2 (ldN r10.2.1 4 r10.1)).bind fun r11 =>
   (gg t45 false r11.2.1 r11.2.2 (callF o 50 [r11.1] r11.2.1 r11.2.2)).bind fun r12 =>
   (gd t45 false r12.2.1 r12.2.2 (Z10 .not r12.1)).bind fun r13 =>
   (Z0v t45 (.bool true) r13.1).bind fun t51 =>
   (gd t51 false r13.2.1 r13.2.2 (Z01 (ptrTo (256*(c+1)+7)) 0)).bind fun r14 =>
   (gd t51 false r14.2.1 r14.2.2 (ld1 r14.2.1 r14.1)).bind fun r15 =>
   (gd t51 false r15.2.1 r15.2.2 (some t4)).bind fun r16 =>
   (gd t51 false r16.2.1 r16.2.2 (Z00 P .eql 3 r15.1 r16.1)).bind fun r17 =>
   (gd t51 false r17.2.1 r17.2.2 (some r17.1)).bind fun r18 =>
   (gd r18.1 true r18.2.1 r18.2.2 (some t5)).bind fun r19 =>
   (gd r18.1 true r19.2.1 r19.2.2 (Z01 (ptrTo (256*(c+1)+7)) 1)).bind fun r20 =>
   (gd r18.1 true r20.2.1 r20.2.2 (ixA 4 1 r20.1 r19.1)).bind fun r21 =>
   (gd r18.1 true r21.2.1 r21.2.2 (ld1 r21.2.1 r21.1)).bind fun r22 =>
   (gd r18.1 true r22.2.1 r22.2.2 (some t5)).bind fun r23 =>
   (gd r18.1 true r23.2.1 r23.2.2 (Z00 P .eql 3 r22.1 r23.1)).bind fun r24 =>
   (gg t51 false r24.2.1 r24.2.2 (Zmy r24.2.1 r24.2.2 r18.1 r24.1 (.bool false))).bind fun r25 =>
   (Z0v t51 (.bool true) r25.1).bind fun t65 =>
   Z09 t65
    (some ⟨.ret,[t1,(.int .i64 7),t3,t4,t5],r25.2.1,(r25.2.2+1),df⟩)
    ((Z01 t1 0).bind fun t66 =>
    (ld1 r25.2.1 t66).bind fun t67 =>
    (Z01 (ptrTo (256*(c+1)+7)) 0).bind fun t68 =>
    (ld1 r25.2.1 t68).bind fun t69 =>
    (Z01 (ptrTo (256*(c+1)+7)) 1).bind fun t71 =>
    (ixA 4 1 t71 t5).bind fun t72 =>
    (ld1 r25.2.1 t72).bind fun t73 =>
    (ixS 20 t67 t69).bind fun t74 =>
    (ixA 4 5 t74 t73).bind fun t75 =>
    (ldN r25.2.1 5 t75).bind fun t76 =>
    (Z01 (ptrTo (256*(c+1)+7)) 1).bind fun t78 =>
    (ldN r25.2.1 4 t78).bind fun t79 =>
    (callF o 47 [t79] r25.2.1 (r25.2.2+1)).bind fun r27 =>
    (Z1v [(.int .i64 0),(.int .i64 0),(.int .i64 0),(.int .i64 0),(.int .i64 0)] [(0,1,t4),(1,4,r27.1)]).bind fun t81 =>
    (Z00 P .neq 72 t76 t81).bind fun t82 =>
    (bif (Z14 (Z22 t66) r25.2.1 r27.2.1 && (Z14 (Z22 t68) r25.2.1 r27.2.1 && (Z14 (Z22 t72) r25.2.1 r27.2.1 && (Z14 (Z22 t75) r25.2.1 r27.2.1 && true)))) then
    Z09 t82
     (some ⟨.ret,[t1,(.int .i64 7),t3,t4,t5],r27.2.1,(r27.2.2+1),df⟩)
     (some ⟨.normal,[t1,t2,t3,t4,t5],r27.2.1,r27.2.2,df⟩)
    else none))):Option (Rt H)).bind fun r29 =>
 cond (Z0t r29.e .normal)
  ((Z00 P .add 3 (r29.v 4) (.int .i64 1)).bind fun t20 =>
  some ⟨.normal,[r29.v 0,r29.v 1,r29.v 2,r29.v 3,t20],r29.h,(r29.c+1),r29.df⟩)
  (cond (Z0t r29.e .ret)
   (some ⟨.ret,[r29.v 0,r29.v 1,r29.v 2,r29.v 3,r29.v 4],r29.h,r29.c,r29.df⟩)
   (none)))
 (some ⟨(.exit 2),[t1,t2,t3,t4,t5],h,(c+1),df⟩)
theorem Z5V (o:Orc H) (rd:Option Nat) (t1 t2 t3 t4 t5:Value) (h:H) (c:Nat) (df:List Nat):jx P o 83 rd Z77 (Z0g [1,2,3,4,5] [t1,t2,t3,t4,t5]) h c df (Klp [1,2,3,4,5])=Z3f o rd t1 t2 t3 t4 t5 h c df:=by kernel_rfl
noncomputable def Z1L (o:Orc H) (rd:Option Nat) (t1 t2 t3 t4:Value) (h:H) (c:Nat) (df:List Nat):Option (Rt H) :=
 (Z00 P .lss 3 t4 t3).bind fun t14 =>
 Z09 t14
 ((o (Z3d rd) [t1,t2,t3,t4,(.int .i64 0)] h (c+1+1) df).bind fun r0 =>
 cond (Z0t r0.e (.exit 2))
  ((Z00 P .add 3 (r0.v 3) (.int .i64 1)).bind fun t16 =>
  some ⟨.normal,[r0.v 0,r0.v 1,r0.v 2,t16],r0.h,(r0.c+1),r0.df⟩)
  (cond (Z0t r0.e .ret)
   (some ⟨.ret,[r0.v 0,r0.v 1,r0.v 2,r0.v 3],r0.h,r0.c,r0.df⟩)
   (none)))
 (some ⟨(.exit 0),[t1,t2,t3,t4],h,(c+1),df⟩)
theorem Z5W (o:Orc H) (rd:Option Nat) (t1 t2 t3 t4:Value) (h:H) (c:Nat) (df:List Nat):jx P o 83 rd Z78 (Z0g [1,2,3,4] [t1,t2,t3,t4]) h c df (Klp [1,2,3,4])=Z1L o rd t1 t2 t3 t4 h c df:=by kernel_rfl
noncomputable def Znu (o:Orc H) (t0:Value) (h:H) (c:Nat):Option (Rt H) :=
 (bif (t0:Value).cells.toList.all Z08 then
 (Z01 (ptrTo (256*c+0)) 0).bind fun t7 =>
 (ld1 (newB h (256*c+0) (t0:Value).cells.toList) t7).bind fun t8 =>
 (Z1f t8).bind fun t9 =>
 (Z00 P .gtr 3 t9 (.int .i64 1000)).bind fun t11 =>
 Z09 t11
 (some ⟨.ret,[(.int .i64 7)],(newB h (256*c+0) (t0:Value).cells.toList),(c+1+1+1+1),[]⟩)
 ((o (Z3e none) [(ptrTo (256*c+0)),(.int .i64 0),t9,(.int .i64 0)] (newB h (256*c+0) (t0:Value).cells.toList) (c+1+1+1+1) []).bind fun r0 =>
 cond (Z0t r0.e (.exit 0))
  ((Z07 r0.h r0.df).bind fun h2 =>
  some ⟨.ret,[(.int .i64 0)],h2,(r0.c+1),[]⟩)
  (cond (Z0t r0.e .ret)
   ((Z07 r0.h r0.df).bind fun h1 =>
   some ⟨.ret,[r0.v 1],h1,r0.c,[]⟩)
   (none)))
 else none)
theorem Zlb (o:Orc H) (t0:Value) (h:H) (c:Nat):jx P o 83 none f23_c (Z0g (List.range 1) [t0]) h c [] (Kfn P Try.f23.results.toList)=Znu o t0 h c:=by kernel_rfl
theorem f23_go {t0:Value} {h:FH} {c:Nat} {df:List Nat} {r:Rt FH} (e:Znu G t0 h c=some r):G (.fn 23) [t0] h c df=some (gcR h c [] r):=Z0p (a:=Zla) bk_23 rfl (fun args h c=>by cases args <;> rfl) rfl ((Zlb G t0 h c).trans e)
theorem Z9V {rd:Option Nat} {t1 t2 t3 t4 t5:Value} {h:FH} {c:Nat} {df:List Nat} {q r:Rt FH} (e:Z3f G rd t1 t2 t3 t4 t5 h c df=some q) (hq:q.e = .normal) (k:G (Z3d rd) q.vs (gcR h c df q).h (gcR h c df q).c q.df=some r):G (Z3d rd) [t1,t2,t3,t4,t5] h c df=some r:=Z0y ((Z5V G rd t1 t2 t3 t4 t5 h c df).trans e) hq k
theorem Z9T {rd:Option Nat} {t1 t2 t3 t4 t5:Value} {h:FH} {c:Nat} {df:List Nat} {q:Rt FH} (e:Z3f G rd t1 t2 t3 t4 t5 h c df=some q) (hq:q.e ≠ .normal):G (Z3d rd) [t1,t2,t3,t4,t5] h c df=some (gcR h c df q):=Z0z ((Z5V G rd t1 t2 t3 t4 t5 h c df).trans e) hq
theorem Z9W {rd:Option Nat} {t1 t2 t3 t4:Value} {h:FH} {c:Nat} {df:List Nat} {q r:Rt FH} (e:Z1L G rd t1 t2 t3 t4 h c df=some q) (hq:q.e = .normal) (k:G (Z3e rd) q.vs (gcR h c df q).h (gcR h c df q).c q.df=some r):G (Z3e rd) [t1,t2,t3,t4] h c df=some r:=Z0y ((Z5W G rd t1 t2 t3 t4 h c df).trans e) hq k
theorem Z9U {rd:Option Nat} {t1 t2 t3 t4:Value} {h:FH} {c:Nat} {df:List Nat} {q:Rt FH} (e:Z1L G rd t1 t2 t3 t4 h c df=some q) (hq:q.e ≠ .normal):G (Z3e rd) [t1,t2,t3,t4] h c df=some (gcR h c df q):=Z0z ((Z5W G rd t1 t2 t3 t4 h c df).trans e) hq
noncomputable def Z44 (o:Orc H) (rd:Option Nat) (t0 t1 t4 t5:Value) (h:H) (c:Nat) (df:List Nat):Option (Rt H) :=
 (Z1f t0).bind fun t13 =>
 (Z00 P .lss 3 t5 t13).bind fun t14 =>
 Z09 t14
 ((ixS 1 t0 t5).bind fun t19 =>
 (ld1 h t19).bind fun t20 =>
 (ixS 1 t1 t5).bind fun t23 =>
 (ld1 h t23).bind fun t24 =>
 (Z00 P .neq 3 t20 t24).bind fun t25 =>
 Z09 t25
  (some ⟨.ret,[t0,t1,(.bool false),t5],h,(c+1+1+1),df⟩)
  ((Z00 P .add 3 t5 (.int .i64 1)).bind fun t16 =>
  some ⟨.normal,[t0,t1,t4,t16],h,(c+1+1+1),df⟩))
 (some ⟨(.exit 0),[t0,t1,t4,t5],h,(c+1),df⟩)
theorem Z4r (o:Orc H) (rd:Option Nat) (t0 t1 t4 t5:Value) (h:H) (c:Nat) (df:List Nat):jx P o 26 rd Z3c (Z0g [0,1,4,5] [t0,t1,t4,t5]) h c df (Klp [0,1,4,5])=Z44 o rd t0 t1 t4 t5 h c df:=by kernel_rfl
noncomputable def ZhY (o:Orc H) (t0 t1:Value) (h:H) (c:Nat):Option (Rt H) :=
 (Z1f t0).bind fun t7 =>
 (Z1f t1).bind fun t9 =>
 (Z00 P .neq 3 t7 t9).bind fun t10 =>
 Z09 t10
 (some ⟨.ret,[(.bool false)],h,(c+1+1+1),[]⟩)
 ((o (Z9S none) [t0,t1,(.bool false),(.int .i64 0)] h (c+1+1+1) []).bind fun r0 =>
 cond (Z0t r0.e (.exit 0))
  ((Z07 r0.h r0.df).bind fun h2 =>
  some ⟨.ret,[(.bool true)],h2,(r0.c+1),[]⟩)
  (cond (Z0t r0.e .ret)
   ((Z07 r0.h r0.df).bind fun h1 =>
   some ⟨.ret,[r0.v 2],h1,r0.c,[]⟩)
   (none)))
theorem ZeO (o:Orc H) (t0 t1:Value) (h:H) (c:Nat):jx P o 26 none f26_c (Z0g (List.range 2) [t0,t1]) h c [] (Kfn P Try.f26.results.toList)=ZhY o t0 t1 h c:=by kernel_rfl
theorem f26_go {t0 t1:Value} {h:FH} {c:Nat} {df:List Nat} {r:Rt FH} (e:ZhY G t0 t1 h c=some r):G (.fn 26) [t0,t1] h c df=some (gcR h c [] r):=Z0p (a:=Zd0) bk_26 rfl (fun args h c=>by cases args <;> rfl) rfl ((ZeO G t0 t1 h c).trans e)
noncomputable def Znt (o:Orc H) (t0 t1:Value) (h:H) (c:Nat):Option (Rt H) :=
 (bif (t0:Value).cells.toList.all Z08 then
 (bif (t1:Value).cells.toList.all Z08 then
 (ldN (newB (newB (newB h (256*c+0) (t0:Value).cells.toList) (256*c+1) (t1:Value).cells.toList) (256*c+2) [(.slice none 0 0),(.slice none 0 0)]) 1 (ptrTo (256*c+0))).bind fun t12 =>
 (ldN (newB (newB (newB h (256*c+0) (t0:Value).cells.toList) (256*c+1) (t1:Value).cells.toList) (256*c+2) [(.slice none 0 0),(.slice none 0 0)]) 1 (ptrTo (256*c+1))).bind fun t13 =>
 (Z5d [(.slice none 0 0),(.slice none 0 0)] [(0,1,t12),(1,1,t13)]).bind fun r0 =>
 (callF o 31 [(.slice (some ⟨(256*(c+1)+2),0,none⟩) 2 2)] (newB (newB (newB (newB h (256*c+0) (t0:Value).cells.toList) (256*c+1) (t1:Value).cells.toList) (256*c+2) [(.slice none 0 0),(.slice none 0 0)]) (256*(c+1)+2) r0) (c+1+1)).bind fun r1 =>
 (Z00 P .neq 26 r1.1 (.int .i64 0)).bind fun t17 =>
 Z09 t17
 ((Z1v [(.slice none 0 0),(.slice none 0 0)] []).bind fun t18 =>
 (stN r1.2.1 2 (ptrTo (256*c+2)) t18).bind fun h3 =>
 (ldN h3 2 (ptrTo (256*c+2))).bind fun v4 =>
 some ⟨.ret,[.tuple #[v4,(.bool false),r1.1]],h3,(r1.2.2+1+1),[]⟩)
 ((ldN r1.2.1 1 (ptrTo (256*c+0))).bind fun t21 =>
 (callF o 49 [t21] r1.2.1 (r1.2.2+1+1)).bind fun r5 =>
 (Z2f r5.1 0).bind fun t23 =>
 (Z2f r5.1 1).bind fun t24 =>
 (stN (newB (newB r5.2.1 (256*(r1.2.2+1)+5) [(.slice none 0 0)]) (256*(r1.2.2+1)+6) [(.slice none 0 0),(.slice none 0 0)]) 1 (ptrTo (256*(r1.2.2+1)+5)) t23).bind fun h7 =>
 (stN h7 2 (ptrTo (256*(r1.2.2+1)+6)) t24).bind fun h9 =>
 (ldN h9 1 (ptrTo (256*c+1))).bind fun t26 =>
 (callF o 49 [t26] h9 (r5.2.2+1)).bind fun r10 =>
 (Z2f r10.1 0).bind fun t28 =>
 (Z2f r10.1 1).bind fun t29 =>
 (stN (newB (newB r10.2.1 (256*r5.2.2+5) [(.slice none 0 0)]) (256*r5.2.2+6) [(.slice none 0 0),(.slice none 0 0)]) 1 (ptrTo (256*r5.2.2+5)) t28).bind fun h12 =>
 (stN h12 2 (ptrTo (256*r5.2.2+6)) t29).bind fun h14 =>
 (ldN h14 1 (ptrTo (256*(r1.2.2+1)+5))).bind fun t30 =>
 (ldN h14 1 (ptrTo (256*r5.2.2+5))).bind fun t31 =>
 (callF o 41 [t30,t31] h14 (r10.2.2+1)).bind fun r15 =>
 (Z10 .not r15.1).bind fun t33 =>
 Z09 t33
  ((Z1v [(.slice none 0 0),(.slice none 0 0)] []).bind fun t34 =>
  (stN r15.2.1 2 (ptrTo (256*c+2)) t34).bind fun h17 =>
  (ldN h17 2 (ptrTo (256*c+2))).bind fun v18 =>
  some ⟨.ret,[.tuple #[v18,(.bool false),(.int .i64 0)]],h17,(r15.2.2+1),[]⟩)
  ((ldN r15.2.1 2 (ptrTo (256*(r1.2.2+1)+6))).bind fun t35 =>
  (ldN r15.2.1 2 (ptrTo (256*r5.2.2+6))).bind fun t36 =>
  (callF o 46 [t36] r15.2.1 (r15.2.2+1)).bind fun r19 =>
  (callF o 43 [t35,r19.1] r19.2.1 r19.2.2).bind fun r20 =>
  (stN r20.2.1 2 (ptrTo (256*c+2)) r20.1).bind fun h22 =>
  (bif (Z14 (Z22 (ptrTo (256*(r1.2.2+1)+6))) r15.2.1 r19.2.1 && true) then
  (ldN h22 2 (ptrTo (256*c+2))).bind fun v23 =>
  some ⟨.ret,[.tuple #[v23,(.bool true),(.int .i64 0)]],h22,r20.2.2,[]⟩
  else none)))
 else none)
 else none)
theorem Zl9 (o:Orc H) (t0 t1:Value) (h:H) (c:Nat):jx P o 39 none f28_c (Z0g (List.range 2) [t0,t1]) h c [] (Kfn P Try.f28.results.toList)=Znt o t0 t1 h c:=by kernel_rfl
noncomputable def Z43 (o:Orc H) (rd:Option Nat) (t2 t6 t7 t8:Value) (h:H) (c:Nat) (df:List Nat):Option (Rt H) :=
 (Z00 P .lss 3 t8 t7).bind fun t9 =>
 Z09 t9
 ((ixS 1 t6 t8).bind fun t10 =>
 (ldN h 1 t10).bind fun t11 =>
 (stN (newB h (256*(c+1)+2) [(.slice none 0 0)]) 1 (ptrTo (256*(c+1)+2)) t11).bind fun h1 =>
 (ldN h1 1 (ptrTo (256*(c+1)+2))).bind fun t12 =>
 (callF o 57 [t12] h1 (c+1+1+1)).bind fun r2 =>
 (Z00 P .neq 26 r2.1 (.int .i64 0)).bind fun t15 =>
 Z09 t15
  (some ⟨.ret,[r2.1,t6,t7,t8],r2.2.1,(r2.2.2+1+1),df⟩)
  ((Z00 P .add 3 t8 (.int .i64 1)).bind fun t17 =>
  some ⟨.normal,[t2,t6,t7,t17],r2.2.1,(r2.2.2+1+1),df⟩))
 (some ⟨(.exit 0),[t2,t6,t7,t8],h,(c+1),df⟩)
theorem Z4q (o:Orc H) (rd:Option Nat) (t2 t6 t7 t8:Value) (h:H) (c:Nat) (df:List Nat):jx P o 18 rd Z3b (Z0g [2,6,7,8] [t2,t6,t7,t8]) h c df (Klp [2,6,7,8])=Z43 o rd t2 t6 t7 t8 h c df:=by kernel_rfl
noncomputable def ZhX (o:Orc H) (t0:Value) (h:H) (c:Nat):Option (Rt H) :=
 (Z1f t0).bind fun t7 =>
 (o (Z9R none) [(.int .i64 0),t0,t7,(.int .i64 0)] h (c+1+1) []).bind fun r0 =>
 cond (Z0t r0.e (.exit 0))
 ((Z07 r0.h r0.df).bind fun h2 =>
 some ⟨.ret,[(.int .i64 0)],h2,(r0.c+1),[]⟩)
 (cond (Z0t r0.e .ret)
  ((Z07 r0.h r0.df).bind fun h1 =>
  some ⟨.ret,[r0.v 0],h1,r0.c,[]⟩)
  (none))
theorem ZeN (o:Orc H) (t0:Value) (h:H) (c:Nat):jx P o 18 none f31_c (Z0g (List.range 1) [t0]) h c [] (Kfn P Try.f31.results.toList)=ZhX o t0 h c:=by kernel_rfl
theorem f31_go {t0:Value} {h:FH} {c:Nat} {df:List Nat} {r:Rt FH} (e:ZhX G t0 h c=some r):G (.fn 31) [t0] h c df=some (gcR h c [] r):=Z0p (a:=ZcZ) bk_31 rfl (fun args h c=>by cases args <;> rfl) rfl ((ZeN G t0 h c).trans e)
noncomputable def Zns (o:Orc H) (t0:Value) (h:H) (c:Nat):Option (Rt H) :=
 (bif (t0:Value).cells.toList.all Z08 then
 (ldN (newB h (256*c+0) (t0:Value).cells.toList) 1 (ptrTo (256*c+0))).bind fun t7 =>
 (callF o 57 [t7] (newB h (256*c+0) (t0:Value).cells.toList) (c+1+1)).bind fun r0 =>
 (Z00 P .neq 26 r0.1 (.int .i64 0)).bind fun t10 =>
 Z09 t10
 (some ⟨.ret,[.tuple #[(.slice none 0 0),r0.1]],r0.2.1,(r0.2.2+1+1),[]⟩)
 ((ldN r0.2.1 1 (ptrTo (256*c+0))).bind fun t13 =>
 (callF o 58 [t13] r0.2.1 (r0.2.2+1+1)).bind fun r1 =>
 (Z2f r1.1 0).bind fun t15 =>
 (Z2f r1.1 1).bind fun t16 =>
 some ⟨.ret,[.tuple #[t15,(.int .i64 0)]],r1.2.1,(r1.2.2+1),[]⟩)
 else none)
theorem Zl8 (o:Orc H) (t0:Value) (h:H) (c:Nat):jx P o 18 none f32_c (Z0g (List.range 1) [t0]) h c [] (Kfn P Try.f32.results.toList)=Zns o t0 h c:=by kernel_rfl
end Go.Proofs.Ytemkjcpfgmbibaa
