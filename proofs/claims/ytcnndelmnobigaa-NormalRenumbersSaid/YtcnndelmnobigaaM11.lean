/- Parts of a proof: S3 S4 S5. Conditions: none. -/
import Derived.Test.YtcnndelmnobigaaM9
set_option linter.all false
set_option maxRecDepth 100000
namespace Go.Proofs.Ytcnndelmnobigaa
open Go Go.Ab Go.Proofs
variable {H:Type} [HeapC H]
noncomputable def Z77 (o:Orc H) (rd:Option Nat) (t2 t3 t4 t5 t7 t8 t9 t10 t11 t14:Value) (h:H) (c:Nat) (df:List Nat):Option (Rt H) :=
 (Z00 P .lss 3 t14 (.int .i64 4)).bind fun t92 =>
 Z08 t92
 ((Z00 P .add 3 t8 (.int .i64 1)).bind fun t97 =>
 (ixS 1 t4 t97).bind fun t98 =>
 (ld1 h t98).bind fun t99 =>
 (Zg8 t99 t14).bind fun t101 =>
 (Z00 P .lss 5 t101 (.int .u8 48)).bind fun t103 =>
 (gd t103 false h (c+1+1+1) (some t101)).bind fun r0 =>
 (gd t103 false r0.2.1 r0.2.2 (Z00 P .gtr 5 r0.1 (.int .u8 57))).bind fun r1 =>
 (Z0v t103 (.bool true) r1.1).bind fun t107 =>
 Z08 t107
  ((Z3A [(.slice none 0 0)] []).bind fun t108 =>
  (stN r1.2.1 1 t2 t108).bind fun h3 =>
  some ⟨.ret,[t2,(.int .i64 4),t4,t5,t7,t8,t9,t10,t11,t14],h3,(r1.2.2+1),df⟩)
  ((Z00 P .sub 5 t101 (.int .u8 48)).bind fun t112 =>
  (cnvI .i64 t112).bind fun t113 =>
  (ixA 4 5 t10 t11).bind fun t114 =>
  (Z04 t114 1).bind fun t115 =>
  (ixA 4 1 t115 t14).bind fun t116 =>
  (stN r1.2.1 1 t116 t113).bind fun h6 =>
  (Z00 P .add 3 t14 (.int .i64 1)).bind fun t94 =>
  some ⟨.normal,[t2,t3,t4,t5,t7,t8,t9,t10,t11,t94],h6,(r1.2.2+1+1),df⟩))
 (some ⟨(.exit 4),[t2,t3,t4,t5,t7,t8,t9,t10,t11,t14],h,(c+1),df⟩)
theorem Zb2 (o:Orc H) (rd:Option Nat) (t2 t3 t4 t5 t7 t8 t9 t10 t11 t14:Value) (h:H) (c:Nat) (df:List Nat):jx P o 135 rd Z38 (Z0j [2,3,4,5,7,8,9,10,11,14] [t2,t3,t4,t5,t7,t8,t9,t10,t11,t14]) h c df (Klp [2,3,4,5,7,8,9,10,11,14])=Z77 o rd t2 t3 t4 t5 t7 t8 t9 t10 t11 t14 h c df:=by kernel_rfl
noncomputable def Z78 (o:Orc H) (rd:Option Nat) (t2 t3 t4 t5 t7 t8 t9 t10 t11:Value) (h:H) (c:Nat) (df:List Nat):Option (Rt H) :=
 (Z00 P .lss 3 t11 (.int .i64 4)).bind fun t42 =>
 Z08 t42
 (((Z1B t4).bind fun t47 =>
  (Z00 P .geq 3 t8 t47).bind fun t48 =>
  Z08 t48
   ((Z3A [(.slice none 0 0)] []).bind fun t49 =>
   (stN h 1 t2 t49).bind fun h1 =>
   some ⟨.ret,[t2,(.int .i64 4),t4,t5,t7,t8,t9,t10,t11],h1,(c+1+1+1),df⟩)
   ((ixS 1 t4 t8).bind fun t52 =>
   (ld1 h t52).bind fun t53 =>
   (Z00 P .eql 9 t53 (.string (ByteArray.mk #[45]))).bind fun t54 =>
   Z08 t54
    ((ixA 4 5 t10 t11).bind fun t56 =>
    (Z04 t56 0).bind fun t57 =>
    (stN h 1 t57 (.int .i64 (-1))).bind fun h4 =>
    (Z00 P .add 3 t8 (.int .i64 1)).bind fun t59 =>
    some ⟨.normal,[t2,t3,t4,t5,t7,t59,t9,t10,t11],h4,(c+1+1+1+1+1),df⟩)
    ((ixS 1 t4 t8).bind fun t63 =>
    (ld1 h t63).bind fun t64 =>
    (callF o 69 [t64] h (c+1+1+1+1)).bind fun r6 =>
    (Z2q r6.1 0).bind fun t66 =>
    (Z2q r6.1 1).bind fun t67 =>
    (Z1t .not t67).bind fun t69 =>
    (gd t69 false r6.2.1 (r6.2.2+1) (some t8)).bind fun r7 =>
    (gd t69 false r7.2.1 r7.2.2 (Z00 P .add 3 r7.1 (.int .i64 1))).bind fun r8 =>
    (gd t69 false r8.2.1 r8.2.2 (some t4)).bind fun r9 =>
    (gg t69 false r9.2.1 r9.2.2 (((Z1B r9.1).bind fun v=>some (v,r9.2.1)).bind fun r=>some (r.1,r.2,r9.2.2))).bind fun r10 =>
    (gd t69 false r10.2.1 r10.2.2 (Z00 P .geq 3 r8.1 r10.1)).bind fun r11 =>
    (Z0v t69 (.bool true) r11.1).bind fun t76 =>
    (gd t76 false r11.2.1 r11.2.2 (some t4)).bind fun r12 =>
    (gd t76 false r12.2.1 r12.2.2 (some t8)).bind fun r13 =>
    (gd t76 false r13.2.1 r13.2.2 (Z00 P .add 3 r13.1 (.int .i64 1))).bind fun r14 =>
    (gd t76 false r14.2.1 r14.2.2 (ixS 1 r12.1 r14.1)).bind fun r15 =>
    (gd t76 false r15.2.1 r15.2.2 (ld1 r15.2.1 r15.1)).bind fun r16 =>
    (gg t76 false r16.2.1 r16.2.2 (((Zh7 P r16.2.1 9 r16.1).bind fun v=>some (v,r16.2.1)).bind fun r=>some (r.1,r.2,r16.2.2))).bind fun r17 =>
    (gd t76 false r17.2.1 r17.2.2 (Z00 P .neq 3 r17.1 (.int .i64 4))).bind fun r18 =>
    (Z0v t76 (.bool true) r18.1).bind fun t85 =>
    Z08 t85
     ((Z3A [(.slice none 0 0)] []).bind fun t86 =>
     (stN r18.2.1 1 t2 t86).bind fun h20 =>
     some ⟨.ret,[t2,(.int .i64 4),t4,t5,t7,t8,t9,t10,t11],h20,(r18.2.2+1),df⟩)
     ((ixA 4 5 t10 t11).bind fun t89 =>
     (Z04 t89 0).bind fun t90 =>
     (stN r18.2.1 1 t90 t66).bind fun h23 =>
     (o (ZgG rd) [t2,t3,t4,t5,t7,t8,t9,t10,t11,(.int .i64 0)] h23 (r18.2.2+1+1) df).bind fun r24 =>
     cond (Z0x r24.e (.exit 4))
      ((Z00 P .add 3 (r24.v 5) (.int .i64 2)).bind fun t118 =>
      some ⟨.normal,[r24.v 0,r24.v 1,r24.v 2,r24.v 3,r24.v 4,t118,r24.v 6,r24.v 7,r24.v 8],r24.h,(r24.c+1),r24.df⟩)
      (cond (Z0x r24.e .ret)
       (some ⟨.ret,[r24.v 0,r24.v 1,r24.v 2,r24.v 3,r24.v 4,r24.v 5,r24.v 6,r24.v 7,r24.v 8],r24.h,r24.c,r24.df⟩)
       (none))))):Option (Rt H)).bind fun r26 =>
 cond (Z0x r26.e .ret)
  (some ⟨.ret,[r26.v 0,r26.v 1,r26.v 2,r26.v 3,r26.v 4,r26.v 5,r26.v 6,r26.v 7,r26.v 8],r26.h,r26.c,r26.df⟩)
  (cond (Z0x r26.e .normal)
   ((Z00 P .add 3 (r26.v 8) (.int .i64 1)).bind fun t44 =>
   some ⟨.normal,[r26.v 0,r26.v 1,r26.v 2,r26.v 3,r26.v 4,r26.v 5,r26.v 6,r26.v 7,t44],r26.h,(r26.c+1),r26.df⟩)
   (none)))
 (some ⟨(.exit 2),[t2,t3,t4,t5,t7,t8,t9,t10,t11],h,(c+1),df⟩)
theorem Zb3 (o:Orc H) (rd:Option Nat) (t2 t3 t4 t5 t7 t8 t9 t10 t11:Value) (h:H) (c:Nat) (df:List Nat):jx P o 135 rd Z39 (Z0j [2,3,4,5,7,8,9,10,11] [t2,t3,t4,t5,t7,t8,t9,t10,t11]) h c df (Klp [2,3,4,5,7,8,9,10,11])=Z78 o rd t2 t3 t4 t5 t7 t8 t9 t10 t11 h c df:=by kernel_rfl
noncomputable def Z79 (o:Orc H) (rd:Option Nat) (t2 t3 t4 t5 t7 t8 t9:Value) (h:H) (c:Nat) (df:List Nat):Option (Rt H) :=
 (Z00 P .lss 3 t9 t5).bind fun t38 =>
 Z08 t38
 ((o (ZgH rd) [t2,t3,t4,t5,t7,t8,t9,(ptrTo (256*(c+1)+0)),(.int .i64 0)] (newB h (256*(c+1)+0) [(.int .i64 0),(.int .i64 0),(.int .i64 0),(.int .i64 0),(.int .i64 0),(.int .i64 0),(.int .i64 0),(.int .i64 0),(.int .i64 0),(.int .i64 0),(.int .i64 0),(.int .i64 0),(.int .i64 0),(.int .i64 0),(.int .i64 0),(.int .i64 0),(.int .i64 0),(.int .i64 0),(.int .i64 0),(.int .i64 0)]) (c+1+1+1) df).bind fun r0 =>
 cond (Z0x r0.e (.exit 2))
  ((Z04 (r0.v 4) 0).bind fun t119 =>
  (ld1 r0.h t119).bind fun t120 =>
  (ldN r0.h 20 (r0.v 7)).bind fun t121 =>
  (Z4Y [(.int .i64 0),(.int .i64 0),(.int .i64 0),(.int .i64 0),(.int .i64 0),(.int .i64 0),(.int .i64 0),(.int .i64 0),(.int .i64 0),(.int .i64 0),(.int .i64 0),(.int .i64 0),(.int .i64 0),(.int .i64 0),(.int .i64 0),(.int .i64 0),(.int .i64 0),(.int .i64 0),(.int .i64 0),(.int .i64 0)] [(0,20,t121)]).bind fun r1 =>
  (Z9h (newB r0.h (256*r0.c+3) r1) (256*r0.c+4) 20 160 t120 (.slice (some ⟨(256*r0.c+3),0,none⟩) 1 1)).bind fun r2 =>
  (Z04 (r0.v 4) 0).bind fun t124 =>
  (stN r2.2 1 t124 r2.1).bind fun h4 =>
  (Z00 P .add 3 (r0.v 6) (.int .i64 1)).bind fun t40 =>
  some ⟨.normal,[r0.v 0,r0.v 1,r0.v 2,r0.v 3,r0.v 4,r0.v 5,t40],h4,(r0.c+1+1),r0.df⟩)
  (cond (Z0x r0.e .ret)
   (some ⟨.ret,[r0.v 0,r0.v 1,r0.v 2,r0.v 3,r0.v 4,r0.v 5,r0.v 6],r0.h,r0.c,r0.df⟩)
   (none)))
 (some ⟨(.exit 0),[t2,t3,t4,t5,t7,t8,t9],h,(c+1),df⟩)
theorem Zb4 (o:Orc H) (rd:Option Nat) (t2 t3 t4 t5 t7 t8 t9:Value) (h:H) (c:Nat) (df:List Nat):jx P o 135 rd Z3a (Z0j [2,3,4,5,7,8,9] [t2,t3,t4,t5,t7,t8,t9]) h c df (Klp [2,3,4,5,7,8,9])=Z79 o rd t2 t3 t4 t5 t7 t8 t9 h c df:=by kernel_rfl
noncomputable def ZnR (o:Orc H) (t0:Value) (h:H) (c:Nat):Option (Rt H) :=
 (Zh7 P (newB h (256*c+0) [(.slice none 0 0)]) 9 t0).bind fun t17 =>
 (Z00 P .gtr 3 t17 (.int .i64 200000)).bind fun t18 =>
 Z08 t18
 ((Z3A [(.slice none 0 0)] []).bind fun t19 =>
 (stN (newB h (256*c+0) [(.slice none 0 0)]) 1 (ptrTo (256*c+0)) t19).bind fun h1 =>
 (ldN h1 1 (ptrTo (256*c+0))).bind fun v2 =>
 some ⟨.ret,[.tuple #[v2,(.int .i64 2)]],h1,(c+1+1+1),[]⟩)
 ((callF o 68 [t0] (newB h (256*c+0) [(.slice none 0 0)]) (c+1+1+1)).bind fun r3 =>
 (Z1B r3.1).bind fun t23 =>
 (Z00 P .eql 3 t23 (.int .i64 0)).bind fun t24 =>
 Z08 t24
  ((Z3A [(.slice none 0 0)] []).bind fun t25 =>
  (stN r3.2.1 1 (ptrTo (256*c+0)) t25).bind fun h5 =>
  (ldN h5 1 (ptrTo (256*c+0))).bind fun v6 =>
  some ⟨.ret,[.tuple #[v6,(.int .i64 4)]],h5,(r3.2.2+1+1),[]⟩)
  ((ixS 1 r3.1 (.int .i64 0)).bind fun t28 =>
  (ld1 r3.2.1 t28).bind fun t29 =>
  (callF o 69 [t29] r3.2.1 (r3.2.2+1+1)).bind fun r7 =>
  (Z2q r7.1 0).bind fun t31 =>
  (Z2q r7.1 1).bind fun t32 =>
  (Z1t .not t32).bind fun t34 =>
  Z08 t34
   ((Z3A [(.slice none 0 0)] []).bind fun t35 =>
   (stN r7.2.1 1 (ptrTo (256*c+0)) t35).bind fun h9 =>
   (ldN h9 1 (ptrTo (256*c+0))).bind fun v10 =>
   some ⟨.ret,[.tuple #[v10,(.int .i64 4)]],h9,(r7.2.2+1+1),[]⟩)
   ((o (ZgI none) [(ptrTo (256*c+0)),(.int .i64 0),r3.1,t31,(ptrTo (256*(r7.2.2+1)+0)),(.int .i64 1),(.int .i64 0)] (newB r7.2.1 (256*(r7.2.2+1)+0) [(.slice none 0 0)]) (r7.2.2+1+1+1+1) []).bind fun r11 =>
   cond (Z0x r11.e (.exit 0))
    ((Z1B (r11.v 2)).bind fun t127 =>
    (Z00 P .neq 3 (r11.v 5) t127).bind fun t128 =>
    Z08 t128
     ((Z3A [(.slice none 0 0)] []).bind fun t129 =>
     (stN r11.h 1 (r11.v 0) t129).bind fun h15 =>
     (Z09 h15 r11.df).bind fun h16 =>
     (ldN h16 1 (r11.v 0)).bind fun v17 =>
     some ⟨.ret,[.tuple #[v17,(.int .i64 4)]],h16,(r11.c+1+1),[]⟩)
     ((ldN r11.h 1 (r11.v 4)).bind fun t130 =>
     (callF o 13 [t130] r11.h (r11.c+1+1)).bind fun r18 =>
     (Z00 P .neq 27 r18.1 (.int .i64 0)).bind fun t132 =>
     Z08 t132
      ((Z3A [(.slice none 0 0)] []).bind fun t133 =>
      (stN r18.2.1 1 (r11.v 0) t133).bind fun h20 =>
      (Z09 h20 r11.df).bind fun h21 =>
      (ldN h21 1 (r11.v 0)).bind fun v22 =>
      some ⟨.ret,[.tuple #[v22,(.int .i64 7)]],h21,(r18.2.2+1),[]⟩)
      ((ldN r18.2.1 1 (r11.v 4)).bind fun t134 =>
      (stN r18.2.1 1 (r11.v 0) t134).bind fun h24 =>
      (Z09 h24 r11.df).bind fun h25 =>
      (ldN h25 1 (r11.v 0)).bind fun v26 =>
      some ⟨.ret,[.tuple #[v26,(.int .i64 0)]],h25,(r18.2.2+1),[]⟩)))
    (cond (Z0x r11.e .ret)
     ((Z09 r11.h r11.df).bind fun h12 =>
     (ldN h12 1 (r11.v 0)).bind fun v13 =>
     some ⟨.ret,[.tuple #[v13,r11.v 1]],h12,r11.c,[]⟩)
     (none)))))
theorem ZlG (o:Orc H) (t0:Value) (h:H) (c:Nat):jx P o 135 none f40_c (Z0j (List.range 1) [t0]) h c [] (Kfn P Try.f40.results.toList)=ZnR o t0 h c:=by kernel_rfl
noncomputable def Z1d (o:Orc H) (rd:Option Nat) (t1 t2 t3 t4:Value) (h:H) (c:Nat) (df:List Nat):Option (Rt H) :=
 (Z00 P .lss 3 t4 (.int .i64 4)).bind fun t6 =>
 Z08 t6
 ((ixA 4 1 t1 t4).bind fun t10 =>
 (ld1 h t10).bind fun t11 =>
 (Z00 P .lss 3 t11 (.int .i64 0)).bind fun t12 =>
 (gd t12 false h (c+1+1) (some t4)).bind fun r0 =>
 (gd t12 false r0.2.1 r0.2.2 (ixA 4 1 t1 r0.1)).bind fun r1 =>
 (gd t12 false r1.2.1 r1.2.2 (ld1 r1.2.1 r1.1)).bind fun r2 =>
 (gd t12 false r2.2.1 r2.2.2 (Z00 P .gtr 3 r2.1 (.int .i64 3))).bind fun r3 =>
 (Z0v t12 (.bool true) r3.1).bind fun t18 =>
 (gd t18 false r3.2.1 r3.2.2 (some t4)).bind fun r4 =>
 (gd t18 false r4.2.1 r4.2.2 (ixA 4 1 t1 r4.1)).bind fun r5 =>
 (gd t18 false r5.2.1 r5.2.2 (ld1 r5.2.1 r5.1)).bind fun r6 =>
 (gd t18 false r6.2.1 r6.2.2 (ixA 4 1 t3 r6.1)).bind fun r7 =>
 (gd t18 false r7.2.1 r7.2.2 (ld1 r7.2.1 r7.1)).bind fun r8 =>
 (Z0v t18 (.bool true) r8.1).bind fun t25 =>
 Z08 t25
  (some ⟨.ret,[t1,(.bool false),t3,t4],r8.2.1,(r8.2.2+1),df⟩)
  ((ixA 4 1 t1 t4).bind fun t27 =>
  (ld1 r8.2.1 t27).bind fun t28 =>
  (ixA 4 1 t3 t28).bind fun t29 =>
  (stN r8.2.1 1 t29 (.bool true)).bind fun h11 =>
  (Z00 P .add 3 t4 (.int .i64 1)).bind fun t8 =>
  some ⟨.normal,[t1,t2,t3,t8],h11,(r8.2.2+1+1),df⟩))
 (some ⟨(.exit 0),[t1,t2,t3,t4],h,(c+1),df⟩)
theorem Z4O (o:Orc H) (rd:Option Nat) (t1 t2 t3 t4:Value) (h:H) (c:Nat) (df:List Nat):jx P o 30 rd Z37 (Z0j [1,2,3,4] [t1,t2,t3,t4]) h c df (Klp [1,2,3,4])=Z1d o rd t1 t2 t3 t4 h c df:=by kernel_rfl
noncomputable def ZiP (o:Orc H) (t0:Value) (h:H) (c:Nat):Option (Rt H) :=
 (bif (t0:Value).cells.toList.all Z0d then
 (o (Z4h none) [(ptrTo (256*c+0)),(.bool false),(ptrTo (256*(c+1)+0)),(.int .i64 0)] (newB (newB h (256*c+0) (t0:Value).cells.toList) (256*(c+1)+0) [(.bool false),(.bool false),(.bool false),(.bool false)]) (c+1+1+1) []).bind fun r0 =>
 cond (Z0x r0.e (.exit 0))
 ((Z09 r0.h r0.df).bind fun h2 =>
 some ⟨.ret,[(.bool true)],h2,(r0.c+1),[]⟩)
 (cond (Z0x r0.e .ret)
  ((Z09 r0.h r0.df).bind fun h1 =>
  some ⟨.ret,[r0.v 1],h1,r0.c,[]⟩)
  (none))
 else none)
theorem Zfm (o:Orc H) (t0:Value) (h:H) (c:Nat):jx P o 30 none f41_c (Z0j (List.range 1) [t0]) h c [] (Kfn P Try.f41.results.toList)=ZiP o t0 h c:=by kernel_rfl
theorem f41_go {t0:Value} {h:FH} {c:Nat} {df:List Nat} {r:Rt FH} (e:ZiP G t0 h c=some r):G (.fn 41) [t0] h c df=some (gcR h c [] r):=Z0h (a:=Zd9) bk_41 rfl (fun args h c=>by cases args <;> rfl) rfl ((Zfm G t0 h c).trans e)
theorem ZgF {rd:Option Nat} {t1 t2 t3 t4:Value} {h:FH} {c:Nat} {df:List Nat} {q r:Rt FH} (e:Z1d G rd t1 t2 t3 t4 h c df=some q) (hq:q.e = .normal) (k:G (Z4h rd) q.vs (gcR h c df q).h (gcR h c df q).c q.df=some r):G (Z4h rd) [t1,t2,t3,t4] h c df=some r:=Z0J ((Z4O G rd t1 t2 t3 t4 h c df).trans e) hq k
theorem Z5u {rd:Option Nat} {t1 t2 t3 t4:Value} {h:FH} {c:Nat} {df:List Nat} {q:Rt FH} (e:Z1d G rd t1 t2 t3 t4 h c df=some q) (hq:q.e ≠ .normal):G (Z4h rd) [t1,t2,t3,t4] h c df=some (gcR h c df q):=Z0K ((Z4O G rd t1 t2 t3 t4 h c df).trans e) hq
noncomputable def Z24 (o:Orc H) (rd:Option Nat) (t1 t2 t3 t4:Value) (h:H) (c:Nat) (df:List Nat):Option (Rt H) :=
 (Z00 P .lss 3 t4 (.int .i64 4)).bind fun t10 =>
 Z08 t10
 ((ixA 4 1 t1 t4).bind fun t14 =>
 (ld1 h t14).bind fun t15 =>
 (ixA 4 1 t3 t15).bind fun t17 =>
 (stN h 1 t17 t4).bind fun h1 =>
 (Z00 P .add 3 t4 (.int .i64 1)).bind fun t12 =>
 some ⟨.normal,[t1,t2,t3,t12],h1,(c+1+1+1),df⟩)
 (some ⟨(.exit 0),[t1,t2,t3,t4],h,(c+1),df⟩)
theorem Z4N (o:Orc H) (rd:Option Nat) (t1 t2 t3 t4:Value) (h:H) (c:Nat) (df:List Nat):jx P o 19 rd Z36 (Z0j [1,2,3,4] [t1,t2,t3,t4]) h c df (Klp [1,2,3,4])=Z24 o rd t1 t2 t3 t4 h c df:=by kernel_rfl
noncomputable def ZiO (o:Orc H) (t0:Value) (h:H) (c:Nat):Option (Rt H) :=
 (bif (t0:Value).cells.toList.all Z0d then
 (ldN (newB (newB (newB h (256*c+0) (t0:Value).cells.toList) (256*c+1) [(.int .i64 0),(.int .i64 0),(.int .i64 0),(.int .i64 0)]) (256*(c+1)+0) [(.int .i64 0),(.int .i64 0),(.int .i64 0),(.int .i64 0)]) 4 (ptrTo (256*c+0))).bind fun t5 =>
 (callF o 41 [t5] (newB (newB (newB h (256*c+0) (t0:Value).cells.toList) (256*c+1) [(.int .i64 0),(.int .i64 0),(.int .i64 0),(.int .i64 0)]) (256*(c+1)+0) [(.int .i64 0),(.int .i64 0),(.int .i64 0),(.int .i64 0)]) (c+1+1+1)).bind fun r0 =>
 (Z1t .not r0.1).bind fun t7 =>
 Z08 t7
 ((ldN r0.2.1 4 (ptrTo (256*(c+1)+0))).bind fun t8 =>
 (stN r0.2.1 4 (ptrTo (256*c+1)) t8).bind fun h2 =>
 (ldN h2 4 (ptrTo (256*c+1))).bind fun v3 =>
 some ⟨.ret,[v3],h2,(r0.2.2+1),[]⟩)
 ((o (Z4g none) [(ptrTo (256*c+0)),(ptrTo (256*c+1)),(ptrTo (256*(c+1)+0)),(.int .i64 0)] r0.2.1 (r0.2.2+1) []).bind fun r4 =>
 cond (Z0x r4.e (.exit 0))
  ((ldN r4.h 4 (r4.v 2)).bind fun t18 =>
  (stN r4.h 4 (r4.v 1) t18).bind fun h6 =>
  (Z09 h6 r4.df).bind fun h7 =>
  (ldN h7 4 (r4.v 1)).bind fun v8 =>
  some ⟨.ret,[v8],h7,(r4.c+1),[]⟩)
  (none))
 else none)
theorem Zfl (o:Orc H) (t0:Value) (h:H) (c:Nat):jx P o 19 none f42_c (Z0j (List.range 1) [t0]) h c [] (Kfn P Try.f42.results.toList)=ZiO o t0 h c:=by kernel_rfl
theorem f42_go {t0:Value} {h:FH} {c:Nat} {df:List Nat} {r:Rt FH} (e:ZiO G t0 h c=some r):G (.fn 42) [t0] h c df=some (gcR h c [] r):=Z0h (a:=Zd8) bk_42 rfl (fun args h c=>by cases args <;> rfl) rfl ((Zfl G t0 h c).trans e)
theorem ZgE {rd:Option Nat} {t1 t2 t3 t4:Value} {h:FH} {c:Nat} {df:List Nat} {q r:Rt FH} (e:Z24 G rd t1 t2 t3 t4 h c df=some q) (hq:q.e = .normal) (k:G (Z4g rd) q.vs (gcR h c df q).h (gcR h c df q).c q.df=some r):G (Z4g rd) [t1,t2,t3,t4] h c df=some r:=Z0J ((Z4N G rd t1 t2 t3 t4 h c df).trans e) hq k
theorem ZgD {rd:Option Nat} {t1 t2 t3 t4:Value} {h:FH} {c:Nat} {df:List Nat} {q:Rt FH} (e:Z24 G rd t1 t2 t3 t4 h c df=some q) (hq:q.e ≠ .normal):G (Z4g rd) [t1,t2,t3,t4] h c df=some (gcR h c df q):=Z0K ((Z4N G rd t1 t2 t3 t4 h c df).trans e) hq
noncomputable def ZiN (o:Orc H) (t0:Value) (h:H) (c:Nat):Option (Rt H) :=
 (bif (t0:Value).cells.toList.all Z0d then
 (ldN (newB h (256*c+0) (t0:Value).cells.toList) 1 (ptrTo (256*c+0))).bind fun t4 =>
 (callF o 70 [t4] (newB h (256*c+0) (t0:Value).cells.toList) (c+1+1)).bind fun r0 =>
 (Z00 P .neq 27 r0.1 (.int .i64 0)).bind fun t6 =>
 Z08 t6
 (some ⟨.ret,[(.int .i64 7)],r0.2.1,(r0.2.2+1),[]⟩)
 ((Z04 (ptrTo (256*c+0)) 0).bind fun t8 =>
 (ld1 r0.2.1 t8).bind fun t9 =>
 (Z1B t9).bind fun t10 =>
 (Z00 P .gtr 3 t10 (.int .i64 60)).bind fun t11 =>
 Z08 t11
  (some ⟨.ret,[(.int .i64 2)],r0.2.1,(r0.2.2+1+1),[]⟩)
  (some ⟨.ret,[(.int .i64 0)],r0.2.1,(r0.2.2+1+1),[]⟩))
 else none)
theorem Zfk (o:Orc H) (t0:Value) (h:H) (c:Nat):jx P o 12 none f43_c (Z0j (List.range 1) [t0]) h c [] (Kfn P Try.f43.results.toList)=ZiN o t0 h c:=by kernel_rfl
theorem f43_go {t0:Value} {h:FH} {c:Nat} {df:List Nat} {r:Rt FH} (e:ZiN G t0 h c=some r):G (.fn 43) [t0] h c df=some (gcR h c [] r):=Z0h (a:=Zd6) bk_43 rfl (fun args h c=>by cases args <;> rfl) rfl ((Zfk G t0 h c).trans e)
noncomputable def Z23 (o:Orc H) (rd:Option Nat) (t6 t7 t8 t52:Value) (h:H) (c:Nat) (df:List Nat):Option (Rt H) :=
 (Z00 P .lss 3 t52 (.int .i64 4)).bind fun t53 =>
 Z08 t53
 ((Z04 t7 1).bind fun t56 =>
 (ld1 h t56).bind fun t57 =>
 (Z00 P .neq 3 t52 t57).bind fun t58 =>
 (gd t58 true h (c+1+1+1) (some t52)).bind fun r0 =>
 (gd t58 true r0.2.1 r0.2.2 (Z04 t7 2)).bind fun r1 =>
 (gd t58 true r1.2.1 r1.2.2 (ld1 r1.2.1 r1.1)).bind fun r2 =>
 (gd t58 true r2.2.1 r2.2.2 (Z00 P .neq 3 r0.1 r2.1)).bind fun r3 =>
 (Z0v t58 r3.1 (.bool false)).bind fun t64 =>
 (Z08 t64
  ((ld1 r3.2.1 t6).bind fun t65 =>
  (Z0s t65).bind fun t66 =>
  (Z04 t66 0).bind fun t67 =>
  (Z04 t7 0).bind fun t68 =>
  (ld1 r3.2.1 t68).bind fun t69 =>
  (Z00 P .mul 3 (.int .i64 6) t69).bind fun t70 =>
  (Z04 t7 2).bind fun t71 =>
  (ld1 r3.2.1 t71).bind fun t72 =>
  (callF o 73 [t72,t52] r3.2.1 (r3.2.2+1)).bind fun r4 =>
  (Z00 P .add 3 t70 r4.1).bind fun t75 =>
  (Z04 t7 3).bind fun t76 =>
  (ld1 r4.2.1 t76).bind fun t77 =>
  (Z00 P .mul 3 (.int .i64 6) t77).bind fun t78 =>
  (Z04 t7 2).bind fun t79 =>
  (ld1 r4.2.1 t79).bind fun t80 =>
  (ixA 4 1 t8 t80).bind fun t81 =>
  (ld1 r4.2.1 t81).bind fun t82 =>
  (ixA 4 1 t8 t52).bind fun t84 =>
  (ld1 r4.2.1 t84).bind fun t85 =>
  (callF o 73 [t82,t85] r4.2.1 r4.2.2).bind fun r5 =>
  (Z00 P .add 3 t78 r5.1).bind fun t87 =>
  (callF o 72 [t67,t75,t87] r5.2.1 r5.2.2).bind fun r6 =>
  (bif (Z1o (Z2A t6) r3.2.1 r4.2.1 && (Z1o (Z2A t6) r4.2.1 r5.2.1 && (Z1o (Z2A t68) r3.2.1 r4.2.1 && (Z1o (Z2A t68) r4.2.1 r5.2.1 && (Z1o (Z2A t76) r3.2.1 r4.2.1 && (Z1o (Z2A t76) r4.2.1 r5.2.1 && (Z1o (Z2A t79) r3.2.1 r4.2.1 && (Z1o (Z2A t81) r3.2.1 r4.2.1 && (Z1o (Z2A t84) r3.2.1 r4.2.1 && true))))))))) then
  some ⟨.normal,[t6,t7,t8,t52],r6.2.1,r6.2.2,df⟩
  else none))
  (some ⟨.normal,[t6,t7,t8,t52],r3.2.1,r3.2.2,df⟩):Option (Rt H)).bind fun r7 =>
 cond (Z0x r7.e .normal)
  ((Z00 P .add 3 (r7.v 3) (.int .i64 1)).bind fun t89 =>
  some ⟨.normal,[r7.v 0,r7.v 1,r7.v 2,t89],r7.h,(r7.c+1),r7.df⟩)
  (none))
 (some ⟨(.exit 2),[t6,t7,t8,t52],h,(c+1),df⟩)
theorem Z1Q (o:Orc H) (rd:Option Nat) (t6 t7 t8 t52:Value) (h:H) (c:Nat) (df:List Nat):jx P o 92 rd Z34 (Z0j [6,7,8,52] [t6,t7,t8,t52]) h c df (Klp [6,7,8,52])=Z23 o rd t6 t7 t8 t52 h c df:=by kernel_rfl
noncomputable def Z35 (o:Orc H) (l:Nat) (t25 t1 t5 t6:Value) (h:H) (c:Nat):Option (Rt H) :=
 (stN (newB h (256*c+0) [(.int .i64 0),(.int .i64 0),(.int .i64 0),(.int .i64 0),(.int .i64 0),(.int .i64 0)]) 6 (ptrTo (256*c+0)) t25).bind fun h1 =>
 (Z1R h1 l).bind fun h2 =>
 (ld1 h2 t5).bind fun t26 =>
 (Z0s t26).bind fun t27 =>
 (Z04 t27 0).bind fun t28 =>
 (Z04 (ptrTo (256*c+0)) 0).bind fun t29 =>
 (ld1 h2 t29).bind fun t30 =>
 (Z00 P .mul 3 (.int .i64 4) t30).bind fun t31 =>
 (Z04 (ptrTo (256*c+0)) 2).bind fun t32 =>
 (ld1 h2 t32).bind fun t33 =>
 (Z00 P .add 3 t31 t33).bind fun t34 =>
 (Z04 (ptrTo (256*c+0)) 3).bind fun t35 =>
 (ld1 h2 t35).bind fun t36 =>
 (Z00 P .mul 3 (.int .i64 4) t36).bind fun t37 =>
 (Z04 (ptrTo (256*c+0)) 5).bind fun t38 =>
 (ld1 h2 t38).bind fun t39 =>
 (Z00 P .add 3 t37 t39).bind fun t40 =>
 (callF o 72 [t28,t34,t40] h2 (c+1+1)).bind fun r3 =>
 (Z04 t1 0).bind fun t42 =>
 (ld1 r3.2.1 t42).bind fun t43 =>
 (Z04 (ptrTo (256*c+0)) 0).bind fun t44 =>
 (ld1 r3.2.1 t44).bind fun t45 =>
 (Z04 (ptrTo (256*c+0)) 1).bind fun t46 =>
 (ld1 r3.2.1 t46).bind fun t47 =>
 (ixS 20 t43 t45).bind fun t48 =>
 (ixA 4 5 t48 t47).bind fun t49 =>
 (Z04 t49 1).bind fun t50 =>
 (ldN r3.2.1 4 t50).bind fun t51 =>
 (stN (newB r3.2.1 (256*r3.2.2+10) [(.int .i64 0),(.int .i64 0),(.int .i64 0),(.int .i64 0)]) 4 (ptrTo (256*r3.2.2+10)) t51).bind fun h5 =>
 (o (Z9X (some l)) [t6,(ptrTo (256*c+0)),(ptrTo (256*r3.2.2+10)),(.int .i64 0)] h5 (r3.2.2+1+1) []).bind fun r6 =>
 cond (Z0x r6.e (.exit 2))
 ((Z0A r6.h l .ready none).bind fun h7 =>
 cond (List.isEmpty (r6.df:List Nat)) (some ⟨.ret,[.bool true],h7,r6.c,[]⟩) none)
 (none)
theorem Z6t (o:Orc H) (l:Nat) (t25 t1 t5 t6:Value) (h:H) (c:Nat):jx P o 92 (some l) Z1c (Z0j ([25]++[1,5,6]) [t25,t1,t5,t6]) h c [] (Zmq P o 92 l Z1b)=Z35 o l t25 t1 t5 t6 h c:=by kernel_rfl
noncomputable def ZiM (o:Orc H) (t0:Value) (h:H) (c:Nat):Option (Rt H) :=
 (bif (t0:Value).cells.toList.all Z0d then
 (Z04 (ptrTo (256*c+0)) 0).bind fun t10 =>
 (ld1 (newB h (256*c+0) (t0:Value).cells.toList) t10).bind fun t11 =>
 (Z1B t11).bind fun t12 =>
 (Z00 P .mul 3 (.int .i64 4) t12).bind fun t14 =>
 (callF o 71 [t14] (newB h (256*c+0) (t0:Value).cells.toList) (c+1+1+1)).bind fun r0 =>
 (Z3A [(.slice none 0 0)] [(0,1,r0.1)]).bind fun t16 =>
 (bif (t16:Value).cells.toList.all Z0d then
 (Z00 P .mul 3 (.int .i64 6) t12).bind fun t19 =>
 (callF o 71 [t19] (newB r0.2.1 (256*(c+1+1)+4) (t16:Value).cells.toList) r0.2.2).bind fun r1 =>
 (Z3A [(.slice none 0 0)] [(0,1,r1.1)]).bind fun t21 =>
 (bif (t21:Value).cells.toList.all Z0d then
 (stN (newB (newB (newB r1.2.1 (256*(c+1+1)+9) (t21:Value).cells.toList) (256*(c+1+1)+10) [(.pointer none)]) (256*(c+1+1)+11) [(.pointer none)]) 1 (ptrTo (256*(c+1+1)+10)) (ptrTo (256*(c+1+1)+4))).bind fun h3 =>
 (stN h3 1 (ptrTo (256*(c+1+1)+11)) (ptrTo (256*(c+1+1)+9))).bind fun h5 =>
 (ldN h5 1 (ptrTo (256*c+0))).bind fun t23 =>
 (callF o 59 [t23] h5 (r1.2.2+1)).bind fun r6 =>
 (Z4X o 92 none [1,5,6] [] #[25] Z1c Z1b r6.1 [(ptrTo (256*c+0)),(ptrTo (256*(c+1+1)+10)),(ptrTo (256*(c+1+1)+11))] r6.2.1 r6.2.2 []).bind fun q7 =>
 cond (Z0x q7.1 .normal)
 ((ld1 q7.2.1 (ptrTo (256*(c+1+1)+10))).bind fun t90 =>
 (ld1 q7.2.1 (ptrTo (256*(c+1+1)+11))).bind fun t91 =>
 (Z09 q7.2.1 q7.2.2.2).bind fun h8 =>
 some ⟨.ret,[.tuple #[t90,t91]],h8,(q7.2.2.1+1),[]⟩)
 (none)
 else none)
 else none)
 else none)
theorem Zfj (o:Orc H) (t0:Value) (h:H) (c:Nat):jx P o 92 none f44_c (Z0j (List.range 1) [t0]) h c [] (Kfn P Try.f44.results.toList)=ZiM o t0 h c:=by kernel_rfl
theorem f44_go {t0:Value} {h:FH} {c:Nat} {df:List Nat} {r:Rt FH} (e:ZiM G t0 h c=some r):G (.fn 44) [t0] h c df=some r:=Z0h (a:=Zd5) bk_44 rfl (fun args h c=>by cases args <;> rfl) rfl ((Zfj G t0 h c).trans e)
theorem ZgC {t25 t1 t5 t6:Value} {l:Nat} {h:FH} {c:Nat} {df:List Nat} {r:Rt FH} (e:Z35 G l t25 t1 t5 t6 h c=some r):G (.rnd 92 [1,5,6] [] [25] l Z1c Z1b) [t25,t1,t5,t6] h c df=some r:=Zay ((Z6t G l t25 t1 t5 t6 h c).trans e)
noncomputable def Z4f (o:Orc H) (rd:Option Nat) (t0 t3 t9 t10:Value) (h:H) (c:Nat) (df:List Nat):Option (Rt H) :=
 (Z00 P .lss 3 t10 t9).bind fun t11 =>
 Z08 t11
 ((callF o 46 [t0,t10] h (c+1+1+1)).bind fun r0 =>
 (Z00 P .eql 3 r0.1 t10).bind fun t17 =>
 (Z08 t17
  ((Z4Y [(.int .i64 0)] [(0,1,t10)]).bind fun r1 =>
  (Z9h (newB r0.2.1 (256*r0.2.2+2) r1) (256*r0.2.2+3) 1 8 t3 (.slice (some ⟨(256*r0.2.2+2),0,none⟩) 1 1)).bind fun r2 =>
  some ⟨.normal,[t0,r2.1,t9,t10],r2.2,(r0.2.2+1),df⟩)
  (some ⟨.normal,[t0,t3,t9,t10],r0.2.1,r0.2.2,df⟩):Option (Rt H)).bind fun r4 =>
 cond (Z0x r4.e .normal)
  ((Z00 P .add 3 (r4.v 3) (.int .i64 1)).bind fun t22 =>
  some ⟨.normal,[r4.v 0,r4.v 1,r4.v 2,t22],r4.h,(r4.c+1),r4.df⟩)
  (none))
 (some ⟨(.exit 0),[t0,t3,t9,t10],h,(c+1),df⟩)
theorem Z4M (o:Orc H) (rd:Option Nat) (t0 t3 t9 t10:Value) (h:H) (c:Nat) (df:List Nat):jx P o 24 rd Z33 (Z0j [0,3,9,10] [t0,t3,t9,t10]) h c df (Klp [0,3,9,10])=Z4f o rd t0 t3 t9 t10 h c df:=by kernel_rfl
noncomputable def ZiL (o:Orc H) (t0:Value) (h:H) (c:Nat):Option (Rt H) :=
 (Z0s t0).bind fun t6 =>
 (Z04 t6 0).bind fun t7 =>
 (ld1 h t7).bind fun t8 =>
 (Z1B t8).bind fun t9 =>
 (o (Z9W none) [t0,(.slice none 0 0),t9,(.int .i64 0)] h (c+1+1+1) []).bind fun r0 =>
 cond (Z0x r0.e (.exit 0))
 ((Z09 r0.h r0.df).bind fun h1 =>
 some ⟨.ret,[r0.v 1],h1,(r0.c+1),[]⟩)
 (none)
theorem Zfi (o:Orc H) (t0:Value) (h:H) (c:Nat):jx P o 24 none f45_c (Z0j (List.range 1) [t0]) h c [] (Kfn P Try.f45.results.toList)=ZiL o t0 h c:=by kernel_rfl
theorem f45_go {t0:Value} {h:FH} {c:Nat} {df:List Nat} {r:Rt FH} (e:ZiL G t0 h c=some r):G (.fn 45) [t0] h c df=some r:=Z0h (a:=Zd4) bk_45 rfl (fun args h c=>by cases args <;> rfl) rfl ((Zfi G t0 h c).trans e)
noncomputable def Z5t (o:Orc H) (rd:Option Nat) (t0 t1:Value) (h:H) (c:Nat) (df:List Nat):Option (Rt H) :=
 (Z0s t0).bind fun t6 =>
 (Z04 t6 0).bind fun t7 =>
 (ld1 h t7).bind fun t8 =>
 (ixS 1 t8 t1).bind fun t10 =>
 (ld1 h t10).bind fun t11 =>
 (Z00 P .neq 3 t11 t1).bind fun t13 =>
 Z08 t13
 ((Z0s t0).bind fun t15 =>
 (Z04 t15 0).bind fun t16 =>
 (ld1 h t16).bind fun t17 =>
 (ixS 1 t17 t1).bind fun t19 =>
 (ld1 h t19).bind fun t20 =>
 some ⟨.normal,[t0,t20],h,(c+1+1),df⟩)
 (some ⟨(.exit 0),[t0,t1],h,(c+1),df⟩)
theorem Z6s (o:Orc H) (rd:Option Nat) (t0 t1:Value) (h:H) (c:Nat) (df:List Nat):jx P o 22 rd Z32 (Z0j [0,1] [t0,t1]) h c df (Klp [0,1])=Z5t o rd t0 t1 h c df:=by kernel_rfl
noncomputable def ZiK (o:Orc H) (t0 t1:Value) (h:H) (c:Nat):Option (Rt H) :=
 (o (Z9V none) [t0,t1] h (c+1) []).bind fun r0 =>
 cond (Z0x r0.e (.exit 0))
 ((Z09 r0.h r0.df).bind fun h1 =>
 some ⟨.ret,[r0.v 1],h1,(r0.c+1),[]⟩)
 (none)
theorem Zfh (o:Orc H) (t0 t1:Value) (h:H) (c:Nat):jx P o 22 none f46_c (Z0j (List.range 2) [t0,t1]) h c [] (Kfn P Try.f46.results.toList)=ZiK o t0 t1 h c:=by kernel_rfl
theorem f46_go {t0 t1:Value} {h:FH} {c:Nat} {df:List Nat} {r:Rt FH} (e:ZiK G t0 t1 h c=some r):G (.fn 46) [t0,t1] h c df=some (gcR h c [] r):=Z0h (a:=Zd3) bk_46 rfl (fun args h c=>by cases args <;> rfl) rfl ((Zfh G t0 t1 h c).trans e)

variable {H:Type} [HeapC H]
noncomputable def Z4d (o:Orc H) (rd:Option Nat) (t2 t4 t7 t15 t16 t17 t35 t36:Value) (h:H) (c:Nat) (df:List Nat):Option (Rt H) :=
 (Z00 P .lss 3 t36 t35).bind fun t37 =>
 Z08 t37
 ((ld1 h t7).bind fun t39 =>
 (Z00 P .mul 3 (.int .i64 7) t36).bind fun t41 =>
 (Z00 P .add 3 t41 (.int .i64 4)).bind fun t42 =>
 (Z00 P .mul 3 (.int .i64 7) t36).bind fun t44 =>
 (Z00 P .add 3 t44 (.int .i64 7)).bind fun t45 =>
 (slS h 1 t39 (some t42) (some t45) none).bind fun t46 =>
 (callF o 56 [t46] h (c+1+1+1)).bind fun r0 =>
 (Z1t .not r0.1).bind fun t48 =>
 Z08 t48
  ((stN r0.2.1 1 t4 (.int .i64 130)).bind fun h2 =>
  some ⟨.ret,[t2,t4,t7,t15,t16,t17,t35,t36],h2,(r0.2.2+1),df⟩)
  ((Z00 P .add 3 t36 (.int .i64 1)).bind fun t49 =>
  some ⟨.normal,[t2,t4,t7,t15,t16,t17,t35,t49],r0.2.1,(r0.2.2+1),df⟩))
 (some ⟨(.exit 2),[t2,t4,t7,t15,t16,t17,t35,t36],h,(c+1),df⟩)
theorem Z4K (o:Orc H) (rd:Option Nat) (t2 t4 t7 t15 t16 t17 t35 t36:Value) (h:H) (c:Nat) (df:List Nat):jx P o 71 rd Z2Z (Z0j [2,4,7,15,16,17,35,36] [t2,t4,t7,t15,t16,t17,t35,t36]) h c df (Klp [2,4,7,15,16,17,35,36])=Z4d o rd t2 t4 t7 t15 t16 t17 t35 t36 h c df:=by kernel_rfl
noncomputable def Z31 (o:Orc H) (l:Nat) (t52 t4 t7:Value) (h:H) (c:Nat):Option (Rt H) :=
 (stN (newB h (256*c+0) [(.int .i64 0),(.int .i64 0),(.int .i64 0),(.int .i64 0),(.int .i64 0),(.int .i64 0)]) 6 (ptrTo (256*c+0)) t52).bind fun h1 =>
 (Z1R h1 l).bind fun h2 =>
 (ld1 h2 t7).bind fun t53 =>
 (Z04 (ptrTo (256*c+0)) 0).bind fun t54 =>
 (ld1 h2 t54).bind fun t55 =>
 (Z04 (ptrTo (256*c+0)) 1).bind fun t56 =>
 (ld1 h2 t56).bind fun t57 =>
 (Z04 (ptrTo (256*c+0)) 2).bind fun t58 =>
 (ld1 h2 t58).bind fun t59 =>
 (callF o 50 [t53,t55,t57,t59] h2 (c+1+1)).bind fun r3 =>
 (ld1 r3.2.1 t7).bind fun t61 =>
 (Z04 (ptrTo (256*c+0)) 3).bind fun t62 =>
 (ld1 r3.2.1 t62).bind fun t63 =>
 (Z04 (ptrTo (256*c+0)) 4).bind fun t64 =>
 (ld1 r3.2.1 t64).bind fun t65 =>
 (Z04 (ptrTo (256*c+0)) 5).bind fun t66 =>
 (ld1 r3.2.1 t66).bind fun t67 =>
 (callF o 50 [t61,t63,t65,t67] r3.2.1 r3.2.2).bind fun r4 =>
 (Z00 P .neq 3 r3.1 r4.1).bind fun t69 =>
 (bif (Z1o (Z2A t7) h2 r3.2.1 && (Z1o (Z2A t62) h2 r3.2.1 && (Z1o (Z2A t64) h2 r3.2.1 && (Z1o (Z2A t66) h2 r3.2.1 && true)))) then
 Z08 t69
 ((stN r4.2.1 1 t4 (.int .i64 130)).bind fun h6 =>
 (Z0A h6 l .done (some .ret)).bind fun h7 =>
 cond (List.isEmpty ([]:List Nat)) (some ⟨.ret,[.bool false],h7,(r4.2.2+1),[]⟩) none)
 ((Z0A r4.2.1 l .ready none).bind fun h8 =>
 cond (List.isEmpty ([]:List Nat)) (some ⟨.ret,[.bool true],h8,r4.2.2,[]⟩) none)
 else none)
theorem Z6r (o:Orc H) (l:Nat) (t52 t4 t7:Value) (h:H) (c:Nat):jx P o 71 (some l) Z1a (Z0j ([52]++[4,7]) [t52,t4,t7]) h c [] (Zmq P o 71 l Z19)=Z31 o l t52 t4 t7 h c:=by kernel_rfl
noncomputable def Z4e (o:Orc H) (rd:Option Nat) (t2 t4 t15 t16 t17:Value) (h:H) (c:Nat) (df:List Nat):Option (Rt H) :=
 (Z00 P .lss 3 t17 t16).bind fun t18 =>
 Z08 t18
 ((ixS 1 t15 t17).bind fun t19 =>
 (ld1 h t19).bind fun t20 =>
 (stN (newB h (256*(c+1)+2) [(.slice none 0 0)]) 1 (ptrTo (256*(c+1)+2)) t20).bind fun h1 =>
 (ld1 h1 (ptrTo (256*(c+1)+2))).bind fun t21 =>
 (Z1B t21).bind fun t22 =>
 (Z04 t2 0).bind fun t23 =>
 (ld1 h1 t23).bind fun t24 =>
 (Z1B t24).bind fun t25 =>
 (Z00 P .mul 3 (.int .i64 7) t25).bind fun t26 =>
 (Z00 P .neq 3 t22 t26).bind fun t27 =>
 (gd t27 false h1 (c+1+1+1) (ld1 h1 (ptrTo (256*(c+1)+2)))).bind fun r2 =>
 (gg t27 false r2.2.1 r2.2.2 (callF o 55 [r2.1] r2.2.1 r2.2.2)).bind fun r3 =>
 (gd t27 false r3.2.1 r3.2.2 (Z1t .not r3.1)).bind fun r4 =>
 (Z0v t27 (.bool true) r4.1).bind fun t32 =>
 Z08 t32
  ((stN r4.2.1 1 t4 (.int .i64 130)).bind fun h6 =>
  some ⟨.ret,[t2,t4,t15,t16,t17],h6,(r4.2.2+1),df⟩)
  ((Z04 t2 0).bind fun t33 =>
  (ld1 r4.2.1 t33).bind fun t34 =>
  (Z1B t34).bind fun t35 =>
  (o (Z9U rd) [t2,t4,(ptrTo (256*(c+1)+2)),t15,t16,t17,t35,(.int .i64 0)] r4.2.1 (r4.2.2+1) df).bind fun r7 =>
  cond (Z0x r7.e (.exit 2))
   ((ldN r7.h 1 (r7.v 0)).bind fun t50 =>
   (callF o 59 [t50] r7.h (r7.c+1)).bind fun r8 =>
   (Z4X o 71 rd [4,7] [] #[52] Z1a Z19 r8.1 [r7.v 1,r7.v 2] r8.2.1 r8.2.2 r7.df).bind fun q9 =>
   cond (Z0x q9.1 .normal)
    ((Z00 P .add 3 (r7.v 5) (.int .i64 1)).bind fun t70 =>
    some ⟨.normal,[r7.v 0,r7.v 1,r7.v 3,r7.v 4,t70],q9.2.1,(q9.2.2.1+1),q9.2.2.2⟩)
    (cond (Z0x q9.1 .ret)
     (some ⟨.ret,[r7.v 0,r7.v 1,r7.v 3,r7.v 4,r7.v 5],q9.2.1,q9.2.2.1,q9.2.2.2⟩)
     (none)))
   (cond (Z0x r7.e .ret)
    (some ⟨.ret,[r7.v 0,r7.v 1,r7.v 3,r7.v 4,r7.v 5],r7.h,r7.c,r7.df⟩)
    (none))))
 (some ⟨(.exit 0),[t2,t4,t15,t16,t17],h,(c+1),df⟩)
theorem Z4L (o:Orc H) (rd:Option Nat) (t2 t4 t15 t16 t17:Value) (h:H) (c:Nat) (df:List Nat):jx P o 71 rd Z30 (Z0j [2,4,15,16,17] [t2,t4,t15,t16,t17]) h c df (Klp [2,4,15,16,17])=Z4e o rd t2 t4 t15 t16 t17 h c df:=by kernel_rfl
noncomputable def ZiI (o:Orc H) (t0 t1:Value) (h:H) (c:Nat):Option (Rt H) :=
 (bif (t0:Value).cells.toList.all Z0d then
 (ldN (newB (newB h (256*c+0) (t0:Value).cells.toList) (256*c+1) [(.int .i64 0)]) 1 (ptrTo (256*c+0))).bind fun t10 =>
 (callF o 43 [t10] (newB (newB h (256*c+0) (t0:Value).cells.toList) (256*c+1) [(.int .i64 0)]) (c+1+1)).bind fun r0 =>
 (Z00 P .neq 27 r0.1 (.int .i64 0)).bind fun t13 =>
 Z08 t13
 ((stN r0.2.1 1 (ptrTo (256*c+1)) r0.1).bind fun h2 =>
 (ld1 h2 (ptrTo (256*c+1))).bind fun v3 =>
 some ⟨.ret,[v3],h2,(r0.2.2+1+1),[]⟩)
 ((Z1B t1).bind fun t16 =>
 (o (Z76 none) [(ptrTo (256*c+0)),(ptrTo (256*c+1)),t1,t16,(.int .i64 0)] r0.2.1 (r0.2.2+1+1) []).bind fun r4 =>
 cond (Z0x r4.e (.exit 0))
  ((stN r4.h 1 (r4.v 1) (.int .i64 0)).bind fun h8 =>
  (Z09 h8 r4.df).bind fun h9 =>
  (ld1 h9 (r4.v 1)).bind fun v10 =>
  some ⟨.ret,[v10],h9,(r4.c+1),[]⟩)
  (cond (Z0x r4.e .ret)
   ((Z09 r4.h r4.df).bind fun h5 =>
   (ld1 h5 (r4.v 1)).bind fun v6 =>
   some ⟨.ret,[v6],h5,r4.c,[]⟩)
   (none)))
 else none)
theorem Zfg (o:Orc H) (t0 t1:Value) (h:H) (c:Nat):jx P o 71 none f47_c (Z0j (List.range 2) [t0,t1]) h c [] (Kfn P Try.f47.results.toList)=ZiI o t0 t1 h c:=by kernel_rfl
theorem f47_go {t0 t1:Value} {h:FH} {c:Nat} {df:List Nat} {r:Rt FH} (e:ZiI G t0 t1 h c=some r):G (.fn 47) [t0,t1] h c df=some (gcR h c [] r):=Z0h (a:=Zd2) bk_47 rfl (fun args h c=>by cases args <;> rfl) rfl ((Zfg G t0 t1 h c).trans e)
theorem ZgB {t52 t4 t7:Value} {l:Nat} {h:FH} {c:Nat} {df:List Nat} {r:Rt FH} (e:Z31 G l t52 t4 t7 h c=some r):G (.rnd 71 [4,7] [] [52] l Z1a Z19) [t52,t4,t7] h c df=some r:=Zay ((Z6r G l t52 t4 t7 h c).trans e)
noncomputable def Z4c (o:Orc H) (rd:Option Nat) (t3 t6 t7 t8:Value) (h:H) (c:Nat) (df:List Nat):Option (Rt H) :=
 (Z00 P .lss 3 t8 t7).bind fun t9 =>
 Z08 t9
 ((ixS 1 t6 t8).bind fun t10 =>
 (ld1 h t10).bind fun t11 =>
 (Z00 P .add 3 t3 t11).bind fun t14 =>
 (Z00 P .add 3 t8 (.int .i64 1)).bind fun t15 =>
 some ⟨.normal,[t14,t6,t7,t15],h,(c+1+1+1+1),df⟩)
 (some ⟨(.exit 0),[t3,t6,t7,t8],h,(c+1),df⟩)
theorem Z4J (o:Orc H) (rd:Option Nat) (t3 t6 t7 t8:Value) (h:H) (c:Nat) (df:List Nat):jx P o 17 rd Z2Y (Z0j [3,6,7,8] [t3,t6,t7,t8]) h c df (Klp [3,6,7,8])=Z4c o rd t3 t6 t7 t8 h c df:=by kernel_rfl
noncomputable def ZiH (o:Orc H) (t0:Value) (h:H) (c:Nat):Option (Rt H) :=
 (Z1B t0).bind fun t7 =>
 (o (Z9T none) [(.int .i64 0),t0,t7,(.int .i64 0)] h (c+1+1+1) []).bind fun r0 =>
 cond (Z0x r0.e (.exit 0))
 ((Z09 r0.h r0.df).bind fun h1 =>
 some ⟨.ret,[r0.v 0],h1,(r0.c+1),[]⟩)
 (none)
theorem Zff (o:Orc H) (t0:Value) (h:H) (c:Nat):jx P o 17 none f48_c (Z0j (List.range 1) [t0]) h c [] (Kfn P Try.f48.results.toList)=ZiH o t0 h c:=by kernel_rfl
theorem f48_go {t0:Value} {h:FH} {c:Nat} {df:List Nat} {r:Rt FH} (e:ZiH G t0 h c=some r):G (.fn 48) [t0] h c df=some (gcR h c [] r):=Z0h (a:=Zd1) bk_48 rfl (fun args h c=>by cases args <;> rfl) rfl ((Zff G t0 h c).trans e)
noncomputable def Z4b (o:Orc H) (rd:Option Nat) (t1 t7 t19 t20 t21:Value) (h:H) (c:Nat) (df:List Nat):Option (Rt H) :=
 (Z00 P .lss 3 t21 t20).bind fun t22 =>
 Z08 t22
 ((ixS 1 t19 t21).bind fun t23 =>
 (ld1 h t23).bind fun t24 =>
 (Z00 P .quo 3 t24 (.int .i64 6)).bind fun t28 =>
 (Z00 P .rem 3 t24 (.int .i64 6)).bind fun t30 =>
 (callF o 74 [t1,t28,t30] h (c+1+1+1)).bind fun r0 =>
 (Z4Y [(.int .i64 0)] [(0,1,r0.1)]).bind fun r1 =>
 (Z9h (newB r0.2.1 (256*(c+1+1)+7) r1) (256*(c+1+1)+8) 1 8 t7 (.slice (some ⟨(256*(c+1+1)+7),0,none⟩) 1 1)).bind fun r2 =>
 (Z00 P .add 3 t21 (.int .i64 1)).bind fun t34 =>
 some ⟨.normal,[t1,r2.1,t19,t20,t34],r2.2,(r0.2.2+1),df⟩)
 (some ⟨(.exit 0),[t1,t7,t19,t20,t21],h,(c+1),df⟩)
theorem Z4I (o:Orc H) (rd:Option Nat) (t1 t7 t19 t20 t21:Value) (h:H) (c:Nat) (df:List Nat):jx P o 36 rd Z2X (Z0j [1,7,19,20,21] [t1,t7,t19,t20,t21]) h c df (Klp [1,7,19,20,21])=Z4b o rd t1 t7 t19 t20 t21 h c df:=by kernel_rfl
noncomputable def ZiG (o:Orc H) (t0 t1:Value) (h:H) (c:Nat):Option (Rt H) :=
 (bif (t0:Value).cells.toList.all Z0d then
 (ldN (newB h (256*c+0) (t0:Value).cells.toList) 1 (ptrTo (256*c+0))).bind fun t11 =>
 (callF o 44 [t11] (newB h (256*c+0) (t0:Value).cells.toList) (c+1+1)).bind fun r0 =>
 (Z2q r0.1 0).bind fun t13 =>
 (Z2q r0.1 1).bind fun t14 =>
 (Z4Y [] []).bind fun r1 =>
 (Z0s t14).bind fun t17 =>
 (Z04 t17 0).bind fun t18 =>
 (callF o 45 [t18] (newB r0.2.1 (256*r0.2.2+0) r1) (r0.2.2+1+1)).bind fun r2 =>
 (Z1B r2.1).bind fun t20 =>
 (o (Z9S none) [t1,(.slice (some ⟨(256*r0.2.2+0),0,none⟩) 0 0),r2.1,t20,(.int .i64 0)] r2.2.1 r2.2.2 []).bind fun r3 =>
 cond (Z0x r3.e (.exit 0))
 ((Z09 r3.h r3.df).bind fun h4 =>
 some ⟨.ret,[r3.v 1],h4,(r3.c+1),[]⟩)
 (none)
 else none)
theorem Zfe (o:Orc H) (t0 t1:Value) (h:H) (c:Nat):jx P o 36 none f49_c (Z0j (List.range 2) [t0,t1]) h c [] (Kfn P Try.f49.results.toList)=ZiG o t0 t1 h c:=by kernel_rfl
theorem f49_go {t0 t1:Value} {h:FH} {c:Nat} {df:List Nat} {r:Rt FH} (e:ZiG G t0 t1 h c=some r):G (.fn 49) [t0,t1] h c df=some r:=Z0h (a:=Zd0) bk_49 rfl (fun args h c=>by cases args <;> rfl) rfl ((Zfe G t0 t1 h c).trans e)
noncomputable def ZiF (o:Orc H) (t0 t1 t2 t3:Value) (h:H) (c:Nat):Option (Rt H) :=
 (Z00 P .mul 3 (.int .i64 7) t1).bind fun t11 =>
 (Z00 P .add 3 t11 t3).bind fun t13 =>
 (ixS 1 t0 t13).bind fun t14 =>
 (ld1 h t14).bind fun t15 =>
 (Z00 P .mul 3 (.int .i64 7) t1).bind fun t18 =>
 (Z00 P .add 3 t18 (.int .i64 4)).bind fun t19 =>
 (callF o 60 [] h (c+1+1)).bind fun r0 =>
 (ixV 4 true 4 r0.1 t3).bind fun t22 =>
 (ixV 4 false 1 t22 t2).bind fun t24 =>
 (Z00 P .add 3 t19 t24).bind fun t25 =>
 (ixS 1 t0 t25).bind fun t26 =>
 (ld1 r0.2.1 t26).bind fun t27 =>
 (Z00 P .add 3 t15 t27).bind fun t28 =>
 (bif (Z1o (Z2A t14) h r0.2.1 && true) then
 some ⟨.ret,[t28],r0.2.1,r0.2.2,[]⟩
 else none)
theorem Zfa (o:Orc H) (t0 t1 t2 t3:Value) (h:H) (c:Nat):jx P o 29 none f50_c (Z0j (List.range 4) [t0,t1,t2,t3]) h c [] (Kfn P Try.f50.results.toList)=ZiF o t0 t1 t2 t3 h c:=by kernel_rfl
theorem f50_go {t0 t1 t2 t3:Value} {h:FH} {c:Nat} {df:List Nat} {r:Rt FH} (e:ZiF G t0 t1 t2 t3 h c=some r):G (.fn 50) [t0,t1,t2,t3] h c df=some (gcR h c [] r):=Z0h (a:=ZcZ) bk_50 rfl (fun args h c=>by cases args <;> rfl) rfl ((Zfa G t0 t1 t2 t3 h c).trans e)
noncomputable def Z74 (o:Orc H) (rd:Option Nat) (t0 t1 t2 t6 t7 t8:Value) (h:H) (c:Nat) (df:List Nat):Option (Rt H) :=
 (Z00 P .lss 3 t8 t2).bind fun t23 =>
 Z08 t23
 ((ixS 1 t0 t8).bind fun t28 =>
 (ld1 h t28).bind fun t29 =>
 (Z00 P .lss 3 t29 (.int .i64 0)).bind fun t30 =>
 (gd t30 false h (c+1+1) (some t0)).bind fun r0 =>
 (gd t30 false r0.2.1 r0.2.2 (some t8)).bind fun r1 =>
 (gd t30 false r1.2.1 r1.2.2 (ixS 1 r0.1 r1.1)).bind fun r2 =>
 (gd t30 false r2.2.1 r2.2.2 (ld1 r2.2.1 r2.1)).bind fun r3 =>
 (gd t30 false r3.2.1 r3.2.2 (some t2)).bind fun r4 =>
 (gd t30 false r4.2.1 r4.2.2 (Z00 P .geq 3 r3.1 r4.1)).bind fun r5 =>
 (Z0v t30 (.bool true) r5.1).bind fun t38 =>
 (gd t38 false r5.2.1 r5.2.2 (some t7)).bind fun r6 =>
 (gd t38 false r6.2.1 r6.2.2 (some t0)).bind fun r7 =>
 (gd t38 false r7.2.1 r7.2.2 (some t8)).bind fun r8 =>
 (gd t38 false r8.2.1 r8.2.2 (ixS 1 r7.1 r8.1)).bind fun r9 =>
 (gd t38 false r9.2.1 r9.2.2 (ld1 r9.2.1 r9.1)).bind fun r10 =>
 (gd t38 false r10.2.1 r10.2.2 (ixS 1 r6.1 r10.1)).bind fun r11 =>
 (gd t38 false r11.2.1 r11.2.2 (ld1 r11.2.1 r11.1)).bind fun r12 =>
 (Z0v t38 (.bool true) r12.1).bind fun t47 =>
 (gd t47 false r12.2.1 r12.2.2 (some t1)).bind fun r13 =>
 (gd t47 false r13.2.1 r13.2.2 (some t8)).bind fun r14 =>
 (gd t47 false r14.2.1 r14.2.2 (ixS 4 r13.1 r14.1)).bind fun r15 =>
 (gd t47 false r15.2.1 r15.2.2 (ldN r15.2.1 4 r15.1)).bind fun r16 =>
 (gg t47 false r16.2.1 r16.2.2 (callF o 41 [r16.1] r16.2.1 r16.2.2)).bind fun r17 =>
 (gd t47 false r17.2.1 r17.2.2 (Z1t .not r17.1)).bind fun r18 =>
 (Z0v t47 (.bool true) r18.1).bind fun t55 =>
 Z08 t55
  (some ⟨.ret,[t0,t1,t2,(.bool false),t7,t8],r18.2.1,(r18.2.2+1),df⟩)
  ((ixS 1 t0 t8).bind fun t59 =>
  (ld1 r18.2.1 t59).bind fun t60 =>
  (ixS 1 t7 t60).bind fun t61 =>
  (stN r18.2.1 1 t61 (.bool true)).bind fun h21 =>
  (Z00 P .add 3 t8 (.int .i64 1)).bind fun t25 =>
  some ⟨.normal,[t0,t1,t2,t6,t7,t25],h21,(r18.2.2+1+1),df⟩))
 (some ⟨(.exit 0),[t0,t1,t2,t6,t7,t8],h,(c+1),df⟩)
theorem Z6q (o:Orc H) (rd:Option Nat) (t0 t1 t2 t6 t7 t8:Value) (h:H) (c:Nat) (df:List Nat):jx P o 62 rd Z73 (Z0j [0,1,2,6,7,8] [t0,t1,t2,t6,t7,t8]) h c df (Klp [0,1,2,6,7,8])=Z74 o rd t0 t1 t2 t6 t7 t8 h c df:=by kernel_rfl
noncomputable def ZnO (o:Orc H) (t0 t1 t2:Value) (h:H) (c:Nat):Option (Rt H) :=
 (Z1B t0).bind fun t10 =>
 (Z00 P .neq 3 t10 t2).bind fun t12 =>
 (gd t12 false h (c+1+1) (some t1)).bind fun r0 =>
 (gg t12 false r0.2.1 r0.2.2 (((Z1B r0.1).bind fun v=>some (v,r0.2.1)).bind fun r=>some (r.1,r.2,r0.2.2))).bind fun r1 =>
 (gd t12 false r1.2.1 r1.2.2 (some t2)).bind fun r2 =>
 (gd t12 false r2.2.1 r2.2.2 (Z00 P .neq 3 r1.1 r2.1)).bind fun r3 =>
 (Z0v t12 (.bool true) r3.1).bind fun t18 =>
 Z08 t18
 (some ⟨.ret,[(.bool false)],r3.2.1,(r3.2.2+1),[]⟩)
 ((mkS 1 1 [(.bool false)] t2 t2).bind fun r4 =>
 (o (Z9R none) [t0,t1,t2,(.bool false),(.slice (some ⟨(256*r3.2.2+1),0,none⟩) r4.2.1 r4.2.2),(.int .i64 0)] (newB r3.2.1 (256*r3.2.2+1) r4.1) (r3.2.2+1+1) []).bind fun r5 =>
 cond (Z0x r5.e (.exit 0))
  ((Z09 r5.h r5.df).bind fun h7 =>
  some ⟨.ret,[(.bool true)],h7,(r5.c+1),[]⟩)
  (cond (Z0x r5.e .ret)
   ((Z09 r5.h r5.df).bind fun h6 =>
   some ⟨.ret,[r5.v 3],h6,r5.c,[]⟩)
   (none)))
theorem ZlF (o:Orc H) (t0 t1 t2:Value) (h:H) (c:Nat):jx P o 62 none f51_c (Z0j (List.range 3) [t0,t1,t2]) h c [] (Kfn P Try.f51.results.toList)=ZnO o t0 t1 t2 h c:=by kernel_rfl
theorem f51_go {t0 t1 t2:Value} {h:FH} {c:Nat} {df:List Nat} {r:Rt FH} (e:ZnO G t0 t1 t2 h c=some r):G (.fn 51) [t0,t1,t2] h c df=some (gcR h c [] r):=Z0h (a:=ZlE) bk_51 rfl (fun args h c=>by cases args <;> rfl) rfl ((ZlF G t0 t1 t2 h c).trans e)
noncomputable def Z4a (o:Orc H) (rd:Option Nat) (t2 t3 t4 t5 t6:Value) (h:H) (c:Nat) (df:List Nat):Option (Rt H) :=
 (Z00 P .lss 3 t6 (.int .i64 4)).bind fun t17 =>
 Z08 t17
 ((ixA 4 1 t3 t6).bind fun t22 =>
 (ld1 h t22).bind fun t23 =>
 (ixA 4 1 t2 t23).bind fun t24 =>
 (ld1 h t24).bind fun t25 =>
 (ixA 4 1 t5 t6).bind fun t26 =>
 (stN h 1 t26 t25).bind fun h1 =>
 (Z00 P .add 3 t6 (.int .i64 1)).bind fun t19 =>
 some ⟨.normal,[t2,t3,t4,t5,t19],h1,(c+1+1+1),df⟩)
 (some ⟨(.exit 0),[t2,t3,t4,t5,t6],h,(c+1),df⟩)
theorem Z6p (o:Orc H) (rd:Option Nat) (t2 t3 t4 t5 t6:Value) (h:H) (c:Nat) (df:List Nat):jx P o 28 rd Z72 (Z0j [2,3,4,5,6] [t2,t3,t4,t5,t6]) h c df (Klp [2,3,4,5,6])=Z4a o rd t2 t3 t4 t5 t6 h c df:=by kernel_rfl
noncomputable def ZnN (o:Orc H) (t0 t1:Value) (h:H) (c:Nat):Option (Rt H) :=
 (bif (t0:Value).cells.toList.all Z0d then
 (bif (t1:Value).cells.toList.all Z0d then
 (ldN (newB (newB (newB (newB h (256*c+0) (t0:Value).cells.toList) (256*c+1) (t1:Value).cells.toList) (256*c+2) [(.int .i64 0),(.int .i64 0),(.int .i64 0),(.int .i64 0)]) (256*(c+1)+0) [(.int .i64 0),(.int .i64 0),(.int .i64 0),(.int .i64 0)]) 4 (ptrTo (256*c+0))).bind fun t7 =>
 (callF o 41 [t7] (newB (newB (newB (newB h (256*c+0) (t0:Value).cells.toList) (256*c+1) (t1:Value).cells.toList) (256*c+2) [(.int .i64 0),(.int .i64 0),(.int .i64 0),(.int .i64 0)]) (256*(c+1)+0) [(.int .i64 0),(.int .i64 0),(.int .i64 0),(.int .i64 0)]) (c+1+1+1)).bind fun r0 =>
 (Z1t .not r0.1).bind fun t9 =>
 (gd t9 false r0.2.1 r0.2.2 (ldN r0.2.1 4 (ptrTo (256*c+1)))).bind fun r1 =>
 (gg t9 false r1.2.1 r1.2.2 (callF o 41 [r1.1] r1.2.1 r1.2.2)).bind fun r2 =>
 (gd t9 false r2.2.1 r2.2.2 (Z1t .not r2.1)).bind fun r3 =>
 (Z0v t9 (.bool true) r3.1).bind fun t14 =>
 Z08 t14
 ((ldN r3.2.1 4 (ptrTo (256*(c+1)+0))).bind fun t15 =>
 (stN r3.2.1 4 (ptrTo (256*c+2)) t15).bind fun h5 =>
 (ldN h5 4 (ptrTo (256*c+2))).bind fun v6 =>
 some ⟨.ret,[v6],h5,(r3.2.2+1),[]⟩)
 ((o (Z49 none) [(ptrTo (256*c+0)),(ptrTo (256*c+1)),(ptrTo (256*c+2)),(ptrTo (256*(c+1)+0)),(.int .i64 0)] r3.2.1 (r3.2.2+1) []).bind fun r7 =>
 cond (Z0x r7.e (.exit 0))
  ((ldN r7.h 4 (r7.v 3)).bind fun t27 =>
  (stN r7.h 4 (r7.v 2) t27).bind fun h9 =>
  (Z09 h9 r7.df).bind fun h10 =>
  (ldN h10 4 (r7.v 2)).bind fun v11 =>
  some ⟨.ret,[v11],h10,(r7.c+1),[]⟩)
  (none))
 else none)
 else none)
theorem ZlD (o:Orc H) (t0 t1:Value) (h:H) (c:Nat):jx P o 28 none f52_c (Z0j (List.range 2) [t0,t1]) h c [] (Kfn P Try.f52.results.toList)=ZnN o t0 t1 h c:=by kernel_rfl
theorem f52_go {t0 t1:Value} {h:FH} {c:Nat} {df:List Nat} {r:Rt FH} (e:ZnN G t0 t1 h c=some r):G (.fn 52) [t0,t1] h c df=some (gcR h c [] r):=Z0h (a:=ZlC) bk_52 rfl (fun args h c=>by cases args <;> rfl) rfl ((ZlD G t0 t1 h c).trans e)
theorem ZgA {rd:Option Nat} {t2 t3 t4 t5 t6:Value} {h:FH} {c:Nat} {df:List Nat} {q r:Rt FH} (e:Z4a G rd t2 t3 t4 t5 t6 h c df=some q) (hq:q.e = .normal) (k:G (Z49 rd) q.vs (gcR h c df q).h (gcR h c df q).c q.df=some r):G (Z49 rd) [t2,t3,t4,t5,t6] h c df=some r:=Z0J ((Z6p G rd t2 t3 t4 t5 t6 h c df).trans e) hq k
theorem Zgz {rd:Option Nat} {t2 t3 t4 t5 t6:Value} {h:FH} {c:Nat} {df:List Nat} {q:Rt FH} (e:Z4a G rd t2 t3 t4 t5 t6 h c df=some q) (hq:q.e ≠ .normal):G (Z49 rd) [t2,t3,t4,t5,t6] h c df=some (gcR h c df q):=Z0K ((Z6p G rd t2 t3 t4 t5 t6 h c df).trans e) hq
noncomputable def ZnM (o:Orc H) (t0:Value) (h:H) (c:Nat):Option (Rt H) :=
 (Z00 P .eql 34 t0 (.slice none 0 0)).bind fun t4 =>
 Z08 t4
 (some ⟨.ret,[(.slice none 0 0)],h,(c+1+1+1),[]⟩)
 ((Z4Y [] []).bind fun r0 =>
 (Z9h (newB h (256*(c+1+1)+0) r0) (256*(c+1+1)+2) 1 8 (.slice (some ⟨(256*(c+1+1)+0),0,none⟩) 0 0) t0).bind fun r1 =>
 some ⟨.ret,[r1.1],r1.2,(c+1+1+1),[]⟩)
theorem ZlB (o:Orc H) (t0:Value) (h:H) (c:Nat):jx P o 8 none f53_c (Z0j (List.range 1) [t0]) h c [] (Kfn P Try.f53.results.toList)=ZnM o t0 h c:=by kernel_rfl
noncomputable def ZiD (o:Orc H) (t0:Value) (h:H) (c:Nat):Option (Rt H) :=
 (callF o 75 [t0,(.func (.func 76) #[] #[])] h (c+1+1)).bind fun r0 =>
 (Z1t .not r0.1).bind fun t5 =>
 some ⟨.ret,[t5],r0.2.1,r0.2.2,[]⟩
theorem Zf9 (o:Orc H) (t0:Value) (h:H) (c:Nat):jx P o 6 none f55_c (Z0j (List.range 1) [t0]) h c [] (Kfn P Try.f55.results.toList)=ZiD o t0 h c:=by kernel_rfl
theorem f55_go {t0:Value} {h:FH} {c:Nat} {df:List Nat} {r:Rt FH} (e:ZiD G t0 h c=some r):G (.fn 55) [t0] h c df=some (gcR h c [] r):=Z0h (a:=ZcY) bk_55 rfl (fun args h c=>by cases args <;> rfl) rfl ((Zf9 G t0 h c).trans e)
noncomputable def Z48 (o:Orc H) (rd:Option Nat) (t3 t6 t7 t8:Value) (h:H) (c:Nat) (df:List Nat):Option (Rt H) :=
 (Z00 P .lss 3 t8 t7).bind fun t9 =>
 Z08 t9
 ((ixS 1 t6 t8).bind fun t10 =>
 (ld1 h t10).bind fun t11 =>
 (Z00 P .neq 3 t11 (.int .i64 0)).bind fun t13 =>
 (Z08 t13
  ((Z00 P .add 3 t3 (.int .i64 1)).bind fun t15 =>
  some ⟨.normal,[t15,t6,t7,t8],h,(c+1+1+1+1),df⟩)
  (some ⟨.normal,[t3,t6,t7,t8],h,(c+1+1+1),df⟩):Option (Rt H)).bind fun r1 =>
 cond (Z0x r1.e .normal)
  ((Z00 P .add 3 (r1.v 3) (.int .i64 1)).bind fun t16 =>
  some ⟨.normal,[r1.v 0,r1.v 1,r1.v 2,t16],r1.h,(r1.c+1),r1.df⟩)
  (none))
 (some ⟨(.exit 0),[t3,t6,t7,t8],h,(c+1),df⟩)
theorem Z4H (o:Orc H) (rd:Option Nat) (t3 t6 t7 t8:Value) (h:H) (c:Nat) (df:List Nat):jx P o 19 rd Z2W (Z0j [3,6,7,8] [t3,t6,t7,t8]) h c df (Klp [3,6,7,8])=Z48 o rd t3 t6 t7 t8 h c df:=by kernel_rfl
noncomputable def ZiC (o:Orc H) (t0:Value) (h:H) (c:Nat):Option (Rt H) :=
 (Z1B t0).bind fun t7 =>
 (o (Z9Q none) [(.int .i64 0),t0,t7,(.int .i64 0)] h (c+1+1+1) []).bind fun r0 =>
 cond (Z0x r0.e (.exit 0))
 ((Z00 P .leq 3 (r0.v 0) (.int .i64 1)).bind fun t18 =>
 (Z09 r0.h r0.df).bind fun h1 =>
 some ⟨.ret,[t18],h1,(r0.c+1),[]⟩)
 (none)
theorem Zf8 (o:Orc H) (t0:Value) (h:H) (c:Nat):jx P o 19 none f56_c (Z0j (List.range 1) [t0]) h c [] (Kfn P Try.f56.results.toList)=ZiC o t0 h c:=by kernel_rfl
theorem f56_go {t0:Value} {h:FH} {c:Nat} {df:List Nat} {r:Rt FH} (e:ZiC G t0 h c=some r):G (.fn 56) [t0] h c df=some (gcR h c [] r):=Z0h (a:=ZcX) bk_56 rfl (fun args h c=>by cases args <;> rfl) rfl ((Zf8 G t0 h c).trans e)

variable {H:Type} [HeapC H]
noncomputable def Z71 (o:Orc H) (rd:Option Nat) (t1 t2 t4 t5 t6 t7 t33 t34:Value) (h:H) (c:Nat) (df:List Nat):Option (Rt H) :=
 (Z00 P .lss 3 t34 t33).bind fun t35 =>
 Z08 t35
 ((Z00 P .mul 3 (.int .i64 7) t34).bind fun t39 =>
 (Z00 P .add 3 t39 (.int .i64 4)).bind fun t40 =>
 (slS h 1 t7 (some t40) none none).bind fun t41 =>
 (Z00 P .mul 3 (.int .i64 3) t34).bind fun t44 =>
 (Z00 P .mul 3 (.int .i64 3) t34).bind fun t46 =>
 (Z00 P .add 3 t46 (.int .i64 3)).bind fun t47 =>
 (slS h 1 t1 (some t44) (some t47) none).bind fun t48 =>
 (Z0L P h (256*(c+1+1)+12) .copy [34,34] [t41,t48]).bind fun r0 =>
 (Z00 P .add 3 t34 (.int .i64 1)).bind fun t50 =>
 some ⟨.normal,[t1,t2,t4,t5,t6,t7,t33,t50],r0.2,(c+1+1+1+1),df⟩)
 (some ⟨(.exit 0),[t1,t2,t4,t5,t6,t7,t33,t34],h,(c+1),df⟩)
theorem ZaU (o:Orc H) (rd:Option Nat) (t1 t2 t4 t5 t6 t7 t33 t34:Value) (h:H) (c:Nat) (df:List Nat):jx P o 200 rd Z2V (Z0j [1,2,4,5,6,7,33,34] [t1,t2,t4,t5,t6,t7,t33,t34]) h c df (Klp [1,2,4,5,6,7,33,34])=Z71 o rd t1 t2 t4 t5 t6 t7 t33 t34 h c df:=by kernel_rfl
noncomputable def Z6Y (o:Orc H) (rd:Option Nat) (t2 t4 t5 t7 t11 t14 t15 t16 t17 t18 t62 t63 t64 t93 t94:Value) (h:H) (c:Nat) (df:List Nat):Option (Rt H) :=
 (Z00 P .lss 3 t94 (.int .i64 4)).bind fun t95 =>
 Z08 t95
 (((ixV 4 true 5 t93 t94).bind fun t97 =>
  (stN (newB h (256*(c+1)+2) [(.int .i64 0),(.int .i64 0),(.int .i64 0),(.int .i64 0),(.int .i64 0)]) 5 (ptrTo (256*(c+1)+2)) t97).bind fun h1 =>
  (Z00 P .eql 3 t94 t18).bind fun t100 =>
  (gd t100 false h1 (c+1+1+1) (Z04 (ptrTo (256*(c+1)+2)) 0)).bind fun r2 =>
  (gd t100 false r2.2.1 r2.2.2 (ld1 r2.2.1 r2.1)).bind fun r3 =>
  (gd t100 false r3.2.1 r3.2.2 (Z00 P .lss 3 r3.1 (.int .i64 0))).bind fun r4 =>
  (Z0v t100 (.bool true) r4.1).bind fun t105 =>
  Z08 t105
   (some ⟨.normal,[t2,t4,t5,t7,t11,t14,t15,t16,t17,t18,t62,t63,t64,t93,t94],r4.2.1,r4.2.2,df⟩)
   ((Z04 (ptrTo (256*(c+1)+2)) 0).bind fun t106 =>
   (ld1 r4.2.1 t106).bind fun t107 =>
   (Z04 (ptrTo (256*(c+1)+2)) 1).bind fun t109 =>
   (ixA 4 1 t109 t18).bind fun t110 =>
   (ld1 r4.2.1 t110).bind fun t111 =>
   (Z04 (ptrTo (256*(c+1)+2)) 1).bind fun t113 =>
   (ixA 4 1 t113 t94).bind fun t114 =>
   (ld1 r4.2.1 t114).bind fun t115 =>
   (callF o 50 [t7,t17,t94,t18] r4.2.1 (r4.2.2+1+1)).bind fun r5 =>
   (Z00 P .mul 3 (.int .i64 7) t107).bind fun t123 =>
   (Z00 P .add 3 t123 (.int .i64 4)).bind fun t124 =>
   (callF o 60 [] r5.2.1 r5.2.2).bind fun r6 =>
   (ixV 4 true 4 r6.1 t111).bind fun t127 =>
   (ixV 4 false 1 t127 t115).bind fun t129 =>
   (Z00 P .add 3 t124 t129).bind fun t130 =>
   (ixS 1 t7 t130).bind fun t131 =>
   (ld1 r6.2.1 t131).bind fun t132 =>
   (Z00 P .sub 3 r5.1 t132).bind fun t133 =>
   (Z00 P .mul 3 (.int .i64 4) t107).bind fun t137 =>
   (Z00 P .add 3 t137 t111).bind fun t139 =>
   (ixS 1 t11 t139).bind fun t140 =>
   (ld1 r6.2.1 t140).bind fun t141 =>
   (Z1t .not t141).bind fun t142 =>
   (Z08 t142
    ((Z00 P .mul 3 (.int .i64 4) t107).bind fun t145 =>
    (Z00 P .add 3 t145 t111).bind fun t147 =>
    (ixS 1 t11 t147).bind fun t148 =>
    (stN r6.2.1 1 t148 (.bool true)).bind fun h8 =>
    (Z00 P .mul 3 (.int .i64 7) t107).bind fun t151 =>
    (Z00 P .add 3 t151 t111).bind fun t153 =>
    (ixS 1 t7 t153).bind fun t155 =>
    (stN h8 1 t155 t133).bind fun h10 =>
    (Z3X min2 [t15,t133]).bind fun t158 =>
    (Z00 P .mul 3 (.int .i64 4) t107).bind fun t161 =>
    (Z00 P .add 3 t161 t111).bind fun t163 =>
    (Z4Y [(.int .i64 0)] [(0,1,t163)]).bind fun r12 =>
    (Z9h (newB h10 (256*(r6.2.2+1+1+1+1)+5) r12) (256*(r6.2.2+1+1+1+1)+6) 1 8 t14 (.slice (some ⟨(256*(r6.2.2+1+1+1+1)+5),0,none⟩) 1 1)).bind fun r13 =>
    some ⟨.normal,[t2,t4,t5,t7,t11,r13.1,t158,t16,t17,t18,t62,t63,t64,t93,t94],r13.2,(r6.2.2+1+1+1+1+1),df⟩)
    ((Z00 P .mul 3 (.int .i64 7) t107).bind fun t169 =>
    (Z00 P .add 3 t169 t111).bind fun t171 =>
    (ixS 1 t7 t171).bind fun t172 =>
    (ld1 r6.2.1 t172).bind fun t173 =>
    (Z00 P .neq 3 t173 t133).bind fun t175 =>
    Z08 t175
     (some ⟨.ret,[t2,(.slice none 0 0),(.bool false),t7,t11,t14,t15,t16,t17,t18,t62,t63,t64,t93,t94],r6.2.1,(r6.2.2+1+1+1),df⟩)
     (some ⟨.normal,[t2,t4,t5,t7,t11,t14,t15,t16,t17,t18,t62,t63,t64,t93,t94],r6.2.1,(r6.2.2+1+1),df⟩)):Option (Rt H)).bind fun r17 =>
   cond (Z0x r17.e .normal)
    (some ⟨.normal,[r17.v 0,r17.v 1,r17.v 2,r17.v 3,r17.v 4,r17.v 5,r17.v 6,r17.v 7,r17.v 8,r17.v 9,r17.v 10,r17.v 11,r17.v 12,r17.v 13,r17.v 14],r17.h,r17.c,r17.df⟩)
    (cond (Z0x r17.e .ret)
     (some ⟨.ret,[r17.v 0,r17.v 1,r17.v 2,r17.v 3,r17.v 4,r17.v 5,r17.v 6,r17.v 7,r17.v 8,r17.v 9,r17.v 10,r17.v 11,r17.v 12,r17.v 13,r17.v 14],r17.h,r17.c,r17.df⟩)
     (none))):Option (Rt H)).bind fun r18 =>
 cond (Z0x r18.e .normal)
  ((Z00 P .add 3 (r18.v 14) (.int .i64 1)).bind fun t176 =>
  some ⟨.normal,[r18.v 0,r18.v 1,r18.v 2,r18.v 3,r18.v 4,r18.v 5,r18.v 6,r18.v 7,r18.v 8,r18.v 9,r18.v 10,r18.v 11,r18.v 12,r18.v 13,t176],r18.h,(r18.c+1),r18.df⟩)
  (cond (Z0x r18.e .ret)
   (some ⟨.ret,[r18.v 0,r18.v 1,r18.v 2,r18.v 3,r18.v 4,r18.v 5,r18.v 6,r18.v 7,r18.v 8,r18.v 9,r18.v 10,r18.v 11,r18.v 12,r18.v 13,r18.v 14],r18.h,r18.c,r18.df⟩)
   (none)))
 (some ⟨(.exit 6),[t2,t4,t5,t7,t11,t14,t15,t16,t17,t18,t62,t63,t64,t93,t94],h,(c+1),df⟩)
theorem ZaR (o:Orc H) (rd:Option Nat) (t2 t4 t5 t7 t11 t14 t15 t16 t17 t18 t62 t63 t64 t93 t94:Value) (h:H) (c:Nat) (df:List Nat):jx P o 200 rd Z2S (Z0j [2,4,5,7,11,14,15,16,17,18,62,63,64,93,94] [t2,t4,t5,t7,t11,t14,t15,t16,t17,t18,t62,t63,t64,t93,t94]) h c df (Klp [2,4,5,7,11,14,15,16,17,18,62,63,64,93,94])=Z6Y o rd t2 t4 t5 t7 t11 t14 t15 t16 t17 t18 t62 t63 t64 t93 t94 h c df:=by kernel_rfl
noncomputable def Z6Z (o:Orc H) (rd:Option Nat) (t2 t4 t5 t7 t11 t14 t15 t16 t62 t63 t64:Value) (h:H) (c:Nat) (df:List Nat):Option (Rt H) :=
 (Z1B t14).bind fun t75 =>
 (Z00 P .lss 3 t16 t75).bind fun t76 =>
 Z08 t76
 ((ixS 1 t14 t16).bind fun t81 =>
 (ld1 h t81).bind fun t82 =>
 (Z00 P .quo 3 t82 (.int .i64 4)).bind fun t83 =>
 (ixS 1 t14 t16).bind fun t86 =>
 (ld1 h t86).bind fun t87 =>
 (Z00 P .rem 3 t87 (.int .i64 4)).bind fun t88 =>
 (Z04 t2 0).bind fun t89 =>
 (ld1 h t89).bind fun t90 =>
 (ixS 20 t90 t83).bind fun t92 =>
 (ldN h 20 t92).bind fun t93 =>
 (o (Zgt rd) [t2,t4,t5,t7,t11,t14,t15,t16,t83,t88,t62,t63,t64,t93,(.int .i64 0)] h (c+1+1+1) df).bind fun r0 =>
 cond (Z0x r0.e (.exit 6))
  ((Z00 P .add 3 (r0.v 7) (.int .i64 1)).bind fun t78 =>
  some ⟨.normal,[r0.v 0,r0.v 1,r0.v 2,r0.v 3,r0.v 4,r0.v 5,r0.v 6,t78,r0.v 10,r0.v 11,r0.v 12],r0.h,(r0.c+1),r0.df⟩)
  (cond (Z0x r0.e .ret)
   (some ⟨.ret,[r0.v 0,r0.v 1,r0.v 2,r0.v 3,r0.v 4,r0.v 5,r0.v 6,r0.v 7,r0.v 10,r0.v 11,r0.v 12],r0.h,r0.c,r0.df⟩)
   (none)))
 (some ⟨(.exit 4),[t2,t4,t5,t7,t11,t14,t15,t16,t62,t63,t64],h,(c+1),df⟩)
theorem ZaS (o:Orc H) (rd:Option Nat) (t2 t4 t5 t7 t11 t14 t15 t16 t62 t63 t64:Value) (h:H) (c:Nat) (df:List Nat):jx P o 200 rd Z2T (Z0j [2,4,5,7,11,14,15,16,62,63,64] [t2,t4,t5,t7,t11,t14,t15,t16,t62,t63,t64]) h c df (Klp [2,4,5,7,11,14,15,16,62,63,64])=Z6Z o rd t2 t4 t5 t7 t11 t14 t15 t16 t62 t63 t64 h c df:=by kernel_rfl
noncomputable def Z6X (o:Orc H) (rd:Option Nat) (t2 t4 t5 t7 t11 t15 t62 t63 t64 t177 t178 t179:Value) (h:H) (c:Nat) (df:List Nat):Option (Rt H) :=
 (Z00 P .lss 3 t179 t178).bind fun t180 =>
 Z08 t180
 ((ixS 1 t177 t179).bind fun t181 =>
 (ld1 h t181).bind fun t182 =>
 (Z00 P .quo 3 t182 (.int .i64 4)).bind fun t185 =>
 (Z00 P .mul 3 t185 (.int .i64 7)).bind fun t186 =>
 (Z00 P .rem 3 t182 (.int .i64 4)).bind fun t188 =>
 (Z00 P .add 3 t186 t188).bind fun t189 =>
 (ixS 1 t7 t189).bind fun t190 =>
 (ld1 h t190).bind fun t191 =>
 (Z00 P .sub 3 t191 t15).bind fun t193 =>
 (ixS 1 t7 t189).bind fun t194 =>
 (stN h 1 t194 t193).bind fun h1 =>
 (Z00 P .add 3 t179 (.int .i64 1)).bind fun t195 =>
 some ⟨.normal,[t2,t4,t5,t7,t11,t15,t62,t63,t64,t177,t178,t195],h1,(c+1+1+1+1),df⟩)
 (some ⟨(.exit 9),[t2,t4,t5,t7,t11,t15,t62,t63,t64,t177,t178,t179],h,(c+1),df⟩)
theorem ZaQ (o:Orc H) (rd:Option Nat) (t2 t4 t5 t7 t11 t15 t62 t63 t64 t177 t178 t179:Value) (h:H) (c:Nat) (df:List Nat):jx P o 200 rd Z2R (Z0j [2,4,5,7,11,15,62,63,64,177,178,179] [t2,t4,t5,t7,t11,t15,t62,t63,t64,t177,t178,t179]) h c df (Klp [2,4,5,7,11,15,62,63,64,177,178,179])=Z6X o rd t2 t4 t5 t7 t11 t15 t62 t63 t64 t177 t178 t179 h c df:=by kernel_rfl
noncomputable def Z70 (o:Orc H) (rd:Option Nat) (t2 t4 t5 t7 t11 t62 t63 t64:Value) (h:H) (c:Nat) (df:List Nat):Option (Rt H) :=
 (Z00 P .lss 3 t64 t63).bind fun t65 =>
 Z08 t65
 ((ixS 1 t62 t64).bind fun t66 =>
 (ld1 h t66).bind fun t67 =>
 (ixS 1 t11 t67).bind fun t70 =>
 (stN h 1 t70 (.bool true)).bind fun h1 =>
 (Z4Y [(.int .i64 0)] [(0,1,t67)]).bind fun r2 =>
 (o (Zgu rd) [t2,t4,t5,t7,t11,(.slice (some ⟨(256*(c+1+1+1)+1),0,none⟩) 1 1),(.int .i64 0),(.int .i64 0),t62,t63,t64] (newB h1 (256*(c+1+1+1)+1) r2) (c+1+1+1+1+1+1) df).bind fun r3 =>
 cond (Z0x r3.e (.exit 4))
  ((Z1B (r3.v 5)).bind fun t178 =>
  (o (Zgs rd) [r3.v 0,r3.v 1,r3.v 2,r3.v 3,r3.v 4,r3.v 6,r3.v 8,r3.v 9,r3.v 10,r3.v 5,t178,(.int .i64 0)] r3.h (r3.c+1) r3.df).bind fun r4 =>
  cond (Z0x r4.e (.exit 9))
   ((Z00 P .add 3 (r4.v 8) (.int .i64 1)).bind fun t196 =>
   some ⟨.normal,[r4.v 0,r4.v 1,r4.v 2,r4.v 3,r4.v 4,r4.v 6,r4.v 7,t196],r4.h,(r4.c+1),r4.df⟩)
   (none))
  (cond (Z0x r3.e .ret)
   (some ⟨.ret,[r3.v 0,r3.v 1,r3.v 2,r3.v 3,r3.v 4,r3.v 8,r3.v 9,r3.v 10],r3.h,r3.c,r3.df⟩)
   (none)))
 (some ⟨(.exit 2),[t2,t4,t5,t7,t11,t62,t63,t64],h,(c+1),df⟩)
theorem ZaT (o:Orc H) (rd:Option Nat) (t2 t4 t5 t7 t11 t62 t63 t64:Value) (h:H) (c:Nat) (df:List Nat):jx P o 200 rd Z2U (Z0j [2,4,5,7,11,62,63,64] [t2,t4,t5,t7,t11,t62,t63,t64]) h c df (Klp [2,4,5,7,11,62,63,64])=Z70 o rd t2 t4 t5 t7 t11 t62 t63 t64 h c df:=by kernel_rfl
noncomputable def ZnK (o:Orc H) (t0 t1:Value) (h:H) (c:Nat):Option (Rt H) :=
 (bif (t0:Value).cells.toList.all Z0d then
 (Z04 (ptrTo (256*c+0)) 0).bind fun t27 =>
 (ld1 (newB h (256*c+0) (t0:Value).cells.toList) t27).bind fun t28 =>
 (Z1B t28).bind fun t29 =>
 (Z00 P .mul 3 (.int .i64 7) t29).bind fun t31 =>
 (mkS 1 8 [(.int .i64 0)] t31 t31).bind fun r0 =>
 (o (Zgw none) [t1,(ptrTo (256*c+0)),(.slice none 0 0),(.bool false),t29,(.slice (some ⟨(256*(c+1+1)+2),0,none⟩) r0.2.1 r0.2.2),t29,(.int .i64 0)] (newB (newB h (256*c+0) (t0:Value).cells.toList) (256*(c+1+1)+2) r0.1) (c+1+1+1+1) []).bind fun r1 =>
 cond (Z0x r1.e (.exit 0))
 ((ldN r1.h 1 (r1.v 1)).bind fun t52 =>
 (callF o 44 [t52] r1.h (r1.c+1)).bind fun r2 =>
 (Z2q r2.1 0).bind fun t54 =>
 (Z2q r2.1 1).bind fun t55 =>
 (Z00 P .mul 3 (.int .i64 4) (r1.v 4)).bind fun t57 =>
 (mkS 1 1 [(.bool false)] t57 t57).bind fun r3 =>
 (Z0s t54).bind fun t60 =>
 (Z04 t60 0).bind fun t61 =>
 (callF o 45 [t61] (newB r2.2.1 (256*r2.2.2+2) r3.1) (r2.2.2+1+1)).bind fun r4 =>
 (Z1B r4.1).bind fun t63 =>
 (o (Zgv none) [r1.v 1,r1.v 2,r1.v 3,r1.v 5,(.slice (some ⟨(256*r2.2.2+2),0,none⟩) r3.2.1 r3.2.2),r4.1,t63,(.int .i64 0)] r4.2.1 r4.2.2 r1.df).bind fun r5 =>
 cond (Z0x r5.e (.exit 2))
  ((callF o 55 [r5.v 3] r5.h (r5.c+1)).bind fun r7 =>
  (Z09 r7.2.1 r5.df).bind fun h8 =>
  some ⟨.ret,[.tuple #[r5.v 3,r7.1]],h8,r7.2.2,[]⟩)
  (cond (Z0x r5.e .ret)
   ((Z09 r5.h r5.df).bind fun h6 =>
   some ⟨.ret,[.tuple #[r5.v 1,r5.v 2]],h6,r5.c,[]⟩)
   (none)))
 (none)
 else none)
theorem ZlA (o:Orc H) (t0 t1:Value) (h:H) (c:Nat):jx P o 200 none f57_c (Z0j (List.range 2) [t0,t1]) h c [] (Kfn P Try.f57.results.toList)=ZnK o t0 t1 h c:=by kernel_rfl
noncomputable def ZiB (o:Orc H) (t0:Value) (h:H) (c:Nat):Option (Rt H) :=
 (bif (t0:Value).cells.toList.all Z0d then
 some ⟨.ret,[(.func (.func 77) [].toArray [(ptrTo (256*c+0))].toArray)],(newB h (256*c+0) (t0:Value).cells.toList),(c+1+1),[]⟩
 else none)
theorem Zf7 (o:Orc H) (t0:Value) (h:H) (c:Nat):jx P o 4 none f59_c (Z0j (List.range 1) [t0]) h c [] (Kfn P Try.f59.results.toList)=ZiB o t0 h c:=by kernel_rfl
theorem f59_go {t0:Value} {h:FH} {c:Nat} {df:List Nat} {r:Rt FH} (e:ZiB G t0 h c=some r):G (.fn 59) [t0] h c df=some r:=Z0h (a:=ZcW) bk_59 rfl (fun args h c=>by cases args <;> rfl) rfl ((Zf7 G t0 h c).trans e)
noncomputable def ZiA (o:Orc H) (h:H) (c:Nat):Option (Rt H) :=
 (Z3A [(.int .i64 0),(.int .i64 0),(.int .i64 0),(.int .i64 0)] [(0,1,(.int .i64 (-1))),(1,1,(.int .i64 0)),(2,1,(.int .i64 1)),(3,1,(.int .i64 2))]).bind fun t1 =>
 (Z3A [(.int .i64 0),(.int .i64 0),(.int .i64 0),(.int .i64 0)] [(0,1,(.int .i64 0)),(1,1,(.int .i64 (-1))),(2,1,(.int .i64 2)),(3,1,(.int .i64 1))]).bind fun t2 =>
 (Z3A [(.int .i64 0),(.int .i64 0),(.int .i64 0),(.int .i64 0)] [(0,1,(.int .i64 1)),(1,1,(.int .i64 2)),(2,1,(.int .i64 (-1))),(3,1,(.int .i64 0))]).bind fun t3 =>
 (Z3A [(.int .i64 0),(.int .i64 0),(.int .i64 0),(.int .i64 0)] [(0,1,(.int .i64 2)),(1,1,(.int .i64 1)),(2,1,(.int .i64 0)),(3,1,(.int .i64 (-1)))]).bind fun t4 =>
 (Z3A [(.int .i64 0),(.int .i64 0),(.int .i64 0),(.int .i64 0),(.int .i64 0),(.int .i64 0),(.int .i64 0),(.int .i64 0),(.int .i64 0),(.int .i64 0),(.int .i64 0),(.int .i64 0),(.int .i64 0),(.int .i64 0),(.int .i64 0),(.int .i64 0)] [(0,4,t1),(4,4,t2),(8,4,t3),(12,4,t4)]).bind fun t5 =>
 (stN (newB h (256*c+0) [(.int .i64 0),(.int .i64 0),(.int .i64 0),(.int .i64 0),(.int .i64 0),(.int .i64 0),(.int .i64 0),(.int .i64 0),(.int .i64 0),(.int .i64 0),(.int .i64 0),(.int .i64 0),(.int .i64 0),(.int .i64 0),(.int .i64 0),(.int .i64 0)]) 16 (ptrTo (256*c+0)) t5).bind fun h1 =>
 (ldN h1 16 (ptrTo (256*c+0))).bind fun v2 =>
 some ⟨.ret,[v2],h1,(c+1+1),[]⟩
theorem Zf6 (o:Orc H) (h:H) (c:Nat):jx P o 6 none f60_c (Z0j (List.range 0) []) h c [] (Kfn P Try.f60.results.toList)=ZiA o h c:=by kernel_rfl
theorem f60_go {h:FH} {c:Nat} {df:List Nat} {r:Rt FH} (e:ZiA G h c=some r):G (.fn 60) [] h c df=some (gcR h c [] r):=Z0h (a:=ZcV) bk_60 rfl (fun args h c=>by cases args <;> rfl) rfl ((Zf6 G h c).trans e)
noncomputable def Z6W (o:Orc H) (rd:Option Nat) (t0 t3 t4 t5:Value) (h:H) (c:Nat) (df:List Nat):Option (Rt H) :=
 (Zh7 P h 9 t0).bind fun t9 =>
 (Z00 P .leq 3 t5 t9).bind fun t10 =>
 Z08 t10
 ((Zh7 P h 9 t0).bind fun t15 =>
 (Z00 P .eql 3 t5 t15).bind fun t16 =>
 (gd t16 false h (c+1+1) (some t0)).bind fun r0 =>
 (gd t16 false r0.2.1 r0.2.2 (some t5)).bind fun r1 =>
 (gd t16 false r1.2.1 r1.2.2 (Zg8 r0.1 r1.1)).bind fun r2 =>
 (gd t16 false r2.2.1 r2.2.2 (Z00 P .eql 5 r2.1 (.int .u8 32))).bind fun r3 =>
 (Z0v t16 (.bool true) r3.1).bind fun t22 =>
 (Z1t .not t22).bind fun t24 =>
 (gd t24 true r3.2.1 (r3.2.2+1) (some t4)).bind fun r4 =>
 (gd t24 true r4.2.1 r4.2.2 (Z00 P .lss 3 r4.1 (.int .i64 0))).bind fun r5 =>
 (Z0v t24 r5.1 (.bool false)).bind fun t28 =>
 (Z08 t28
  (some ⟨.normal,[t0,t3,t5,t5,t22],r5.2.1,(r5.2.2+1),df⟩)
  (some ⟨.normal,[t0,t3,t4,t5,t22],r5.2.1,r5.2.2,df⟩):Option (Rt H)).bind fun r7 =>
 cond (Z0x r7.e .normal)
  (((gv (r7.v 4) true).bind fun w=>cond w (Z6F r7.h (r7.c+1) (some (r7.v 2))) (some (undef,r7.h,(r7.c+1)))).bind fun r8 =>
  ((gv (r7.v 4) true).bind fun w=>cond w (Z6F r8.2.1 r8.2.2 (Z00 P .geq 3 r8.1 (.int .i64 0))) (some (undef,r8.2.1,r8.2.2))).bind fun r9 =>
  (Z0v (r7.v 4) r9.1 (.bool false)).bind fun t34 =>
  (Z08 t34
   ((slStrV (r7.v 0) (some (r7.v 2)) (some (r7.v 3))).bind fun t39 =>
   (Z4Y [(.string (ByteArray.mk #[]))] [(0,1,t39)]).bind fun r10 =>
   (Z9h (newB r9.2.1 (256*r9.2.2+5) r10) (256*r9.2.2+6) 1 16 (r7.v 1) (.slice (some ⟨(256*r9.2.2+5),0,none⟩) 1 1)).bind fun r11 =>
   some ⟨.normal,[r7.v 0,r11.1,(.int .i64 (-1)),r7.v 3],r11.2,(r9.2.2+1+1),r7.df⟩)
   (some ⟨.normal,[r7.v 0,r7.v 1,r7.v 2,r7.v 3],r9.2.1,r9.2.2,r7.df⟩):Option (Rt H)).bind fun r14 =>
  cond (Z0x r14.e .normal)
   ((Z00 P .add 3 (r14.v 3) (.int .i64 1)).bind fun t12 =>
   some ⟨.normal,[r14.v 0,r14.v 1,r14.v 2,t12],r14.h,(r14.c+1),r14.df⟩)
   (none))
  (none))
 (some ⟨(.exit 0),[t0,t3,t4,t5],h,(c+1),df⟩)
theorem ZaP (o:Orc H) (rd:Option Nat) (t0 t3 t4 t5:Value) (h:H) (c:Nat) (df:List Nat):jx P o 43 rd Z2Q (Z0j [0,3,4,5] [t0,t3,t4,t5]) h c df (Klp [0,3,4,5])=Z6W o rd t0 t3 t4 t5 h c df:=by kernel_rfl
noncomputable def ZnH (o:Orc H) (t0:Value) (h:H) (c:Nat):Option (Rt H) :=
 (o (Zgq none) [t0,(.slice none 0 0),(.int .i64 (-1)),(.int .i64 0)] h (c+1+1+1+1) []).bind fun r0 =>
 cond (Z0x r0.e (.exit 0))
 ((Z09 r0.h r0.df).bind fun h1 =>
 some ⟨.ret,[r0.v 1],h1,(r0.c+1),[]⟩)
 (none)
theorem Zlz (o:Orc H) (t0:Value) (h:H) (c:Nat):jx P o 43 none f68_c (Z0j (List.range 1) [t0]) h c [] (Kfn P Try.f68.results.toList)=ZnH o t0 h c:=by kernel_rfl
noncomputable def Z6V (o:Orc H) (rd:Option Nat) (t0 t2 t3 t4 t5:Value) (h:H) (c:Nat) (df:List Nat):Option (Rt H) :=
 (Zh7 P h 9 t0).bind fun t26 =>
 (Z00 P .lss 3 t5 t26).bind fun t27 =>
 Z08 t27
 ((Zg8 t0 t5).bind fun t32 =>
 (Z00 P .lss 5 t32 (.int .u8 48)).bind fun t33 =>
 (gd t33 false h (c+1+1) (some t0)).bind fun r0 =>
 (gd t33 false r0.2.1 r0.2.2 (some t5)).bind fun r1 =>
 (gd t33 false r1.2.1 r1.2.2 (Zg8 r0.1 r1.1)).bind fun r2 =>
 (gd t33 false r2.2.1 r2.2.2 (Z00 P .gtr 5 r2.1 (.int .u8 57))).bind fun r3 =>
 (Z0v t33 (.bool true) r3.1).bind fun t39 =>
 Z08 t39
  (some ⟨.ret,[t0,(.int .i64 0),(.bool false),t4,t5],r3.2.1,(r3.2.2+1),df⟩)
  ((Z00 P .mul 3 (.int .i64 10) t4).bind fun t41 =>
  (Zg8 t0 t5).bind fun t44 =>
  (Z00 P .sub 5 t44 (.int .u8 48)).bind fun t45 =>
  (cnvI .i64 t45).bind fun t46 =>
  (Z00 P .add 3 t41 t46).bind fun t47 =>
  (Z00 P .add 3 t5 (.int .i64 1)).bind fun t29 =>
  some ⟨.normal,[t0,t2,t3,t47,t29],r3.2.1,(r3.2.2+1+1),df⟩))
 (some ⟨(.exit 0),[t0,t2,t3,t4,t5],h,(c+1),df⟩)
theorem ZaO (o:Orc H) (rd:Option Nat) (t0 t2 t3 t4 t5:Value) (h:H) (c:Nat) (df:List Nat):jx P o 51 rd Z2P (Z0j [0,2,3,4,5] [t0,t2,t3,t4,t5]) h c df (Klp [0,2,3,4,5])=Z6V o rd t0 t2 t3 t4 t5 h c df:=by kernel_rfl
noncomputable def ZnG (o:Orc H) (t0:Value) (h:H) (c:Nat):Option (Rt H) :=
 (Zh7 P h 9 t0).bind fun t7 =>
 (Z00 P .lss 3 t7 (.int .i64 1)).bind fun t8 =>
 (gd t8 false h (c+1+1) (some t0)).bind fun r0 =>
 (gg t8 false r0.2.1 r0.2.2 (((Zh7 P r0.2.1 9 r0.1).bind fun v=>some (v,r0.2.1)).bind fun r=>some (r.1,r.2,r0.2.2))).bind fun r1 =>
 (gd t8 false r1.2.1 r1.2.2 (Z00 P .gtr 3 r1.1 (.int .i64 4))).bind fun r2 =>
 (Z0v t8 (.bool true) r2.1).bind fun t13 =>
 (gd t13 false r2.2.1 r2.2.2 (some t0)).bind fun r3 =>
 (gg t13 false r3.2.1 r3.2.2 (((Zh7 P r3.2.1 9 r3.1).bind fun v=>some (v,r3.2.1)).bind fun r=>some (r.1,r.2,r3.2.2))).bind fun r4 =>
 (gd t13 false r4.2.1 r4.2.2 (Z00 P .gtr 3 r4.1 (.int .i64 1))).bind fun r5 =>
 (gd t13 false r5.2.1 r5.2.2 (some r5.1)).bind fun r6 =>
 (gd r6.1 true r6.2.1 r6.2.2 (some t0)).bind fun r7 =>
 (gd r6.1 true r7.2.1 r7.2.2 (Zg8 r7.1 (.int .i64 0))).bind fun r8 =>
 (gd r6.1 true r8.2.1 r8.2.2 (Z00 P .eql 5 r8.1 (.int .u8 48))).bind fun r9 =>
 (gg t13 false r9.2.1 r9.2.2 (Zco r9.2.1 r9.2.2 r6.1 r9.1 (.bool false))).bind fun r10 =>
 (Z0v t13 (.bool true) r10.1).bind fun t23 =>
 Z08 t23
 (some ⟨.ret,[.tuple #[(.int .i64 0),(.bool false)]],r10.2.1,(r10.2.2+1),[]⟩)
 ((o (Zgo none) [t0,(.int .i64 0),(.bool false),(.int .i64 0),(.int .i64 0)] r10.2.1 (r10.2.2+1+1) []).bind fun r11 =>
 cond (Z0x r11.e (.exit 0))
  ((Z00 P .leq 3 (r11.v 3) (.int .i64 1000)).bind fun t50 =>
  (Z09 r11.h r11.df).bind fun h13 =>
  some ⟨.ret,[.tuple #[r11.v 3,t50]],h13,(r11.c+1),[]⟩)
  (cond (Z0x r11.e .ret)
   ((Z09 r11.h r11.df).bind fun h12 =>
   some ⟨.ret,[.tuple #[r11.v 1,r11.v 2]],h12,r11.c,[]⟩)
   (none)))
theorem Zly (o:Orc H) (t0:Value) (h:H) (c:Nat):jx P o 51 none f69_c (Z0j (List.range 1) [t0]) h c [] (Kfn P Try.f69.results.toList)=ZnG o t0 h c:=by kernel_rfl
end Go.Proofs.Ytcnndelmnobigaa
