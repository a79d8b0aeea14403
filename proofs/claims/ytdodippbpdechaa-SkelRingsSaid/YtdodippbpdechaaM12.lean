/- Parts of a proof: S5 S6 S7. Conditions: none. -/
import Derived.Test.YtdodippbpdechaaM9
set_option linter.all false
set_option maxRecDepth 100000
namespace Go.Proofs.Ytdodippbpdechaa
open Go Go.Ab Go.Proofs
variable {H:Type} [HeapC H]
noncomputable def Z6U (o:Orc H) (rd:Option Nat) (t2 t3 t4 t5 t7 t8 t9 t10 t11 t14:Value) (h:H) (c:Nat) (df:List Nat):Option (Rt H) :=
 (Z00 P .lss 3 t14 (.int .i64 4)).bind fun t92 =>
 Z08 t92
 ((Z00 P .add 3 t8 (.int .i64 1)).bind fun t97 =>
 (ixS 1 t4 t97).bind fun t98 =>
 (ld1 h t98).bind fun t99 =>
 (ZeW t99 t14).bind fun t101 =>
 (Z00 P .lss 5 t101 (.int .u8 48)).bind fun t103 =>
 (gd t103 false h (c+1+1+1) (some t101)).bind fun r0 =>
 (gd t103 false r0.2.1 r0.2.2 (Z00 P .gtr 5 r0.1 (.int .u8 57))).bind fun r1 =>
 (Z0H t103 (.bool true) r1.1).bind fun t107 =>
 Z08 t107
  ((Z1d [(.slice none 0 0)] []).bind fun t108 =>
  (stN r1.2.1 1 t2 t108).bind fun h3 =>
  some ⟨.ret,[t2,(.int .i64 4),t4,t5,t7,t8,t9,t10,t11,t14],h3,(r1.2.2+1),df⟩)
  ((Z00 P .sub 5 t101 (.int .u8 48)).bind fun t112 =>
  (cnvI .i64 t112).bind fun t113 =>
  (ixA 4 5 t10 t11).bind fun t114 =>
  (Z02 t114 1).bind fun t115 =>
  (ixA 4 1 t115 t14).bind fun t116 =>
  (stN r1.2.1 1 t116 t113).bind fun h6 =>
  (Z00 P .add 3 t14 (.int .i64 1)).bind fun t94 =>
  some ⟨.normal,[t2,t3,t4,t5,t7,t8,t9,t10,t11,t94],h6,(r1.2.2+1+1),df⟩))
 (some ⟨(.exit 4),[t2,t3,t4,t5,t7,t8,t9,t10,t11,t14],h,(c+1),df⟩)
theorem ZaQ (o:Orc H) (rd:Option Nat) (t2 t3 t4 t5 t7 t8 t9 t10 t11 t14:Value) (h:H) (c:Nat) (df:List Nat):jx P o 135 rd Z2Q (Z0i [2,3,4,5,7,8,9,10,11,14] [t2,t3,t4,t5,t7,t8,t9,t10,t11,t14]) h c df (Klp [2,3,4,5,7,8,9,10,11,14])=Z6U o rd t2 t3 t4 t5 t7 t8 t9 t10 t11 t14 h c df:=by kernel_rfl
noncomputable def Z6V (o:Orc H) (rd:Option Nat) (t2 t3 t4 t5 t7 t8 t9 t10 t11:Value) (h:H) (c:Nat) (df:List Nat):Option (Rt H) :=
 (Z00 P .lss 3 t11 (.int .i64 4)).bind fun t42 =>
 Z08 t42
 (((Z2m t4).bind fun t47 =>
  (Z00 P .geq 3 t8 t47).bind fun t48 =>
  Z08 t48
   ((Z1d [(.slice none 0 0)] []).bind fun t49 =>
   (stN h 1 t2 t49).bind fun h1 =>
   some ⟨.ret,[t2,(.int .i64 4),t4,t5,t7,t8,t9,t10,t11],h1,(c+1+1+1),df⟩)
   ((ixS 1 t4 t8).bind fun t52 =>
   (ld1 h t52).bind fun t53 =>
   (Z00 P .eql 9 t53 (.string (ByteArray.mk #[45]))).bind fun t54 =>
   Z08 t54
    ((ixA 4 5 t10 t11).bind fun t56 =>
    (Z02 t56 0).bind fun t57 =>
    (stN h 1 t57 (.int .i64 (-1))).bind fun h4 =>
    (Z00 P .add 3 t8 (.int .i64 1)).bind fun t59 =>
    some ⟨.normal,[t2,t3,t4,t5,t7,t59,t9,t10,t11],h4,(c+1+1+1+1+1),df⟩)
    ((ixS 1 t4 t8).bind fun t63 =>
    (ld1 h t63).bind fun t64 =>
    (callF o 84 [t64] h (c+1+1+1+1)).bind fun r6 =>
    (Z1m r6.1 0).bind fun t66 =>
    (Z1m r6.1 1).bind fun t67 =>
    (Z1V .not t67).bind fun t69 =>
    (gd t69 false r6.2.1 (r6.2.2+1) (some t8)).bind fun r7 =>
    (gd t69 false r7.2.1 r7.2.2 (Z00 P .add 3 r7.1 (.int .i64 1))).bind fun r8 =>
    (gd t69 false r8.2.1 r8.2.2 (some t4)).bind fun r9 =>
    (gg t69 false r9.2.1 r9.2.2 (((Z2m r9.1).bind fun v=>some (v,r9.2.1)).bind fun r=>some (r.1,r.2,r9.2.2))).bind fun r10 =>
    (gd t69 false r10.2.1 r10.2.2 (Z00 P .geq 3 r8.1 r10.1)).bind fun r11 =>
    (Z0H t69 (.bool true) r11.1).bind fun t76 =>
    (gd t76 false r11.2.1 r11.2.2 (some t4)).bind fun r12 =>
    (gd t76 false r12.2.1 r12.2.2 (some t8)).bind fun r13 =>
    (gd t76 false r13.2.1 r13.2.2 (Z00 P .add 3 r13.1 (.int .i64 1))).bind fun r14 =>
    (gd t76 false r14.2.1 r14.2.2 (ixS 1 r12.1 r14.1)).bind fun r15 =>
    (gd t76 false r15.2.1 r15.2.2 (ld1 r15.2.1 r15.1)).bind fun r16 =>
    (gg t76 false r16.2.1 r16.2.2 (((Zew P r16.2.1 9 r16.1).bind fun v=>some (v,r16.2.1)).bind fun r=>some (r.1,r.2,r16.2.2))).bind fun r17 =>
    (gd t76 false r17.2.1 r17.2.2 (Z00 P .neq 3 r17.1 (.int .i64 4))).bind fun r18 =>
    (Z0H t76 (.bool true) r18.1).bind fun t85 =>
    Z08 t85
     ((Z1d [(.slice none 0 0)] []).bind fun t86 =>
     (stN r18.2.1 1 t2 t86).bind fun h20 =>
     some ⟨.ret,[t2,(.int .i64 4),t4,t5,t7,t8,t9,t10,t11],h20,(r18.2.2+1),df⟩)
     ((ixA 4 5 t10 t11).bind fun t89 =>
     (Z02 t89 0).bind fun t90 =>
     (stN r18.2.1 1 t90 t66).bind fun h23 =>
     (o (Zft rd) [t2,t3,t4,t5,t7,t8,t9,t10,t11,(.int .i64 0)] h23 (r18.2.2+1+1) df).bind fun r24 =>
     cond (Z0u r24.e (.exit 4))
      ((Z00 P .add 3 (r24.v 5) (.int .i64 2)).bind fun t118 =>
      some ⟨.normal,[r24.v 0,r24.v 1,r24.v 2,r24.v 3,r24.v 4,t118,r24.v 6,r24.v 7,r24.v 8],r24.h,(r24.c+1),r24.df⟩)
      (cond (Z0u r24.e .ret)
       (some ⟨.ret,[r24.v 0,r24.v 1,r24.v 2,r24.v 3,r24.v 4,r24.v 5,r24.v 6,r24.v 7,r24.v 8],r24.h,r24.c,r24.df⟩)
       (none))))):Option (Rt H)).bind fun r26 =>
 cond (Z0u r26.e .ret)
  (some ⟨.ret,[r26.v 0,r26.v 1,r26.v 2,r26.v 3,r26.v 4,r26.v 5,r26.v 6,r26.v 7,r26.v 8],r26.h,r26.c,r26.df⟩)
  (cond (Z0u r26.e .normal)
   ((Z00 P .add 3 (r26.v 8) (.int .i64 1)).bind fun t44 =>
   some ⟨.normal,[r26.v 0,r26.v 1,r26.v 2,r26.v 3,r26.v 4,r26.v 5,r26.v 6,r26.v 7,t44],r26.h,(r26.c+1),r26.df⟩)
   (none)))
 (some ⟨(.exit 2),[t2,t3,t4,t5,t7,t8,t9,t10,t11],h,(c+1),df⟩)
theorem ZaR (o:Orc H) (rd:Option Nat) (t2 t3 t4 t5 t7 t8 t9 t10 t11:Value) (h:H) (c:Nat) (df:List Nat):jx P o 135 rd Z2R (Z0i [2,3,4,5,7,8,9,10,11] [t2,t3,t4,t5,t7,t8,t9,t10,t11]) h c df (Klp [2,3,4,5,7,8,9,10,11])=Z6V o rd t2 t3 t4 t5 t7 t8 t9 t10 t11 h c df:=by kernel_rfl
noncomputable def Z6W (o:Orc H) (rd:Option Nat) (t2 t3 t4 t5 t7 t8 t9:Value) (h:H) (c:Nat) (df:List Nat):Option (Rt H) :=
 (Z00 P .lss 3 t9 t5).bind fun t38 =>
 Z08 t38
 ((o (Zfu rd) [t2,t3,t4,t5,t7,t8,t9,(ptrTo (256*(c+1)+0)),(.int .i64 0)] (newB h (256*(c+1)+0) [(.int .i64 0),(.int .i64 0),(.int .i64 0),(.int .i64 0),(.int .i64 0),(.int .i64 0),(.int .i64 0),(.int .i64 0),(.int .i64 0),(.int .i64 0),(.int .i64 0),(.int .i64 0),(.int .i64 0),(.int .i64 0),(.int .i64 0),(.int .i64 0),(.int .i64 0),(.int .i64 0),(.int .i64 0),(.int .i64 0)]) (c+1+1+1) df).bind fun r0 =>
 cond (Z0u r0.e (.exit 2))
  ((Z02 (r0.v 4) 0).bind fun t119 =>
  (ld1 r0.h t119).bind fun t120 =>
  (ldN r0.h 20 (r0.v 7)).bind fun t121 =>
  (Z8N [(.int .i64 0),(.int .i64 0),(.int .i64 0),(.int .i64 0),(.int .i64 0),(.int .i64 0),(.int .i64 0),(.int .i64 0),(.int .i64 0),(.int .i64 0),(.int .i64 0),(.int .i64 0),(.int .i64 0),(.int .i64 0),(.int .i64 0),(.int .i64 0),(.int .i64 0),(.int .i64 0),(.int .i64 0),(.int .i64 0)] [(0,20,t121)]).bind fun r1 =>
  (Z5o (newB r0.h (256*r0.c+3) r1) (256*r0.c+4) 20 160 t120 (.slice (some ⟨(256*r0.c+3),0,none⟩) 1 1)).bind fun r2 =>
  (Z02 (r0.v 4) 0).bind fun t124 =>
  (stN r2.2 1 t124 r2.1).bind fun h4 =>
  (Z00 P .add 3 (r0.v 6) (.int .i64 1)).bind fun t40 =>
  some ⟨.normal,[r0.v 0,r0.v 1,r0.v 2,r0.v 3,r0.v 4,r0.v 5,t40],h4,(r0.c+1+1),r0.df⟩)
  (cond (Z0u r0.e .ret)
   (some ⟨.ret,[r0.v 0,r0.v 1,r0.v 2,r0.v 3,r0.v 4,r0.v 5,r0.v 6],r0.h,r0.c,r0.df⟩)
   (none)))
 (some ⟨(.exit 0),[t2,t3,t4,t5,t7,t8,t9],h,(c+1),df⟩)
theorem ZaS (o:Orc H) (rd:Option Nat) (t2 t3 t4 t5 t7 t8 t9:Value) (h:H) (c:Nat) (df:List Nat):jx P o 135 rd Z2S (Z0i [2,3,4,5,7,8,9] [t2,t3,t4,t5,t7,t8,t9]) h c df (Klp [2,3,4,5,7,8,9])=Z6W o rd t2 t3 t4 t5 t7 t8 t9 h c df:=by kernel_rfl
noncomputable def ZmE (o:Orc H) (t0:Value) (h:H) (c:Nat):Option (Rt H) :=
 (Zew P (newB h (256*c+0) [(.slice none 0 0)]) 9 t0).bind fun t17 =>
 (Z00 P .gtr 3 t17 (.int .i64 200000)).bind fun t18 =>
 Z08 t18
 ((Z1d [(.slice none 0 0)] []).bind fun t19 =>
 (stN (newB h (256*c+0) [(.slice none 0 0)]) 1 (ptrTo (256*c+0)) t19).bind fun h1 =>
 (ldN h1 1 (ptrTo (256*c+0))).bind fun v2 =>
 some ⟨.ret,[.tuple #[v2,(.int .i64 2)]],h1,(c+1+1+1),[]⟩)
 ((callF o 83 [t0] (newB h (256*c+0) [(.slice none 0 0)]) (c+1+1+1)).bind fun r3 =>
 (Z2m r3.1).bind fun t23 =>
 (Z00 P .eql 3 t23 (.int .i64 0)).bind fun t24 =>
 Z08 t24
  ((Z1d [(.slice none 0 0)] []).bind fun t25 =>
  (stN r3.2.1 1 (ptrTo (256*c+0)) t25).bind fun h5 =>
  (ldN h5 1 (ptrTo (256*c+0))).bind fun v6 =>
  some ⟨.ret,[.tuple #[v6,(.int .i64 4)]],h5,(r3.2.2+1+1),[]⟩)
  ((ixS 1 r3.1 (.int .i64 0)).bind fun t28 =>
  (ld1 r3.2.1 t28).bind fun t29 =>
  (callF o 84 [t29] r3.2.1 (r3.2.2+1+1)).bind fun r7 =>
  (Z1m r7.1 0).bind fun t31 =>
  (Z1m r7.1 1).bind fun t32 =>
  (Z1V .not t32).bind fun t34 =>
  Z08 t34
   ((Z1d [(.slice none 0 0)] []).bind fun t35 =>
   (stN r7.2.1 1 (ptrTo (256*c+0)) t35).bind fun h9 =>
   (ldN h9 1 (ptrTo (256*c+0))).bind fun v10 =>
   some ⟨.ret,[.tuple #[v10,(.int .i64 4)]],h9,(r7.2.2+1+1),[]⟩)
   ((o (Zfv none) [(ptrTo (256*c+0)),(.int .i64 0),r3.1,t31,(ptrTo (256*(r7.2.2+1)+0)),(.int .i64 1),(.int .i64 0)] (newB r7.2.1 (256*(r7.2.2+1)+0) [(.slice none 0 0)]) (r7.2.2+1+1+1+1) []).bind fun r11 =>
   cond (Z0u r11.e (.exit 0))
    ((Z2m (r11.v 2)).bind fun t127 =>
    (Z00 P .neq 3 (r11.v 5) t127).bind fun t128 =>
    Z08 t128
     ((Z1d [(.slice none 0 0)] []).bind fun t129 =>
     (stN r11.h 1 (r11.v 0) t129).bind fun h15 =>
     (Z07 h15 r11.df).bind fun h16 =>
     (ldN h16 1 (r11.v 0)).bind fun v17 =>
     some ⟨.ret,[.tuple #[v17,(.int .i64 4)]],h16,(r11.c+1+1),[]⟩)
     ((ldN r11.h 1 (r11.v 4)).bind fun t130 =>
     (callF o 14 [t130] r11.h (r11.c+1+1)).bind fun r18 =>
     (Z00 P .neq 33 r18.1 (.int .i64 0)).bind fun t132 =>
     Z08 t132
      ((Z1d [(.slice none 0 0)] []).bind fun t133 =>
      (stN r18.2.1 1 (r11.v 0) t133).bind fun h20 =>
      (Z07 h20 r11.df).bind fun h21 =>
      (ldN h21 1 (r11.v 0)).bind fun v22 =>
      some ⟨.ret,[.tuple #[v22,(.int .i64 7)]],h21,(r18.2.2+1),[]⟩)
      ((ldN r18.2.1 1 (r11.v 4)).bind fun t134 =>
      (stN r18.2.1 1 (r11.v 0) t134).bind fun h24 =>
      (Z07 h24 r11.df).bind fun h25 =>
      (ldN h25 1 (r11.v 0)).bind fun v26 =>
      some ⟨.ret,[.tuple #[v26,(.int .i64 0)]],h25,(r18.2.2+1),[]⟩)))
    (cond (Z0u r11.e .ret)
     ((Z07 r11.h r11.df).bind fun h12 =>
     (ldN h12 1 (r11.v 0)).bind fun v13 =>
     some ⟨.ret,[.tuple #[v13,r11.v 1]],h12,r11.c,[]⟩)
     (none)))))
theorem Zke (o:Orc H) (t0:Value) (h:H) (c:Nat):jx P o 135 none f62_c (Z0i (List.range 1) [t0]) h c [] (Kfn P Try.f62.results.toList)=ZmE o t0 h c:=by kernel_rfl
noncomputable def Zhf (o:Orc H) (t0:Value) (h:H) (c:Nat):Option (Rt H) :=
 (bif (t0:Value).cells.toList.all Z06 then
 some ⟨.ret,[(.func (.func 85) [].toArray [(ptrTo (256*c+0))].toArray)],(newB h (256*c+0) (t0:Value).cells.toList),(c+1+1),[]⟩
 else none)
theorem Zed (o:Orc H) (t0:Value) (h:H) (c:Nat):jx P o 4 none f63_c (Z0i (List.range 1) [t0]) h c [] (Kfn P Try.f63.results.toList)=Zhf o t0 h c:=by kernel_rfl
theorem f63_go {t0:Value} {h:FH} {c:Nat} {df:List Nat} {r:Rt FH} (e:Zhf G t0 h c=some r):G (.fn 63) [t0] h c df=some r:=Z0r (a:=ZcB) bk_63 rfl (fun args h c=>by cases args <;> rfl) rfl ((Zed G t0 h c).trans e)
noncomputable def Z21 (o:Orc H) (rd:Option Nat) (t2 t3 t6 t7:Value) (h:H) (c:Nat) (df:List Nat):Option (Rt H) :=
 (Z00 P .lss 3 t7 (.int .i64 4)).bind fun t8 =>
 Z08 t8
 ((ixV 4 false 1 t6 t7).bind fun t10 =>
 (ixA 4 1 t3 t10).bind fun t13 =>
 (stN h 1 t13 t7).bind fun h1 =>
 (Z00 P .add 3 t7 (.int .i64 1)).bind fun t14 =>
 some ⟨.normal,[t2,t3,t6,t14],h1,(c+1+1+1+1),df⟩)
 (some ⟨(.exit 0),[t2,t3,t6,t7],h,(c+1),df⟩)
theorem Z4t (o:Orc H) (rd:Option Nat) (t2 t3 t6 t7:Value) (h:H) (c:Nat) (df:List Nat):jx P o 16 rd Z2P (Z0i [2,3,6,7] [t2,t3,t6,t7]) h c df (Klp [2,3,6,7])=Z21 o rd t2 t3 t6 t7 h c df:=by kernel_rfl
noncomputable def Zhe (o:Orc H) (t0:Value) (h:H) (c:Nat):Option (Rt H) :=
 (bif (t0:Value).cells.toList.all Z06 then
 (ldN (newB (newB (newB h (256*c+0) (t0:Value).cells.toList) (256*c+1) [(.int .i64 0),(.int .i64 0),(.int .i64 0),(.int .i64 0)]) (256*(c+1)+0) [(.int .i64 0),(.int .i64 0),(.int .i64 0),(.int .i64 0)]) 4 (ptrTo (256*c+0))).bind fun t6 =>
 (o (Z3W none) [(ptrTo (256*c+1)),(ptrTo (256*(c+1)+0)),t6,(.int .i64 0)] (newB (newB (newB h (256*c+0) (t0:Value).cells.toList) (256*c+1) [(.int .i64 0),(.int .i64 0),(.int .i64 0),(.int .i64 0)]) (256*(c+1)+0) [(.int .i64 0),(.int .i64 0),(.int .i64 0),(.int .i64 0)]) (c+1+1+1) []).bind fun r0 =>
 cond (Z0u r0.e (.exit 0))
 ((ldN r0.h 4 (r0.v 1)).bind fun t15 =>
 (stN r0.h 4 (r0.v 0) t15).bind fun h2 =>
 (Z07 h2 r0.df).bind fun h3 =>
 (ldN h3 4 (r0.v 0)).bind fun v4 =>
 some ⟨.ret,[v4],h3,(r0.c+1),[]⟩)
 (none)
 else none)
theorem Zec (o:Orc H) (t0:Value) (h:H) (c:Nat):jx P o 16 none f64_c (Z0i (List.range 1) [t0]) h c [] (Kfn P Try.f64.results.toList)=Zhe o t0 h c:=by kernel_rfl
theorem f64_go {t0:Value} {h:FH} {c:Nat} {df:List Nat} {r:Rt FH} (e:Zhe G t0 h c=some r):G (.fn 64) [t0] h c df=some (gcR h c [] r):=Z0r (a:=ZcA) bk_64 rfl (fun args h c=>by cases args <;> rfl) rfl ((Zec G t0 h c).trans e)
theorem Zfs {rd:Option Nat} {t2 t3 t6 t7:Value} {h:FH} {c:Nat} {df:List Nat} {q r:Rt FH} (e:Z21 G rd t2 t3 t6 t7 h c df=some q) (hq:q.e = .normal) (k:G (Z3W rd) q.vs (gcR h c df q).h (gcR h c df q).c q.df=some r):G (Z3W rd) [t2,t3,t6,t7] h c df=some r:=Z0D ((Z4t G rd t2 t3 t6 t7 h c df).trans e) hq k
theorem Zfr {rd:Option Nat} {t2 t3 t6 t7:Value} {h:FH} {c:Nat} {df:List Nat} {q:Rt FH} (e:Z21 G rd t2 t3 t6 t7 h c df=some q) (hq:q.e ≠ .normal):G (Z3W rd) [t2,t3,t6,t7] h c df=some (gcR h c df q):=Z0E ((Z4t G rd t2 t3 t6 t7 h c df).trans e) hq
noncomputable def Z6S (o:Orc H) (rd:Option Nat) (t0 t1 t4 t5 t6 t7 t9 t23 t24 t25 t29:Value) (h:H) (c:Nat) (df:List Nat):Option (Rt H) :=
 (Z00 P .lss 3 t29 (.int .i64 4)).bind fun t30 =>
 Z08 t30
 (((ixA 2 1 t9 (.int .i64 1)).bind fun t33 =>
  (ld1 h t33).bind fun t34 =>
  (Z00 P .eql 3 t29 t34).bind fun t35 =>
  Z08 t35
   (some ⟨.normal,[t0,t1,t4,t5,t6,t7,t9,t23,t24,t25,t29],h,(c+1+1+1),df⟩)
   ((ixA 2 1 t9 (.int .i64 0)).bind fun t38 =>
   (ld1 h t38).bind fun t39 =>
   (Z00 P .mul 3 (.int .i64 16) t39).bind fun t40 =>
   (ixA 2 1 t9 (.int .i64 1)).bind fun t41 =>
   (ld1 h t41).bind fun t42 =>
   (Z00 P .mul 3 (.int .i64 4) t42).bind fun t43 =>
   (Z00 P .add 3 t40 t43).bind fun t44 =>
   (Z00 P .add 3 t44 t29).bind fun t46 =>
   (ixS 1 t1 t46).bind fun t47 =>
   (ld1 h t47).bind fun t48 =>
   (Z14 P h 146 t6 t48 (.bool true)).bind fun h1 =>
   (Z0c t0).bind fun t50 =>
   (Z02 t50 0).bind fun t51 =>
   (Z02 t51 0).bind fun t52 =>
   (ld1 h1 t52).bind fun t53 =>
   (ixA 2 1 t9 (.int .i64 0)).bind fun t54 =>
   (ld1 h1 t54).bind fun t55 =>
   (ixS 20 t53 t55).bind fun t57 =>
   (ixA 4 5 t57 t29).bind fun t58 =>
   (Z02 t58 0).bind fun t59 =>
   (ld1 h1 t59).bind fun t60 =>
   (Z00 P .lss 3 t60 (.int .i64 0)).bind fun t61 =>
   (Z08 t61
    ((Z02 t5 1).bind fun t62 =>
    (ld1 h1 t62).bind fun t63 =>
    (Z00 P .add 3 t63 (.int .i64 1)).bind fun t64 =>
    (Z02 t5 1).bind fun t65 =>
    (stN h1 1 t65 t64).bind fun h3 =>
    (Z02 t5 4).bind fun t66 =>
    (stN h3 1 t66 (.bool false)).bind fun h5 =>
    some ⟨.normal,[t0,t1,t4,t5,t6,t7,t9,t23,t24,t25,t29],h5,(c+1+1+1+1+1+1+1),df⟩)
    ((Z00 P .add 3 t7 (.int .i64 1)).bind fun t68 =>
    some ⟨.normal,[t0,t1,t4,t5,t6,t68,t9,t23,t24,t25,t29],h1,(c+1+1+1+1+1+1),df⟩):Option (Rt H)).bind fun r7 =>
   cond (Z0u r7.e .normal)
    (some ⟨.normal,[r7.v 0,r7.v 1,r7.v 2,r7.v 3,r7.v 4,r7.v 5,r7.v 6,r7.v 7,r7.v 8,r7.v 9,r7.v 10],r7.h,r7.c,r7.df⟩)
    (none)):Option (Rt H)).bind fun r8 =>
 cond (Z0u r8.e .normal)
  ((Z00 P .add 3 (r8.v 10) (.int .i64 1)).bind fun t69 =>
  some ⟨.normal,[r8.v 0,r8.v 1,r8.v 2,r8.v 3,r8.v 4,r8.v 5,r8.v 6,r8.v 7,r8.v 8,r8.v 9,t69],r8.h,(r8.c+1),r8.df⟩)
  (none))
 (some ⟨(.exit 2),[t0,t1,t4,t5,t6,t7,t9,t23,t24,t25,t29],h,(c+1),df⟩)
theorem ZaN (o:Orc H) (rd:Option Nat) (t0 t1 t4 t5 t6 t7 t9 t23 t24 t25 t29:Value) (h:H) (c:Nat) (df:List Nat):jx P o 90 rd Z2N (Z0i [0,1,4,5,6,7,9,23,24,25,29] [t0,t1,t4,t5,t6,t7,t9,t23,t24,t25,t29]) h c df (Klp [0,1,4,5,6,7,9,23,24,25,29])=Z6S o rd t0 t1 t4 t5 t6 t7 t9 t23 t24 t25 t29 h c df:=by kernel_rfl
noncomputable def Z6T (o:Orc H) (rd:Option Nat) (t0 t1 t4 t5 t6 t7 t23 t24 t25:Value) (h:H) (c:Nat) (df:List Nat):Option (Rt H) :=
 (Z00 P .lss 3 t25 t24).bind fun t26 =>
 Z08 t26
 ((ixS 2 t23 t25).bind fun t27 =>
 (ldN h 2 t27).bind fun t28 =>
 (stN (newB h (256*(c+1)+2) [(.int .i64 0),(.int .i64 0)]) 2 (ptrTo (256*(c+1)+2)) t28).bind fun h1 =>
 (o (Zfo rd) [t0,t1,t4,t5,t6,t7,(ptrTo (256*(c+1)+2)),t23,t24,t25,(.int .i64 0)] h1 (c+1+1+1) df).bind fun r2 =>
 cond (Z0u r2.e (.exit 2))
  ((Z00 P .add 3 (r2.v 9) (.int .i64 1)).bind fun t70 =>
  some ⟨.normal,[r2.v 0,r2.v 1,r2.v 2,r2.v 3,r2.v 4,r2.v 5,r2.v 7,r2.v 8,t70],r2.h,(r2.c+1),r2.df⟩)
  (none))
 (some ⟨(.exit 0),[t0,t1,t4,t5,t6,t7,t23,t24,t25],h,(c+1),df⟩)
theorem ZaO (o:Orc H) (rd:Option Nat) (t0 t1 t4 t5 t6 t7 t23 t24 t25:Value) (h:H) (c:Nat) (df:List Nat):jx P o 90 rd Z2O (Z0i [0,1,4,5,6,7,23,24,25] [t0,t1,t4,t5,t6,t7,t23,t24,t25]) h c df (Klp [0,1,4,5,6,7,23,24,25])=Z6T o rd t0 t1 t4 t5 t6 t7 t23 t24 t25 h c df:=by kernel_rfl
noncomputable def ZmC (o:Orc H) (t0 t1:Value) (h:H) (c:Nat):Option (Rt H) :=
 (Z0c t0).bind fun t12 =>
 (Z02 t12 1).bind fun t13 =>
 (ld1 (newB h (256*c+0) [(.int .i64 0),(.int .i64 0),(.int .i64 0),(.int .i64 0),(.bool false),(.bool false)]) t13).bind fun t14 =>
 (Z2m t14).bind fun t15 =>
 (callF o 86 [t0] (newB h (256*c+0) [(.int .i64 0),(.int .i64 0),(.int .i64 0),(.int .i64 0),(.bool false),(.bool false)]) (c+1+1)).bind fun r0 =>
 (Z1d [(.int .i64 0),(.int .i64 0),(.int .i64 0),(.int .i64 0),(.bool false),(.bool false)] [(0,1,t15),(4,1,(.bool true)),(5,1,r0.1)]).bind fun t18 =>
 (stN (newB r0.2.1 (256*(c+1)+8) [(.int .i64 0),(.int .i64 0),(.int .i64 0),(.int .i64 0),(.bool false),(.bool false)]) 6 (ptrTo (256*(c+1)+8)) t18).bind fun h2 =>
 (bif (Z19 (Z2g t13) (newB h (256*c+0) [(.int .i64 0),(.int .i64 0),(.int .i64 0),(.int .i64 0),(.bool false),(.bool false)]) r0.2.1 && (Z19 (Z2g t14) (newB h (256*c+0) [(.int .i64 0),(.int .i64 0),(.int .i64 0),(.int .i64 0),(.bool false),(.bool false)]) r0.2.1 && true)) then
 (Z0c t0).bind fun t21 =>
 (Z02 t21 1).bind fun t22 =>
 (ld1 (HeapC.set h2 (256*r0.2.2+0) (.map [])) t22).bind fun t23 =>
 (Z2m t23).bind fun t24 =>
 (o (Zfp none) [t0,t1,(ptrTo (256*c+0)),(ptrTo (256*(c+1)+8)),(.map (some (256*r0.2.2+0))),(.int .i64 0),t23,t24,(.int .i64 0)] (HeapC.set h2 (256*r0.2.2+0) (.map [])) (r0.2.2+1+1+1) []).bind fun r3 =>
 cond (Z0u r3.e (.exit 0))
 ((Z02 (r3.v 3) 1).bind fun t71 =>
 (ld1 r3.h t71).bind fun t72 =>
 (Z00 P .quo 3 (r3.v 5) (.int .i64 2)).bind fun t74 =>
 (Z00 P .add 3 t72 t74).bind fun t75 =>
 (Z02 (r3.v 3) 1).bind fun t76 =>
 (stN r3.h 1 t76 t75).bind fun h5 =>
 (Zew P h5 146 (r3.v 4)).bind fun t78 =>
 (Z02 (r3.v 3) 2).bind fun t79 =>
 (stN h5 1 t79 t78).bind fun h7 =>
 (Z02 (r3.v 3) 2).bind fun t80 =>
 (ld1 h7 t80).bind fun t81 =>
 (Z02 (r3.v 3) 1).bind fun t82 =>
 (ld1 h7 t82).bind fun t83 =>
 (Z00 P .sub 3 t81 t83).bind fun t84 =>
 (Z02 (r3.v 3) 0).bind fun t85 =>
 (ld1 h7 t85).bind fun t86 =>
 (Z00 P .add 3 t84 t86).bind fun t87 =>
 (Z02 (r3.v 3) 3).bind fun t88 =>
 (stN h7 1 t88 t87).bind fun h9 =>
 (ldN h9 6 (r3.v 3)).bind fun t89 =>
 (stN h9 6 (r3.v 2) t89).bind fun h11 =>
 (Z07 h11 r3.df).bind fun h12 =>
 (ldN h12 6 (r3.v 2)).bind fun v13 =>
 some ⟨.ret,[v13],h12,(r3.c+1+1+1+1),[]⟩)
 (none)
 else none)
theorem Zkd (o:Orc H) (t0 t1:Value) (h:H) (c:Nat):jx P o 90 none f65_c (Z0i (List.range 2) [t0,t1]) h c [] (Kfn P Try.f65.results.toList)=ZmC o t0 t1 h c:=by kernel_rfl
noncomputable def Z3V (o:Orc H) (rd:Option Nat) (t2 t3 t10 t11:Value) (h:H) (c:Nat) (df:List Nat):Option (Rt H) :=
 (Z00 P .lss 3 t11 t10).bind fun t12 =>
 Z08 t12
 ((Z02 t3 0).bind fun t14 =>
 (ld1 h t14).bind fun t15 =>
 (ixS 1 t15 t11).bind fun t18 =>
 (stN h 1 t18 t11).bind fun h1 =>
 (Z00 P .add 3 t11 (.int .i64 1)).bind fun t19 =>
 some ⟨.normal,[t2,t3,t10,t19],h1,(c+1+1+1+1),df⟩)
 (some ⟨(.exit 0),[t2,t3,t10,t11],h,(c+1),df⟩)
theorem Z4s (o:Orc H) (rd:Option Nat) (t2 t3 t10 t11:Value) (h:H) (c:Nat) (df:List Nat):jx P o 21 rd Z2M (Z0i [2,3,10,11] [t2,t3,t10,t11]) h c df (Klp [2,3,10,11])=Z3V o rd t2 t3 t10 t11 h c df:=by kernel_rfl
noncomputable def Zhd (o:Orc H) (t0:Value) (h:H) (c:Nat):Option (Rt H) :=
 (mkS 1 8 [(.int .i64 0)] t0 t0).bind fun r0 =>
 (Z1d [(.slice none 0 0)] [(0,1,(.slice (some ⟨(256*(c+1)+1),0,none⟩) r0.2.1 r0.2.2))]).bind fun t7 =>
 (stN (newB (newB (newB h (256*c+0) [(.slice none 0 0)]) (256*(c+1)+1) r0.1) (256*(c+1)+3) [(.slice none 0 0)]) 1 (ptrTo (256*(c+1)+3)) t7).bind fun h2 =>
 (Z02 (ptrTo (256*(c+1)+3)) 0).bind fun t8 =>
 (ld1 h2 t8).bind fun t9 =>
 (Z2m t9).bind fun t10 =>
 (o (Z9y none) [(ptrTo (256*c+0)),(ptrTo (256*(c+1)+3)),t10,(.int .i64 0)] h2 (c+1+1+1) []).bind fun r3 =>
 cond (Z0u r3.e (.exit 0))
 ((ldN r3.h 1 (r3.v 1)).bind fun t20 =>
 (stN r3.h 1 (r3.v 0) t20).bind fun h5 =>
 (Z07 h5 r3.df).bind fun h6 =>
 (ldN h6 1 (r3.v 0)).bind fun v7 =>
 some ⟨.ret,[v7],h6,(r3.c+1),[]⟩)
 (none)
theorem Zeb (o:Orc H) (t0:Value) (h:H) (c:Nat):jx P o 21 none f66_c (Z0i (List.range 1) [t0]) h c [] (Kfn P Try.f66.results.toList)=Zhd o t0 h c:=by kernel_rfl
theorem f66_go {t0:Value} {h:FH} {c:Nat} {df:List Nat} {r:Rt FH} (e:Zhd G t0 h c=some r):G (.fn 66) [t0] h c df=some r:=Z0r (a:=Zcz) bk_66 rfl (fun args h c=>by cases args <;> rfl) rfl ((Zeb G t0 h c).trans e)
noncomputable def Zfn (o:Orc H) (t0 t1 t2:Value) (h:H) (c:Nat):Option (Rt H) :=
 (callF o 68 [t0,t1] h (c+1)).bind fun r0 =>
 (callF o 68 [t0,t2] r0.2.1 r0.2.2).bind fun r1 =>
 (Z0c t0).bind fun t13 =>
 (Z02 t13 0).bind fun t14 =>
 (ld1 r1.2.1 t14).bind fun t15 =>
 (Z4J max2 [r0.1,r1.1]).bind fun t18 =>
 (Z4J min2 [r0.1,r1.1]).bind fun t21 =>
 (ixS 1 t15 t18).bind fun t22 =>
 (stN r1.2.1 1 t22 t21).bind fun h5 =>
 some ⟨.ret,[.tuple #[]],h5,(r1.2.2+1),[]⟩
theorem Zea (o:Orc H) (t0 t1 t2:Value) (h:H) (c:Nat):jx P o 23 none f67_c (Z0i (List.range 3) [t0,t1,t2]) h c [] (Kfn P Try.f67.results.toList)=Zfn o t0 t1 t2 h c:=by kernel_rfl
theorem f67_go {t0 t1 t2:Value} {h:FH} {c:Nat} {df:List Nat} {r:Rt FH} (e:Zfn G t0 t1 t2 h c=some r):G (.fn 67) [t0,t1,t2] h c df=some (gcR h c [] r):=Z0r (a:=Zcy) bk_67 rfl (fun args h c=>by cases args <;> rfl) rfl ((Zea G t0 t1 t2 h c).trans e)
noncomputable def Z5e (o:Orc H) (rd:Option Nat) (t0 t1:Value) (h:H) (c:Nat) (df:List Nat):Option (Rt H) :=
 (Z0c t0).bind fun t6 =>
 (Z02 t6 0).bind fun t7 =>
 (ld1 h t7).bind fun t8 =>
 (ixS 1 t8 t1).bind fun t10 =>
 (ld1 h t10).bind fun t11 =>
 (Z00 P .neq 3 t11 t1).bind fun t13 =>
 Z08 t13
 ((Z0c t0).bind fun t15 =>
 (Z02 t15 0).bind fun t16 =>
 (ld1 h t16).bind fun t17 =>
 (Z0c t0).bind fun t20 =>
 (Z02 t20 0).bind fun t21 =>
 (ld1 h t21).bind fun t22 =>
 (Z0c t0).bind fun t24 =>
 (Z02 t24 0).bind fun t25 =>
 (ld1 h t25).bind fun t26 =>
 (ixS 1 t26 t1).bind fun t28 =>
 (ld1 h t28).bind fun t29 =>
 (ixS 1 t22 t29).bind fun t30 =>
 (ld1 h t30).bind fun t31 =>
 (ixS 1 t17 t1).bind fun t32 =>
 (stN h 1 t32 t31).bind fun h1 =>
 (Z0c t0).bind fun t34 =>
 (Z02 t34 0).bind fun t35 =>
 (ld1 h1 t35).bind fun t36 =>
 (ixS 1 t36 t1).bind fun t38 =>
 (ld1 h1 t38).bind fun t39 =>
 some ⟨.normal,[t0,t39],h1,(c+1+1+1),df⟩)
 (some ⟨(.exit 0),[t0,t1],h,(c+1),df⟩)
theorem Z66 (o:Orc H) (rd:Option Nat) (t0 t1:Value) (h:H) (c:Nat) (df:List Nat):jx P o 41 rd Z2L (Z0i [0,1] [t0,t1]) h c df (Klp [0,1])=Z5e o rd t0 t1 h c df:=by kernel_rfl
noncomputable def Zfm (o:Orc H) (t0 t1:Value) (h:H) (c:Nat):Option (Rt H) :=
 (o (Z9x none) [t0,t1] h (c+1) []).bind fun r0 =>
 cond (Z0u r0.e (.exit 0))
 ((Z07 r0.h r0.df).bind fun h1 =>
 some ⟨.ret,[r0.v 1],h1,(r0.c+1),[]⟩)
 (none)
theorem Ze9 (o:Orc H) (t0 t1:Value) (h:H) (c:Nat):jx P o 41 none f68_c (Z0i (List.range 2) [t0,t1]) h c [] (Kfn P Try.f68.results.toList)=Zfm o t0 t1 h c:=by kernel_rfl
theorem f68_go {t0 t1:Value} {h:FH} {c:Nat} {df:List Nat} {r:Rt FH} (e:Zfm G t0 t1 h c=some r):G (.fn 68) [t0,t1] h c df=some (gcR h c [] r):=Z0r (a:=Zcx) bk_68 rfl (fun args h c=>by cases args <;> rfl) rfl ((Ze9 G t0 t1 h c).trans e)
noncomputable def ZmA (o:Orc H) (t0:Value) (h:H) (c:Nat):Option (Rt H) :=
 (bif (t0:Value).cells.toList.all Z06 then
 (Z02 (ptrTo (256*c+0)) 1).bind fun t3 =>
 (ld1 (newB h (256*c+0) (t0:Value).cells.toList) t3).bind fun t4 =>
 some ⟨.ret,[t4],(newB h (256*c+0) (t0:Value).cells.toList),(c+1+1),[]⟩
 else none)
theorem Zkc (o:Orc H) (t0:Value) (h:H) (c:Nat):jx P o 5 none f69_c (Z0i (List.range 1) [t0]) h c [] (Kfn P Try.f69.results.toList)=ZmA o t0 h c:=by kernel_rfl
noncomputable def Zmy (o:Orc H) (t0:Value) (h:H) (c:Nat):Option (Rt H) :=
 (bif (t0:Value).cells.toList.all Z06 then
 (Z02 (ptrTo (256*c+0)) 0).bind fun t3 =>
 (ld1 (newB h (256*c+0) (t0:Value).cells.toList) t3).bind fun t4 =>
 (Z1V .not t4).bind fun t5 =>
 (gd t5 true (newB h (256*c+0) (t0:Value).cells.toList) (c+1+1) (Z02 (ptrTo (256*c+0)) 2)).bind fun r0 =>
 (gd t5 true r0.2.1 r0.2.2 (ld1 r0.2.1 r0.1)).bind fun r1 =>
 (Z0H t5 r1.1 (.bool false)).bind fun t9 =>
 some ⟨.ret,[t9],r1.2.1,r1.2.2,[]⟩
 else none)
theorem Zkb (o:Orc H) (t0:Value) (h:H) (c:Nat):jx P o 10 none f70_c (Z0i (List.range 1) [t0]) h c [] (Kfn P Try.f70.results.toList)=Zmy o t0 h c:=by kernel_rfl
noncomputable def Zmw (o:Orc H) (t0:Value) (h:H) (c:Nat):Option (Rt H) :=
 (bif (t0:Value).cells.toList.all Z06 then
 (Z02 (ptrTo (256*c+0)) 0).bind fun t3 =>
 (ld1 (newB h (256*c+0) (t0:Value).cells.toList) t3).bind fun t4 =>
 (Z1V .not t4).bind fun t5 =>
 some ⟨.ret,[t5],(newB h (256*c+0) (t0:Value).cells.toList),(c+1+1),[]⟩
 else none)
theorem Zka (o:Orc H) (t0:Value) (h:H) (c:Nat):jx P o 6 none f71_c (Z0i (List.range 1) [t0]) h c [] (Kfn P Try.f71.results.toList)=Zmw o t0 h c:=by kernel_rfl
noncomputable def Zmu (o:Orc H) (t0:Value) (h:H) (c:Nat):Option (Rt H) :=
 (bif (t0:Value).cells.toList.all Z06 then
 (Z02 (ptrTo (256*c+0)) 3).bind fun t3 =>
 (ld1 (newB h (256*c+0) (t0:Value).cells.toList) t3).bind fun t4 =>
 some ⟨.ret,[t4],(newB h (256*c+0) (t0:Value).cells.toList),(c+1+1),[]⟩
 else none)
theorem Zk9 (o:Orc H) (t0:Value) (h:H) (c:Nat):jx P o 5 none f72_c (Z0i (List.range 1) [t0]) h c [] (Kfn P Try.f72.results.toList)=Zmu o t0 h c:=by kernel_rfl

variable {H:Type} [HeapC H]
noncomputable def Z5d (o:Orc H) (rd:Option Nat) (t0 t2 t3 t5:Value) (h:H) (c:Nat) (df:List Nat):Option (Rt H) :=
 (ldN h 5 t5).bind fun t9 =>
 (Z3A o h (c+1) t0 [t9]).bind fun r0 =>
 Z08 r0.1
 ((Z02 t2 0).bind fun t11 =>
 (ld1 r0.2.1 t11).bind fun t12 =>
 (Z02 t5 0).bind fun t13 =>
 (ld1 r0.2.1 t13).bind fun t14 =>
 (ld1 r0.2.1 t3).bind fun t15 =>
 (Z02 t5 1).bind fun t16 =>
 (ixA 4 1 t16 t15).bind fun t17 =>
 (ld1 r0.2.1 t17).bind fun t18 =>
 (ixS 20 t12 t14).bind fun t19 =>
 (ixA 4 5 t19 t18).bind fun t20 =>
 (ldN r0.2.1 5 t20).bind fun t21 =>
 (stN (newB r0.2.1 (256*r0.2.2+11) [(.int .i64 0),(.int .i64 0),(.int .i64 0),(.int .i64 0),(.int .i64 0)]) 5 (ptrTo (256*r0.2.2+11)) t21).bind fun h2 =>
 (Z02 (ptrTo (256*r0.2.2+11)) 0).bind fun t22 =>
 (ld1 h2 t22).bind fun t23 =>
 (Z00 P .lss 3 t23 (.int .i64 0)).bind fun t24 =>
 Z08 t24
  (some ⟨.ret,[t0,t2,t3,t5],h2,(r0.2.2+1+1),df⟩)
  ((Z02 (ptrTo (256*r0.2.2+11)) 0).bind fun t25 =>
  (ld1 h2 t25).bind fun t26 =>
  (Z02 (ptrTo (256*r0.2.2+11)) 1).bind fun t27 =>
  (ldN h2 4 t27).bind fun t28 =>
  (Z02 t5 1).bind fun t29 =>
  (ldN h2 4 t29).bind fun t30 =>
  (Z1d [(.int .i64 0),(.int .i64 0),(.int .i64 0),(.int .i64 0)] [(0,1,(.int .i64 0)),(1,1,(.int .i64 1)),(2,1,(.int .i64 3)),(3,1,(.int .i64 2))]).bind fun t31 =>
  (callF o 79 [t30,t31] h2 (r0.2.2+1+1+1)).bind fun r3 =>
  (callF o 79 [t28,r3.1] r3.2.1 r3.2.2).bind fun r4 =>
  (Z1d [(.int .i64 0),(.int .i64 0),(.int .i64 0),(.int .i64 0),(.int .i64 0)] [(0,1,t26),(1,4,r4.1)]).bind fun t34 =>
  (stN r4.2.1 5 t5 t34).bind fun h6 =>
  (bif (Z19 (Z2g t25) h2 r3.2.1 && (Z19 (Z2g t25) r3.2.1 r4.2.1 && (Z19 (Z2g t27) h2 r3.2.1 && true))) then
  (ldN h6 5 t5).bind fun t35 =>
  (stN (newB h6 (256*(r4.2.2+1)+0) [(.int .i64 0),(.int .i64 0),(.int .i64 0),(.int .i64 0),(.int .i64 0)]) 5 (ptrTo (256*(r4.2.2+1)+0)) t35).bind fun h9 =>
  some ⟨.normal,[t0,t2,t3,(ptrTo (256*(r4.2.2+1)+0))],h9,(r4.2.2+1+1),df⟩
  else none)))
 (some ⟨(.exit 0),[t0,t2,t3,t5],r0.2.1,r0.2.2,df⟩)
theorem Z4r (o:Orc H) (rd:Option Nat) (t0 t2 t3 t5:Value) (h:H) (c:Nat) (df:List Nat):jx P o 36 rd Z6R (Z0i [0,2,3,5] [t0,t2,t3,t5]) h c df (Klp [0,2,3,5])=Z5d o rd t0 t2 t3 t5 h c df:=by kernel_rfl
noncomputable def Zms (o:Orc H) (t0 t1 t2 t3:Value) (h:H) (c:Nat):Option (Rt H) :=
 (ldN h 5 t1).bind fun t7 =>
 (stN (newB h (256*c+1) [(.int .i64 0),(.int .i64 0),(.int .i64 0),(.int .i64 0),(.int .i64 0)]) 5 (ptrTo (256*c+1)) t7).bind fun h1 =>
 (o (Z9w none) [t0,t2,t3,(ptrTo (256*c+1))] h1 (c+1) []).bind fun r2 =>
 cond (Z0u r2.e (.exit 0))
 ((Z07 r2.h r2.df).bind fun h4 =>
 some ⟨.ret,[.tuple #[]],h4,r2.c,[]⟩)
 (cond (Z0u r2.e .ret)
  ((Z07 r2.h r2.df).bind fun h3 =>
  some ⟨.ret,[.tuple #[]],h3,r2.c,[]⟩)
  (none))
theorem Zk8 (o:Orc H) (t0 t1 t2 t3:Value) (h:H) (c:Nat):jx P o 36 none f78_c (Z0i (List.range 4) [t0,t1,t2,t3]) h c [] (Kfn P Try.f78.results.toList)=Zms o t0 t1 t2 t3 h c:=by kernel_rfl
theorem f78_go {t0 t1 t2 t3:Value} {h:FH} {c:Nat} {df:List Nat} {r:Rt FH} (e:Zms G t0 t1 t2 t3 h c=some r):G (.fn 78) [t0,t1,t2,t3] h c df=some r:=Z0r (a:=Zk7) bk_78 rfl (fun args h c=>by cases args <;> rfl) rfl ((Zk8 G t0 t1 t2 t3 h c).trans e)
noncomputable def Zmr (o:Orc H) (t0 t1:Value) (h:H) (c:Nat):Option (Rt H) :=
 (bif (t0:Value).cells.toList.all Z06 then
 (bif (t1:Value).cells.toList.all Z06 then
 (ldN (newB (newB (newB h (256*c+0) (t0:Value).cells.toList) (256*c+1) (t1:Value).cells.toList) (256*c+2) [(.int .i64 0),(.int .i64 0),(.int .i64 0),(.int .i64 0)]) 4 (ptrTo (256*c+0))).bind fun t5 =>
 (callF o 56 [t5] (newB (newB (newB h (256*c+0) (t0:Value).cells.toList) (256*c+1) (t1:Value).cells.toList) (256*c+2) [(.int .i64 0),(.int .i64 0),(.int .i64 0),(.int .i64 0)]) (c+1+1)).bind fun r0 =>
 (Z1V .not r0.1).bind fun t7 =>
 (gd t7 false r0.2.1 r0.2.2 (ldN r0.2.1 4 (ptrTo (256*c+1)))).bind fun r1 =>
 (gg t7 false r1.2.1 r1.2.2 (callF o 56 [r1.1] r1.2.1 r1.2.2)).bind fun r2 =>
 (gd t7 false r2.2.1 r2.2.2 (Z1V .not r2.1)).bind fun r3 =>
 (Z0H t7 (.bool true) r3.1).bind fun t12 =>
 Z08 t12
 ((Z1d [(.int .i64 0),(.int .i64 0),(.int .i64 0),(.int .i64 0)] []).bind fun t13 =>
 (stN r3.2.1 4 (ptrTo (256*c+2)) t13).bind fun h5 =>
 (ldN h5 4 (ptrTo (256*c+2))).bind fun v6 =>
 some ⟨.ret,[v6],h5,(r3.2.2+1),[]⟩)
 ((ldN r3.2.1 4 (ptrTo (256*c+0))).bind fun t14 =>
 (ldN r3.2.1 4 (ptrTo (256*c+1))).bind fun t15 =>
 (callF o 90 [t14,t15] r3.2.1 (r3.2.2+1)).bind fun r7 =>
 (stN r7.2.1 4 (ptrTo (256*c+2)) r7.1).bind fun h9 =>
 (ldN h9 4 (ptrTo (256*c+2))).bind fun v10 =>
 some ⟨.ret,[v10],h9,r7.2.2,[]⟩)
 else none)
 else none)
theorem Zk6 (o:Orc H) (t0 t1:Value) (h:H) (c:Nat):jx P o 17 none f79_c (Z0i (List.range 2) [t0,t1]) h c [] (Kfn P Try.f79.results.toList)=Zmr o t0 t1 h c:=by kernel_rfl
theorem f79_go {t0 t1:Value} {h:FH} {c:Nat} {df:List Nat} {r:Rt FH} (e:Zmr G t0 t1 h c=some r):G (.fn 79) [t0,t1] h c df=some (gcR h c [] r):=Z0r (a:=Zk5) bk_79 rfl (fun args h c=>by cases args <;> rfl) rfl ((Zk6 G t0 t1 h c).trans e)
noncomputable def Z6Q (o:Orc H) (rd:Option Nat) (t3 t8 t9:Value) (h:H) (c:Nat) (df:List Nat):Option (Rt H) :=
 (Z00 P .lss 3 t9 t8).bind fun t10 =>
 Z08 t10
 ((ixS 1 t3 t9).bind fun t15 =>
 (stN h 1 t15 t9).bind fun h1 =>
 (Z00 P .add 3 t9 (.int .i64 1)).bind fun t16 =>
 some ⟨.normal,[t3,t8,t16],h1,(c+1+1+1+1),df⟩)
 (some ⟨(.exit 0),[t3,t8,t9],h,(c+1),df⟩)
theorem Z65 (o:Orc H) (rd:Option Nat) (t3 t8 t9:Value) (h:H) (c:Nat) (df:List Nat):jx P o 18 rd Z6P (Z0i [3,8,9] [t3,t8,t9]) h c df (Klp [3,8,9])=Z6Q o rd t3 t8 t9 h c df:=by kernel_rfl
noncomputable def Zmq (o:Orc H) (t0:Value) (h:H) (c:Nat):Option (Rt H) :=
 (mkS 1 8 [(.int .i64 0)] t0 t0).bind fun r0 =>
 (Z2m (.slice (some ⟨(256*(c+1)+1),0,none⟩) r0.2.1 r0.2.2)).bind fun t8 =>
 (o (Z9v none) [(.slice (some ⟨(256*(c+1)+1),0,none⟩) r0.2.1 r0.2.2),t8,(.int .i64 0)] (newB h (256*(c+1)+1) r0.1) (c+1+1+1) []).bind fun r1 =>
 cond (Z0u r1.e (.exit 0))
 ((Z07 r1.h r1.df).bind fun h2 =>
 some ⟨.ret,[r1.v 0],h2,(r1.c+1),[]⟩)
 (none)
theorem Zk4 (o:Orc H) (t0:Value) (h:H) (c:Nat):jx P o 18 none f80_c (Z0i (List.range 1) [t0]) h c [] (Kfn P Try.f80.results.toList)=Zmq o t0 h c:=by kernel_rfl
theorem f80_go {t0:Value} {h:FH} {c:Nat} {df:List Nat} {r:Rt FH} (e:Zmq G t0 h c=some r):G (.fn 80) [t0] h c df=some r:=Z0r (a:=Zk3) bk_80 rfl (fun args h c=>by cases args <;> rfl) rfl ((Zk4 G t0 h c).trans e)
noncomputable def Zk2 (o:Orc H) (t0 t1 t2:Value) (h:H) (c:Nat):Option (Rt H) :=
 (callF o 87 [t0,t1] h (c+1)).bind fun r0 =>
 (callF o 87 [t0,t2] r0.2.1 (r0.2.2+1)).bind fun r2 =>
 (Z00 P .lss 3 r0.1 r2.1).bind fun t14 =>
 (Z08 t14
  ((ixS 1 t0 r2.1).bind fun t18 =>
  (stN r2.2.1 1 t18 r0.1).bind fun h5 =>
  some ⟨.normal,[],h5,(r2.2.2+1+1),[]⟩)
  ((ixS 1 t0 r0.1).bind fun t22 =>
  (stN r2.2.1 1 t22 r2.1).bind fun h7 =>
  some ⟨.normal,[],h7,(r2.2.2+1+1),[]⟩):Option (Rt H)).bind fun r8 =>
 cond (Z0u r8.e .normal)
 ((Z07 r8.h r8.df).bind fun h9 =>
 some ⟨.ret,[.tuple #[]],h9,r8.c,[]⟩)
 (none)
theorem Zk1 (o:Orc H) (t0 t1 t2:Value) (h:H) (c:Nat):jx P o 23 none f81_c (Z0i (List.range 3) [t0,t1,t2]) h c [] (Kfn P Try.f81.results.toList)=Zk2 o t0 t1 t2 h c:=by kernel_rfl
theorem f81_go {t0 t1 t2:Value} {h:FH} {c:Nat} {df:List Nat} {r:Rt FH} (e:Zk2 G t0 t1 t2 h c=some r):G (.fn 81) [t0,t1,t2] h c df=some (gcR h c [] r):=Z0r (a:=Zk0) bk_81 rfl (fun args h c=>by cases args <;> rfl) rfl ((Zk1 G t0 t1 t2 h c).trans e)
noncomputable def Z6O (o:Orc H) (rd:Option Nat) (t0 t4 t5 t12 t13:Value) (h:H) (c:Nat) (df:List Nat):Option (Rt H) :=
 (Z00 P .lss 3 t13 t12).bind fun t14 =>
 Z08 t14
 ((callF o 87 [t0,t13] h (c+1+1+1)).bind fun r0 =>
 (Z00 P .eql 3 r0.1 t13).bind fun t21 =>
 (Z08 t21
  ((ixS 1 t4 t13).bind fun t25 =>
  (stN r0.2.1 1 t25 t5).bind fun h2 =>
  (Z00 P .add 3 t5 (.int .i64 1)).bind fun t27 =>
  some ⟨.normal,[t0,t4,t27,t12,t13],h2,(r0.2.2+1+1+1),df⟩)
  ((ixS 1 t4 r0.1).bind fun t32 =>
  (ld1 r0.2.1 t32).bind fun t33 =>
  (ixS 1 t4 t13).bind fun t34 =>
  (stN r0.2.1 1 t34 t33).bind fun h5 =>
  some ⟨.normal,[t0,t4,t5,t12,t13],h5,(r0.2.2+1+1),df⟩):Option (Rt H)).bind fun r6 =>
 cond (Z0u r6.e .normal)
  ((Z00 P .add 3 (r6.v 4) (.int .i64 1)).bind fun t35 =>
  some ⟨.normal,[r6.v 0,r6.v 1,r6.v 2,r6.v 3,t35],r6.h,(r6.c+1),r6.df⟩)
  (none))
 (some ⟨(.exit 0),[t0,t4,t5,t12,t13],h,(c+1),df⟩)
theorem Z64 (o:Orc H) (rd:Option Nat) (t0 t4 t5 t12 t13:Value) (h:H) (c:Nat) (df:List Nat):jx P o 38 rd Z6N (Z0i [0,4,5,12,13] [t0,t4,t5,t12,t13]) h c df (Klp [0,4,5,12,13])=Z6O o rd t0 t4 t5 t12 t13 h c df:=by kernel_rfl
noncomputable def Zmp (o:Orc H) (t0:Value) (h:H) (c:Nat):Option (Rt H) :=
 (Z2m t0).bind fun t9 =>
 (mkS 1 8 [(.int .i64 0)] t9 t9).bind fun r0 =>
 (Z2m t0).bind fun t12 =>
 (o (Z9u none) [t0,(.slice (some ⟨(256*(c+1)+2),0,none⟩) r0.2.1 r0.2.2),(.int .i64 0),t12,(.int .i64 0)] (newB h (256*(c+1)+2) r0.1) (c+1+1+1+1) []).bind fun r1 =>
 cond (Z0u r1.e (.exit 0))
 ((Z07 r1.h r1.df).bind fun h2 =>
 some ⟨.ret,[.tuple #[r1.v 1,r1.v 2]],h2,(r1.c+1),[]⟩)
 (none)
theorem ZjZ (o:Orc H) (t0:Value) (h:H) (c:Nat):jx P o 38 none f82_c (Z0i (List.range 1) [t0]) h c [] (Kfn P Try.f82.results.toList)=Zmp o t0 h c:=by kernel_rfl
theorem f82_go {t0:Value} {h:FH} {c:Nat} {df:List Nat} {r:Rt FH} (e:Zmp G t0 h c=some r):G (.fn 82) [t0] h c df=some r:=Z0r (a:=ZjY) bk_82 rfl (fun args h c=>by cases args <;> rfl) rfl ((ZjZ G t0 h c).trans e)
noncomputable def Z6M (o:Orc H) (rd:Option Nat) (t0 t3 t4 t5:Value) (h:H) (c:Nat) (df:List Nat):Option (Rt H) :=
 (Zew P h 9 t0).bind fun t9 =>
 (Z00 P .leq 3 t5 t9).bind fun t10 =>
 Z08 t10
 ((Zew P h 9 t0).bind fun t15 =>
 (Z00 P .eql 3 t5 t15).bind fun t16 =>
 (gd t16 false h (c+1+1) (some t0)).bind fun r0 =>
 (gd t16 false r0.2.1 r0.2.2 (some t5)).bind fun r1 =>
 (gd t16 false r1.2.1 r1.2.2 (ZeW r0.1 r1.1)).bind fun r2 =>
 (gd t16 false r2.2.1 r2.2.2 (Z00 P .eql 5 r2.1 (.int .u8 32))).bind fun r3 =>
 (Z0H t16 (.bool true) r3.1).bind fun t22 =>
 (Z1V .not t22).bind fun t24 =>
 (gd t24 true r3.2.1 (r3.2.2+1) (some t4)).bind fun r4 =>
 (gd t24 true r4.2.1 r4.2.2 (Z00 P .lss 3 r4.1 (.int .i64 0))).bind fun r5 =>
 (Z0H t24 r5.1 (.bool false)).bind fun t28 =>
 (Z08 t28
  (some ⟨.normal,[t0,t3,t5,t5,t22],r5.2.1,(r5.2.2+1),df⟩)
  (some ⟨.normal,[t0,t3,t4,t5,t22],r5.2.1,r5.2.2,df⟩):Option (Rt H)).bind fun r7 =>
 cond (Z0u r7.e .normal)
  (((gv (r7.v 4) true).bind fun w=>cond w (Z6p r7.h (r7.c+1) (some (r7.v 2))) (some (undef,r7.h,(r7.c+1)))).bind fun r8 =>
  ((gv (r7.v 4) true).bind fun w=>cond w (Z6p r8.2.1 r8.2.2 (Z00 P .geq 3 r8.1 (.int .i64 0))) (some (undef,r8.2.1,r8.2.2))).bind fun r9 =>
  (Z0H (r7.v 4) r9.1 (.bool false)).bind fun t34 =>
  (Z08 t34
   ((slStrV (r7.v 0) (some (r7.v 2)) (some (r7.v 3))).bind fun t39 =>
   (Z8N [(.string (ByteArray.mk #[]))] [(0,1,t39)]).bind fun r10 =>
   (Z5o (newB r9.2.1 (256*r9.2.2+5) r10) (256*r9.2.2+6) 1 16 (r7.v 1) (.slice (some ⟨(256*r9.2.2+5),0,none⟩) 1 1)).bind fun r11 =>
   some ⟨.normal,[r7.v 0,r11.1,(.int .i64 (-1)),r7.v 3],r11.2,(r9.2.2+1+1),r7.df⟩)
   (some ⟨.normal,[r7.v 0,r7.v 1,r7.v 2,r7.v 3],r9.2.1,r9.2.2,r7.df⟩):Option (Rt H)).bind fun r14 =>
  cond (Z0u r14.e .normal)
   ((Z00 P .add 3 (r14.v 3) (.int .i64 1)).bind fun t12 =>
   some ⟨.normal,[r14.v 0,r14.v 1,r14.v 2,t12],r14.h,(r14.c+1),r14.df⟩)
   (none))
  (none))
 (some ⟨(.exit 0),[t0,t3,t4,t5],h,(c+1),df⟩)
theorem ZaK (o:Orc H) (rd:Option Nat) (t0 t3 t4 t5:Value) (h:H) (c:Nat) (df:List Nat):jx P o 43 rd Z2K (Z0i [0,3,4,5] [t0,t3,t4,t5]) h c df (Klp [0,3,4,5])=Z6M o rd t0 t3 t4 t5 h c df:=by kernel_rfl
noncomputable def Zmo (o:Orc H) (t0:Value) (h:H) (c:Nat):Option (Rt H) :=
 (o (Zfe none) [t0,(.slice none 0 0),(.int .i64 (-1)),(.int .i64 0)] h (c+1+1+1+1) []).bind fun r0 =>
 cond (Z0u r0.e (.exit 0))
 ((Z07 r0.h r0.df).bind fun h1 =>
 some ⟨.ret,[r0.v 1],h1,(r0.c+1),[]⟩)
 (none)
theorem ZjX (o:Orc H) (t0:Value) (h:H) (c:Nat):jx P o 43 none f83_c (Z0i (List.range 1) [t0]) h c [] (Kfn P Try.f83.results.toList)=Zmo o t0 h c:=by kernel_rfl
noncomputable def Z6L (o:Orc H) (rd:Option Nat) (t0 t2 t3 t4 t5:Value) (h:H) (c:Nat) (df:List Nat):Option (Rt H) :=
 (Zew P h 9 t0).bind fun t26 =>
 (Z00 P .lss 3 t5 t26).bind fun t27 =>
 Z08 t27
 ((ZeW t0 t5).bind fun t32 =>
 (Z00 P .lss 5 t32 (.int .u8 48)).bind fun t33 =>
 (gd t33 false h (c+1+1) (some t0)).bind fun r0 =>
 (gd t33 false r0.2.1 r0.2.2 (some t5)).bind fun r1 =>
 (gd t33 false r1.2.1 r1.2.2 (ZeW r0.1 r1.1)).bind fun r2 =>
 (gd t33 false r2.2.1 r2.2.2 (Z00 P .gtr 5 r2.1 (.int .u8 57))).bind fun r3 =>
 (Z0H t33 (.bool true) r3.1).bind fun t39 =>
 Z08 t39
  (some ⟨.ret,[t0,(.int .i64 0),(.bool false),t4,t5],r3.2.1,(r3.2.2+1),df⟩)
  ((Z00 P .mul 3 (.int .i64 10) t4).bind fun t41 =>
  (ZeW t0 t5).bind fun t44 =>
  (Z00 P .sub 5 t44 (.int .u8 48)).bind fun t45 =>
  (cnvI .i64 t45).bind fun t46 =>
  (Z00 P .add 3 t41 t46).bind fun t47 =>
  (Z00 P .add 3 t5 (.int .i64 1)).bind fun t29 =>
  some ⟨.normal,[t0,t2,t3,t47,t29],r3.2.1,(r3.2.2+1+1),df⟩))
 (some ⟨(.exit 0),[t0,t2,t3,t4,t5],h,(c+1),df⟩)
theorem ZaJ (o:Orc H) (rd:Option Nat) (t0 t2 t3 t4 t5:Value) (h:H) (c:Nat) (df:List Nat):jx P o 51 rd Z2J (Z0i [0,2,3,4,5] [t0,t2,t3,t4,t5]) h c df (Klp [0,2,3,4,5])=Z6L o rd t0 t2 t3 t4 t5 h c df:=by kernel_rfl
noncomputable def Zmn (o:Orc H) (t0:Value) (h:H) (c:Nat):Option (Rt H) :=
 (Zew P h 9 t0).bind fun t7 =>
 (Z00 P .lss 3 t7 (.int .i64 1)).bind fun t8 =>
 (gd t8 false h (c+1+1) (some t0)).bind fun r0 =>
 (gg t8 false r0.2.1 r0.2.2 (((Zew P r0.2.1 9 r0.1).bind fun v=>some (v,r0.2.1)).bind fun r=>some (r.1,r.2,r0.2.2))).bind fun r1 =>
 (gd t8 false r1.2.1 r1.2.2 (Z00 P .gtr 3 r1.1 (.int .i64 4))).bind fun r2 =>
 (Z0H t8 (.bool true) r2.1).bind fun t13 =>
 (gd t13 false r2.2.1 r2.2.2 (some t0)).bind fun r3 =>
 (gg t13 false r3.2.1 r3.2.2 (((Zew P r3.2.1 9 r3.1).bind fun v=>some (v,r3.2.1)).bind fun r=>some (r.1,r.2,r3.2.2))).bind fun r4 =>
 (gd t13 false r4.2.1 r4.2.2 (Z00 P .gtr 3 r4.1 (.int .i64 1))).bind fun r5 =>
 (gd t13 false r5.2.1 r5.2.2 (some r5.1)).bind fun r6 =>
 (gd r6.1 true r6.2.1 r6.2.2 (some t0)).bind fun r7 =>
 (gd r6.1 true r7.2.1 r7.2.2 (ZeW r7.1 (.int .i64 0))).bind fun r8 =>
 (gd r6.1 true r8.2.1 r8.2.2 (Z00 P .eql 5 r8.1 (.int .u8 48))).bind fun r9 =>
 (gg t13 false r9.2.1 r9.2.2 (ZeQ r9.2.1 r9.2.2 r6.1 r9.1 (.bool false))).bind fun r10 =>
 (Z0H t13 (.bool true) r10.1).bind fun t23 =>
 Z08 t23
 (some ⟨.ret,[.tuple #[(.int .i64 0),(.bool false)]],r10.2.1,(r10.2.2+1),[]⟩)
 ((o (Zfc none) [t0,(.int .i64 0),(.bool false),(.int .i64 0),(.int .i64 0)] r10.2.1 (r10.2.2+1+1) []).bind fun r11 =>
 cond (Z0u r11.e (.exit 0))
  ((Z00 P .leq 3 (r11.v 3) (.int .i64 1000)).bind fun t50 =>
  (Z07 r11.h r11.df).bind fun h13 =>
  some ⟨.ret,[.tuple #[r11.v 3,t50]],h13,(r11.c+1),[]⟩)
  (cond (Z0u r11.e .ret)
   ((Z07 r11.h r11.df).bind fun h12 =>
   some ⟨.ret,[.tuple #[r11.v 1,r11.v 2]],h12,r11.c,[]⟩)
   (none)))
theorem ZjW (o:Orc H) (t0:Value) (h:H) (c:Nat):jx P o 51 none f84_c (Z0i (List.range 1) [t0]) h c [] (Kfn P Try.f84.results.toList)=Zmn o t0 h c:=by kernel_rfl
noncomputable def Z1H (o:Orc H) (rd:Option Nat) (t0 t1 t3 t8 t9 t16 t17:Value) (h:H) (c:Nat) (df:List Nat):Option (Rt H) :=
 (Z00 P .lss 3 t17 (.int .i64 4)).bind fun t18 =>
 Z08 t18
 ((ixV 4 true 5 t16 t17).bind fun t20 =>
 (stN (newB h (256*(c+1)+2) [(.int .i64 0),(.int .i64 0),(.int .i64 0),(.int .i64 0),(.int .i64 0)]) 5 (ptrTo (256*(c+1)+2)) t20).bind fun h1 =>
 (Z1d [(.int .i64 0),(.int .i64 0)] [(0,1,t3),(1,1,t17)]).bind fun t24 =>
 (ldN h1 5 (ptrTo (256*(c+1)+2))).bind fun t25 =>
 (Z3A o h1 (c+1+1+1) t0 [t24,t25]).bind fun r2 =>
 (Z1V .not r2.1).bind fun t27 =>
 Z08 t27
  (some ⟨.ret,[t0,t1,t3,t8,t9,t16,t17],r2.2.1,r2.2.2,df⟩)
  ((Z00 P .add 3 t17 (.int .i64 1)).bind fun t28 =>
  some ⟨.normal,[t0,t1,t3,t8,t9,t16,t28],r2.2.1,(r2.2.2+1),df⟩))
 (some ⟨(.exit 2),[t0,t1,t3,t8,t9,t16,t17],h,(c+1),df⟩)
theorem Z4p (o:Orc H) (rd:Option Nat) (t0 t1 t3 t8 t9 t16 t17:Value) (h:H) (c:Nat) (df:List Nat):jx P o 30 rd Z2H (Z0i [0,1,3,8,9,16,17] [t0,t1,t3,t8,t9,t16,t17]) h c df (Klp [0,1,3,8,9,16,17])=Z1H o rd t0 t1 t3 t8 t9 t16 t17 h c df:=by kernel_rfl
noncomputable def Z1I (o:Orc H) (rd:Option Nat) (t0 t1 t8 t9:Value) (h:H) (c:Nat) (df:List Nat):Option (Rt H) :=
 (Z00 P .lss 3 t9 t8).bind fun t10 =>
 Z08 t10
 ((Z02 t1 0).bind fun t12 =>
 (ld1 h t12).bind fun t13 =>
 (ixS 20 t13 t9).bind fun t15 =>
 (ldN h 20 t15).bind fun t16 =>
 (o (Z3T rd) [t0,t1,t9,t8,t9,t16,(.int .i64 0)] h (c+1+1+1) df).bind fun r0 =>
 cond (Z0u r0.e (.exit 2))
  ((Z00 P .add 3 (r0.v 4) (.int .i64 1)).bind fun t29 =>
  some ⟨.normal,[r0.v 0,r0.v 1,r0.v 3,t29],r0.h,(r0.c+1),r0.df⟩)
  (cond (Z0u r0.e .ret)
   (some ⟨.ret,[r0.v 0,r0.v 1,r0.v 3,r0.v 4],r0.h,r0.c,r0.df⟩)
   (none)))
 (some ⟨(.exit 0),[t0,t1,t8,t9],h,(c+1),df⟩)
theorem Z4q (o:Orc H) (rd:Option Nat) (t0 t1 t8 t9:Value) (h:H) (c:Nat) (df:List Nat):jx P o 30 rd Z2I (Z0i [0,1,8,9] [t0,t1,t8,t9]) h c df (Klp [0,1,8,9])=Z1I o rd t0 t1 t8 t9 h c df:=by kernel_rfl
noncomputable def Zf9 (o:Orc H) (t0 t1:Value) (h:H) (c:Nat):Option (Rt H) :=
 (Z02 t1 0).bind fun t6 =>
 (ld1 h t6).bind fun t7 =>
 (Z2m t7).bind fun t8 =>
 (o (Z3U none) [t0,t1,t8,(.int .i64 0)] h (c+1) []).bind fun r0 =>
 cond (Z0u r0.e (.exit 0))
 ((Z07 r0.h r0.df).bind fun h2 =>
 some ⟨.ret,[.tuple #[]],h2,r0.c,[]⟩)
 (cond (Z0u r0.e .ret)
  ((Z07 r0.h r0.df).bind fun h1 =>
  some ⟨.ret,[.tuple #[]],h1,r0.c,[]⟩)
  (none))
theorem Ze8 (o:Orc H) (t0 t1:Value) (h:H) (c:Nat):jx P o 30 none f85_c (Z0i (List.range 2) [t0,t1]) h c [] (Kfn P Try.f85.results.toList)=Zf9 o t0 t1 h c:=by kernel_rfl
theorem Zla {t0 t1:Value} {h:FH} {c:Nat} {df:List Nat} {r:Rt FH} (e:Zf9 G t0 t1 h c=some r):G (.fn 85) [t0,t1] h c df=some r:=Z0r (a:=Zcw) bk_85 rfl (fun args h c=>by cases args <;> rfl) rfl ((Ze8 G t0 t1 h c).trans e)
theorem Zfa {rd:Option Nat} {t0 t1 t3 t8 t9 t16 t17:Value} {h:FH} {c:Nat} {df:List Nat} {q r:Rt FH} (e:Z1H G rd t0 t1 t3 t8 t9 t16 t17 h c df=some q) (hq:q.e = .normal) (k:G (Z3T rd) q.vs q.h q.c q.df=some r):G (Z3T rd) [t0,t1,t3,t8,t9,t16,t17] h c df=some r:=Z0D ((Z4p G rd t0 t1 t3 t8 t9 t16 t17 h c df).trans e) hq k
theorem Z9s {rd:Option Nat} {t0 t1 t3 t8 t9 t16 t17:Value} {h:FH} {c:Nat} {df:List Nat} {q:Rt FH} (e:Z1H G rd t0 t1 t3 t8 t9 t16 t17 h c df=some q) (hq:q.e ≠ .normal):G (Z3T rd) [t0,t1,t3,t8,t9,t16,t17] h c df=some q:=Z0E ((Z4p G rd t0 t1 t3 t8 t9 t16 t17 h c df).trans e) hq
theorem Zfb {rd:Option Nat} {t0 t1 t8 t9:Value} {h:FH} {c:Nat} {df:List Nat} {q r:Rt FH} (e:Z1I G rd t0 t1 t8 t9 h c df=some q) (hq:q.e = .normal) (k:G (Z3U rd) q.vs q.h q.c q.df=some r):G (Z3U rd) [t0,t1,t8,t9] h c df=some r:=Z0D ((Z4q G rd t0 t1 t8 t9 h c df).trans e) hq k
theorem Z9t {rd:Option Nat} {t0 t1 t8 t9:Value} {h:FH} {c:Nat} {df:List Nat} {q:Rt FH} (e:Z1I G rd t0 t1 t8 t9 h c df=some q) (hq:q.e ≠ .normal):G (Z3U rd) [t0,t1,t8,t9] h c df=some q:=Z0E ((Z4q G rd t0 t1 t8 t9 h c df).trans e) hq
noncomputable def Z6I (o:Orc H) (rd:Option Nat) (t0 t2 t3 t5 t6 t7 t18 t19 t50 t51:Value) (h:H) (c:Nat) (df:List Nat):Option (Rt H) :=
 (Z00 P .lss 3 t51 (.int .i64 4)).bind fun t52 =>
 Z08 t52
 (((ixV 4 false 1 t50 t51).bind fun t54 =>
  (Z00 P .lss 3 t54 (.int .i64 0)).bind fun t56 =>
  Z08 t56
   (some ⟨.normal,[t0,t2,t3,t5,t6,t7,t18,t19,t50,t51],h,(c+1+1+1),df⟩)
   ((ixS 1 t5 t6).bind fun t60 =>
   (ld1 h t60).bind fun t61 =>
   (ixS 1 t3 t61).bind fun t62 =>
   (ld1 h t62).bind fun t63 =>
   (Z1V .neg t63).bind fun t64 =>
   (Z0c t0).bind fun t66 =>
   (Z02 t66 0).bind fun t67 =>
   (Z02 t67 0).bind fun t68 =>
   (ld1 h t68).bind fun t69 =>
   (ixA 2 1 t7 (.int .i64 0)).bind fun t70 =>
   (ld1 h t70).bind fun t71 =>
   (ixS 20 t69 t71).bind fun t73 =>
   (ixA 4 5 t73 t51).bind fun t74 =>
   (Z02 t74 1).bind fun t75 =>
   (ldN h 4 t75).bind fun t76 =>
   (callF o 91 [t76] h (c+1+1+1+1)).bind fun r0 =>
   (Z00 P .mul 3 t64 r0.1).bind fun t78 =>
   (bif (Z19 (Z2g t60) h r0.2.1 && (Z19 (Z2g t62) h r0.2.1 && true)) then
   (ixS 1 t3 t54).bind fun t81 =>
   (ld1 r0.2.1 t81).bind fun t82 =>
   (Z00 P .eql 3 t82 (.int .i64 0)).bind fun t83 =>
   (Z08 t83
    ((ixS 1 t3 t54).bind fun t87 =>
    (stN r0.2.1 1 t87 t78).bind fun h2 =>
    (Z8N [(.int .i64 0)] [(0,1,t54)]).bind fun r3 =>
    (Z5o (newB h2 (256*(r0.2.2+1+1)+2) r3) (256*(r0.2.2+1+1)+3) 1 8 t5 (.slice (some ⟨(256*(r0.2.2+1+1)+2),0,none⟩) 1 1)).bind fun r4 =>
    some ⟨.normal,[t0,t2,t3,r4.1,t6,t7,t18,t19,t50,t51],r4.2,(r0.2.2+1+1+1),df⟩)
    ((ixS 1 t3 t54).bind fun t94 =>
    (ld1 r0.2.1 t94).bind fun t95 =>
    (Z00 P .neq 3 t95 t78).bind fun t97 =>
    Z08 t97
     (some ⟨.ret,[t0,(.bool false),t3,t5,t6,t7,t18,t19,t50,t51],r0.2.1,(r0.2.2+1+1+1),df⟩)
     (some ⟨.normal,[t0,t2,t3,t5,t6,t7,t18,t19,t50,t51],r0.2.1,(r0.2.2+1+1),df⟩)):Option (Rt H)).bind fun r7 =>
   cond (Z0u r7.e .normal)
    (some ⟨.normal,[r7.v 0,r7.v 1,r7.v 2,r7.v 3,r7.v 4,r7.v 5,r7.v 6,r7.v 7,r7.v 8,r7.v 9],r7.h,r7.c,r7.df⟩)
    (cond (Z0u r7.e .ret)
     (some ⟨.ret,[r7.v 0,r7.v 1,r7.v 2,r7.v 3,r7.v 4,r7.v 5,r7.v 6,r7.v 7,r7.v 8,r7.v 9],r7.h,r7.c,r7.df⟩)
     (none))
   else none)):Option (Rt H)).bind fun r8 =>
 cond (Z0u r8.e .normal)
  ((Z00 P .add 3 (r8.v 9) (.int .i64 1)).bind fun t98 =>
  some ⟨.normal,[r8.v 0,r8.v 1,r8.v 2,r8.v 3,r8.v 4,r8.v 5,r8.v 6,r8.v 7,r8.v 8,t98],r8.h,(r8.c+1),r8.df⟩)
  (cond (Z0u r8.e .ret)
   (some ⟨.ret,[r8.v 0,r8.v 1,r8.v 2,r8.v 3,r8.v 4,r8.v 5,r8.v 6,r8.v 7,r8.v 8,r8.v 9],r8.h,r8.c,r8.df⟩)
   (none)))
 (some ⟨(.exit 4),[t0,t2,t3,t5,t6,t7,t18,t19,t50,t51],h,(c+1),df⟩)
theorem ZaG (o:Orc H) (rd:Option Nat) (t0 t2 t3 t5 t6 t7 t18 t19 t50 t51:Value) (h:H) (c:Nat) (df:List Nat):jx P o 100 rd Z2E (Z0i [0,2,3,5,6,7,18,19,50,51] [t0,t2,t3,t5,t6,t7,t18,t19,t50,t51]) h c df (Klp [0,2,3,5,6,7,18,19,50,51])=Z6I o rd t0 t2 t3 t5 t6 t7 t18 t19 t50 t51 h c df:=by kernel_rfl
noncomputable def Z6J (o:Orc H) (rd:Option Nat) (t0 t2 t3 t5 t6 t18 t19:Value) (h:H) (c:Nat) (df:List Nat):Option (Rt H) :=
 (Z2m t5).bind fun t34 =>
 (Z00 P .lss 3 t6 t34).bind fun t35 =>
 Z08 t35
 ((Z0c t0).bind fun t39 =>
 (Z02 t39 1).bind fun t40 =>
 (ld1 h t40).bind fun t41 =>
 (ixS 1 t5 t6).bind fun t44 =>
 (ld1 h t44).bind fun t45 =>
 (ixS 2 t41 t45).bind fun t46 =>
 (ldN h 2 t46).bind fun t47 =>
 (stN (newB h (256*(c+1)+10) [(.int .i64 0),(.int .i64 0)]) 2 (ptrTo (256*(c+1)+10)) t47).bind fun h1 =>
 (ldN h1 2 (ptrTo (256*(c+1)+10))).bind fun t49 =>
 (callF o 61 [t0,t49] h1 (c+1+1+1)).bind fun r2 =>
 (o (Zf5 rd) [t0,t2,t3,t5,t6,(ptrTo (256*(c+1)+10)),t18,t19,r2.1,(.int .i64 0)] r2.2.1 r2.2.2 df).bind fun r3 =>
 cond (Z0u r3.e (.exit 4))
  ((Z00 P .add 3 (r3.v 4) (.int .i64 1)).bind fun t37 =>
  some ⟨.normal,[r3.v 0,r3.v 1,r3.v 2,r3.v 3,t37,r3.v 6,r3.v 7],r3.h,(r3.c+1),r3.df⟩)
  (cond (Z0u r3.e .ret)
   (some ⟨.ret,[r3.v 0,r3.v 1,r3.v 2,r3.v 3,r3.v 4,r3.v 6,r3.v 7],r3.h,r3.c,r3.df⟩)
   (none)))
 (some ⟨(.exit 2),[t0,t2,t3,t5,t6,t18,t19],h,(c+1),df⟩)
theorem ZaH (o:Orc H) (rd:Option Nat) (t0 t2 t3 t5 t6 t18 t19:Value) (h:H) (c:Nat) (df:List Nat):jx P o 100 rd Z2F (Z0i [0,2,3,5,6,18,19] [t0,t2,t3,t5,t6,t18,t19]) h c df (Klp [0,2,3,5,6,18,19])=Z6J o rd t0 t2 t3 t5 t6 t18 t19 h c df:=by kernel_rfl
noncomputable def Z6K (o:Orc H) (rd:Option Nat) (t0 t2 t3 t18 t19:Value) (h:H) (c:Nat) (df:List Nat):Option (Rt H) :=
 (Z00 P .lss 3 t19 t18).bind fun t20 =>
 Z08 t20
 (((ixS 1 t3 t19).bind fun t24 =>
  (ld1 h t24).bind fun t25 =>
  (Z00 P .neq 3 t25 (.int .i64 0)).bind fun t26 =>
  Z08 t26
   (some ⟨.normal,[t0,t2,t3,t18,t19],h,(c+1+1+1),df⟩)
   ((ixS 1 t3 t19).bind fun t29 =>
   (stN h 1 t29 (.int .i64 1)).bind fun h1 =>
   (Z8N [(.int .i64 0)] [(0,1,t19)]).bind fun r2 =>
   (o (Zf6 rd) [t0,t2,t3,(.slice (some ⟨(256*(c+1+1+1+1)+1),0,none⟩) 1 1),(.int .i64 0),t18,t19] (newB h1 (256*(c+1+1+1+1)+1) r2) (c+1+1+1+1+1+1) df).bind fun r3 =>
   cond (Z0u r3.e (.exit 2))
    (some ⟨.normal,[r3.v 0,r3.v 1,r3.v 2,r3.v 5,r3.v 6],r3.h,r3.c,r3.df⟩)
    (cond (Z0u r3.e .ret)
     (some ⟨.ret,[r3.v 0,r3.v 1,r3.v 2,r3.v 5,r3.v 6],r3.h,r3.c,r3.df⟩)
     (none))):Option (Rt H)).bind fun r4 =>
 cond (Z0u r4.e .normal)
  ((Z00 P .add 3 (r4.v 4) (.int .i64 1)).bind fun t99 =>
  some ⟨.normal,[r4.v 0,r4.v 1,r4.v 2,r4.v 3,t99],r4.h,(r4.c+1),r4.df⟩)
  (cond (Z0u r4.e .ret)
   (some ⟨.ret,[r4.v 0,r4.v 1,r4.v 2,r4.v 3,r4.v 4],r4.h,r4.c,r4.df⟩)
   (none)))
 (some ⟨(.exit 0),[t0,t2,t3,t18,t19],h,(c+1),df⟩)
theorem ZaI (o:Orc H) (rd:Option Nat) (t0 t2 t3 t18 t19:Value) (h:H) (c:Nat) (df:List Nat):jx P o 100 rd Z2G (Z0i [0,2,3,18,19] [t0,t2,t3,t18,t19]) h c df (Klp [0,2,3,18,19])=Z6K o rd t0 t2 t3 t18 t19 h c df:=by kernel_rfl
noncomputable def Zmm (o:Orc H) (t0:Value) (h:H) (c:Nat):Option (Rt H) :=
 (Z0c t0).bind fun t12 =>
 (Z02 t12 1).bind fun t13 =>
 (ld1 h t13).bind fun t14 =>
 (Z2m t14).bind fun t15 =>
 (mkS 1 8 [(.int .i64 0)] t15 t15).bind fun r0 =>
 (Z2m (.slice (some ⟨(256*(c+1)+5),0,none⟩) r0.2.1 r0.2.2)).bind fun t18 =>
 (o (Zf7 none) [t0,(.bool false),(.slice (some ⟨(256*(c+1)+5),0,none⟩) r0.2.1 r0.2.2),t18,(.int .i64 0)] (newB h (256*(c+1)+5) r0.1) (c+1+1+1) []).bind fun r1 =>
 cond (Z0u r1.e (.exit 0))
 ((Z07 r1.h r1.df).bind fun h3 =>
 some ⟨.ret,[(.bool true)],h3,(r1.c+1),[]⟩)
 (cond (Z0u r1.e .ret)
  ((Z07 r1.h r1.df).bind fun h2 =>
  some ⟨.ret,[r1.v 1],h2,r1.c,[]⟩)
  (none))
theorem ZjV (o:Orc H) (t0:Value) (h:H) (c:Nat):jx P o 100 none f86_c (Z0i (List.range 1) [t0]) h c [] (Kfn P Try.f86.results.toList)=Zmm o t0 h c:=by kernel_rfl

variable {H:Type} [HeapC H]
noncomputable def Z9r (o:Orc H) (rd:Option Nat) (t0 t1:Value) (h:H) (c:Nat) (df:List Nat):Option (Rt H) :=
 (ixS 1 t0 t1).bind fun t7 =>
 (ld1 h t7).bind fun t8 =>
 (Z00 P .neq 3 t8 t1).bind fun t10 =>
 Z08 t10
 ((ixS 1 t0 t1).bind fun t13 =>
 (ld1 h t13).bind fun t14 =>
 some ⟨.normal,[t0,t14],h,(c+1+1),df⟩)
 (some ⟨(.exit 0),[t0,t1],h,(c+1),df⟩)
theorem ZaF (o:Orc H) (rd:Option Nat) (t0 t1:Value) (h:H) (c:Nat) (df:List Nat):jx P o 16 rd Z6H (Z0i [0,1] [t0,t1]) h c df (Klp [0,1])=Z9r o rd t0 t1 h c df:=by kernel_rfl
noncomputable def Zml (o:Orc H) (t0 t1:Value) (h:H) (c:Nat):Option (Rt H) :=
 (o (Z9q none) [t0,t1] h (c+1) []).bind fun r0 =>
 cond (Z0u r0.e (.exit 0))
 ((Z07 r0.h r0.df).bind fun h1 =>
 some ⟨.ret,[r0.v 1],h1,(r0.c+1),[]⟩)
 (none)
theorem ZjU (o:Orc H) (t0 t1:Value) (h:H) (c:Nat):jx P o 16 none f87_c (Z0i (List.range 2) [t0,t1]) h c [] (Kfn P Try.f87.results.toList)=Zml o t0 t1 h c:=by kernel_rfl
theorem f87_go {t0 t1:Value} {h:FH} {c:Nat} {df:List Nat} {r:Rt FH} (e:Zml G t0 t1 h c=some r):G (.fn 87) [t0,t1] h c df=some (gcR h c [] r):=Z0r (a:=ZjT) bk_87 rfl (fun args h c=>by cases args <;> rfl) rfl ((ZjU G t0 t1 h c).trans e)
noncomputable def Zmj (o:Orc H) (t0 t1:Value) (h:H) (c:Nat):Option (Rt H) :=
 (bif (t0:Value).cells.toList.all Z06 then
 (bif (t1:Value).cells.toList.all Z06 then
 (ixA 4 1 (ptrTo (256*c+1)) (.int .i64 0)).bind fun t5 =>
 (ld1 (newB (newB (newB h (256*c+0) (t0:Value).cells.toList) (256*c+1) (t1:Value).cells.toList) (256*c+2) [(.int .i64 0),(.int .i64 0),(.int .i64 0),(.int .i64 0)]) t5).bind fun t6 =>
 (ixA 4 1 (ptrTo (256*c+0)) t6).bind fun t7 =>
 (ld1 (newB (newB (newB h (256*c+0) (t0:Value).cells.toList) (256*c+1) (t1:Value).cells.toList) (256*c+2) [(.int .i64 0),(.int .i64 0),(.int .i64 0),(.int .i64 0)]) t7).bind fun t8 =>
 (ixA 4 1 (ptrTo (256*c+1)) (.int .i64 1)).bind fun t9 =>
 (ld1 (newB (newB (newB h (256*c+0) (t0:Value).cells.toList) (256*c+1) (t1:Value).cells.toList) (256*c+2) [(.int .i64 0),(.int .i64 0),(.int .i64 0),(.int .i64 0)]) t9).bind fun t10 =>
 (ixA 4 1 (ptrTo (256*c+0)) t10).bind fun t11 =>
 (ld1 (newB (newB (newB h (256*c+0) (t0:Value).cells.toList) (256*c+1) (t1:Value).cells.toList) (256*c+2) [(.int .i64 0),(.int .i64 0),(.int .i64 0),(.int .i64 0)]) t11).bind fun t12 =>
 (ixA 4 1 (ptrTo (256*c+1)) (.int .i64 2)).bind fun t13 =>
 (ld1 (newB (newB (newB h (256*c+0) (t0:Value).cells.toList) (256*c+1) (t1:Value).cells.toList) (256*c+2) [(.int .i64 0),(.int .i64 0),(.int .i64 0),(.int .i64 0)]) t13).bind fun t14 =>
 (ixA 4 1 (ptrTo (256*c+0)) t14).bind fun t15 =>
 (ld1 (newB (newB (newB h (256*c+0) (t0:Value).cells.toList) (256*c+1) (t1:Value).cells.toList) (256*c+2) [(.int .i64 0),(.int .i64 0),(.int .i64 0),(.int .i64 0)]) t15).bind fun t16 =>
 (ixA 4 1 (ptrTo (256*c+1)) (.int .i64 3)).bind fun t17 =>
 (ld1 (newB (newB (newB h (256*c+0) (t0:Value).cells.toList) (256*c+1) (t1:Value).cells.toList) (256*c+2) [(.int .i64 0),(.int .i64 0),(.int .i64 0),(.int .i64 0)]) t17).bind fun t18 =>
 (ixA 4 1 (ptrTo (256*c+0)) t18).bind fun t19 =>
 (ld1 (newB (newB (newB h (256*c+0) (t0:Value).cells.toList) (256*c+1) (t1:Value).cells.toList) (256*c+2) [(.int .i64 0),(.int .i64 0),(.int .i64 0),(.int .i64 0)]) t19).bind fun t20 =>
 (Z1d [(.int .i64 0),(.int .i64 0),(.int .i64 0),(.int .i64 0)] [(0,1,t8),(1,1,t12),(2,1,t16),(3,1,t20)]).bind fun t21 =>
 (stN (newB (newB (newB h (256*c+0) (t0:Value).cells.toList) (256*c+1) (t1:Value).cells.toList) (256*c+2) [(.int .i64 0),(.int .i64 0),(.int .i64 0),(.int .i64 0)]) 4 (ptrTo (256*c+2)) t21).bind fun h1 =>
 (ldN h1 4 (ptrTo (256*c+2))).bind fun v2 =>
 some ⟨.ret,[v2],h1,(c+1+1),[]⟩
 else none)
 else none)
theorem ZjS (o:Orc H) (t0 t1:Value) (h:H) (c:Nat):jx P o 22 none f90_c (Z0i (List.range 2) [t0,t1]) h c [] (Kfn P Try.f90.results.toList)=Zmj o t0 t1 h c:=by kernel_rfl
theorem f90_go {t0 t1:Value} {h:FH} {c:Nat} {df:List Nat} {r:Rt FH} (e:Zmj G t0 t1 h c=some r):G (.fn 90) [t0,t1] h c df=some (gcR h c [] r):=Z0r (a:=ZjR) bk_90 rfl (fun args h c=>by cases args <;> rfl) rfl ((ZjS G t0 t1 h c).trans e)
noncomputable def Zmh (o:Orc H) (t0:Value) (h:H) (c:Nat):Option (Rt H) :=
 (bif (t0:Value).cells.toList.all Z06 then
 (ldN (newB h (256*c+0) (t0:Value).cells.toList) 4 (ptrTo (256*c+0))).bind fun t3 =>
 (callF o 56 [t3] (newB h (256*c+0) (t0:Value).cells.toList) (c+1+1)).bind fun r0 =>
 (Z1V .not r0.1).bind fun t5 =>
 Z08 t5
 (some ⟨.ret,[(.int .i64 0)],r0.2.1,(r0.2.2+1),[]⟩)
 ((ldN r0.2.1 4 (ptrTo (256*c+0))).bind fun t6 =>
 (callF o 92 [t6] r0.2.1 (r0.2.2+1)).bind fun r1 =>
 some ⟨.ret,[r1.1],r1.2.1,r1.2.2,[]⟩)
 else none)
theorem ZjQ (o:Orc H) (t0:Value) (h:H) (c:Nat):jx P o 8 none f91_c (Z0i (List.range 1) [t0]) h c [] (Kfn P Try.f91.results.toList)=Zmh o t0 h c:=by kernel_rfl
noncomputable def Z6F (o:Orc H) (rd:Option Nat) (t1 t3 t4 t6 t9 t10:Value) (h:H) (c:Nat) (df:List Nat):Option (Rt H) :=
 (Z00 P .lss 3 t10 t9).bind fun t11 =>
 Z08 t11
 ((ixA 4 1 t1 t10).bind fun t14 =>
 (ld1 h t14).bind fun t15 =>
 (ixA 4 1 t1 t4).bind fun t17 =>
 (ld1 h t17).bind fun t18 =>
 (Z00 P .gtr 3 t15 t18).bind fun t19 =>
 (Z08 t19
  ((Z1V .neg t3).bind fun t21 =>
  some ⟨.normal,[t1,t21,t4,t6,t9,t10],h,(c+1+1+1+1),df⟩)
  (some ⟨.normal,[t1,t3,t4,t6,t9,t10],h,(c+1+1+1),df⟩):Option (Rt H)).bind fun r1 =>
 cond (Z0u r1.e .normal)
  ((Z00 P .add 3 (r1.v 5) (.int .i64 1)).bind fun t22 =>
  some ⟨.normal,[r1.v 0,r1.v 1,r1.v 2,r1.v 3,r1.v 4,t22],r1.h,(r1.c+1),r1.df⟩)
  (none))
 (some ⟨(.exit 2),[t1,t3,t4,t6,t9,t10],h,(c+1),df⟩)
theorem ZaB (o:Orc H) (rd:Option Nat) (t1 t3 t4 t6 t9 t10:Value) (h:H) (c:Nat) (df:List Nat):jx P o 25 rd Z2C (Z0i [1,3,4,6,9,10] [t1,t3,t4,t6,t9,t10]) h c df (Klp [1,3,4,6,9,10])=Z6F o rd t1 t3 t4 t6 t9 t10 h c df:=by kernel_rfl
noncomputable def Z6G (o:Orc H) (rd:Option Nat) (t1 t3 t6:Value) (h:H) (c:Nat) (df:List Nat):Option (Rt H) :=
 (Z00 P .lss 3 t6 (.int .i64 4)).bind fun t7 =>
 Z08 t7
 ((o (Zf1 rd) [t1,t3,t6,t6,t6,(.int .i64 0)] h (c+1+1+1) df).bind fun r0 =>
 cond (Z0u r0.e (.exit 2))
  ((Z00 P .add 3 (r0.v 3) (.int .i64 1)).bind fun t23 =>
  some ⟨.normal,[r0.v 0,r0.v 1,t23],r0.h,(r0.c+1),r0.df⟩)
  (none))
 (some ⟨(.exit 0),[t1,t3,t6],h,(c+1),df⟩)
theorem ZaC (o:Orc H) (rd:Option Nat) (t1 t3 t6:Value) (h:H) (c:Nat) (df:List Nat):jx P o 25 rd Z2D (Z0i [1,3,6] [t1,t3,t6]) h c df (Klp [1,3,6])=Z6G o rd t1 t3 t6 h c df:=by kernel_rfl
noncomputable def Zmg (o:Orc H) (t0:Value) (h:H) (c:Nat):Option (Rt H) :=
 (bif (t0:Value).cells.toList.all Z06 then
 (o (Zf2 none) [(ptrTo (256*c+0)),(.int .i64 1),(.int .i64 0)] (newB h (256*c+0) (t0:Value).cells.toList) (c+1+1+1) []).bind fun r0 =>
 cond (Z0u r0.e (.exit 0))
 ((Z07 r0.h r0.df).bind fun h1 =>
 some ⟨.ret,[r0.v 1],h1,(r0.c+1),[]⟩)
 (none)
 else none)
theorem ZjP (o:Orc H) (t0:Value) (h:H) (c:Nat):jx P o 25 none f92_c (Z0i (List.range 1) [t0]) h c [] (Kfn P Try.f92.results.toList)=Zmg o t0 h c:=by kernel_rfl
end Go.Proofs.Ytdodippbpdechaa
