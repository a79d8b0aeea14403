/- Parts of a proof: S5 E AbGo. Conditions: none. -/
import Derived.Test.YtdodippbpdechaaM8
import Derived.Test.YtdodippbpdechaaM9
import Derived.Test.YtdodippbpdechaaM10
set_option linter.all false
set_option maxRecDepth 100000
namespace Go.Proofs.Ytdodippbpdechaa
open Go Go.Ab Go.Proofs
variable {H:Type} [HeapC H]
noncomputable def Z6u (o:Orc H) (rd:Option Nat) (t0 t3 t4 t5:Value) (h:H) (c:Nat) (df:List Nat):Option (Rt H) :=
 (ZaY P h 9 t0).bind fun t9 =>
 (Z00 P .leq 3 t5 t9).bind fun t10 =>
 Z0b t10
 ((ZaY P h 9 t0).bind fun t15 =>
 (Z00 P .eql 3 t5 t15).bind fun t16 =>
 (gd t16 false h (c+1+1) (some t0)).bind fun r0 =>
 (gd t16 false r0.2.1 r0.2.2 (some t5)).bind fun r1 =>
 (gd t16 false r1.2.1 r1.2.2 (Zer r0.1 r1.1)).bind fun r2 =>
 (gd t16 false r2.2.1 r2.2.2 (Z00 P .eql 5 r2.1 (.int .u8 32))).bind fun r3 =>
 (Z0X t16 (.bool true) r3.1).bind fun t22 =>
 (Z3O .not t22).bind fun t24 =>
 (gd t24 true r3.2.1 (r3.2.2+1) (some t4)).bind fun r4 =>
 (gd t24 true r4.2.1 r4.2.2 (Z00 P .lss 3 r4.1 (.int .i64 0))).bind fun r5 =>
 (Z0X t24 r5.1 (.bool false)).bind fun t28 =>
 (Z0b t28
  (some ⟨.normal,[t0,t3,t5,t5,t22],r5.2.1,(r5.2.2+1),df⟩)
  (some ⟨.normal,[t0,t3,t4,t5,t22],r5.2.1,r5.2.2,df⟩):Option (Rt H)).bind fun r7 =>
 cond (Z0B r7.e .normal)
  (((gv (r7.v 4) true).bind fun w=>cond w (Z6e r7.h (r7.c+1) (some (r7.v 2))) (some (undef,r7.h,(r7.c+1)))).bind fun r8 =>
  ((gv (r7.v 4) true).bind fun w=>cond w (Z6e r8.2.1 r8.2.2 (Z00 P .geq 3 r8.1 (.int .i64 0))) (some (undef,r8.2.1,r8.2.2))).bind fun r9 =>
  (Z0X (r7.v 4) r9.1 (.bool false)).bind fun t34 =>
  (Z0b t34
   ((slStrV (r7.v 0) (some (r7.v 2)) (some (r7.v 3))).bind fun t39 =>
   (Zag [(.string (ByteArray.mk #[]))] [(0,1,t39)]).bind fun r10 =>
   (Z6X (newB r9.2.1 (256*r9.2.2+5) r10) (256*r9.2.2+6) 1 16 (r7.v 1) (.slice (some ⟨(256*r9.2.2+5),0,none⟩) 1 1)).bind fun r11 =>
   some ⟨.normal,[r7.v 0,r11.1,(.int .i64 (-1)),r7.v 3],r11.2,(r9.2.2+1+1),r7.df⟩)
   (some ⟨.normal,[r7.v 0,r7.v 1,r7.v 2,r7.v 3],r9.2.1,r9.2.2,r7.df⟩):Option (Rt H)).bind fun r14 =>
  cond (Z0B r14.e .normal)
   ((Z00 P .add 3 (r14.v 3) (.int .i64 1)).bind fun t12 =>
   some ⟨.normal,[r14.v 0,r14.v 1,r14.v 2,t12],r14.h,(r14.c+1),r14.df⟩)
   (none))
  (none))
 (some ⟨(.exit 0),[t0,t3,t4,t5],h,(c+1),df⟩)
theorem Z9T (o:Orc H) (rd:Option Nat) (t0 t3 t4 t5:Value) (h:H) (c:Nat) (df:List Nat):jx P o 43 rd Z2J (Z0n [0,3,4,5] [t0,t3,t4,t5]) h c df (Klp [0,3,4,5])=Z6u o rd t0 t3 t4 t5 h c df:=by kernel_rfl
noncomputable def Zlp (o:Orc H) (t0:Value) (h:H) (c:Nat):Option (Rt H) :=
 (o (ZeC none) [t0,(.slice none 0 0),(.int .i64 (-1)),(.int .i64 0)] h (c+1+1+1+1) []).bind fun r0 =>
 cond (Z0B r0.e (.exit 0))
 ((Z0c r0.h r0.df).bind fun h1 =>
 some ⟨.ret,[r0.v 1],h1,(r0.c+1),[]⟩)
 (none)
theorem ZjC (o:Orc H) (t0:Value) (h:H) (c:Nat):jx P o 43 none f83_c (Z0n (List.range 1) [t0]) h c [] (Kfn P Try.f83.results.toList)=Zlp o t0 h c:=by kernel_rfl
noncomputable def Z6t (o:Orc H) (rd:Option Nat) (t0 t2 t3 t4 t5:Value) (h:H) (c:Nat) (df:List Nat):Option (Rt H) :=
 (ZaY P h 9 t0).bind fun t26 =>
 (Z00 P .lss 3 t5 t26).bind fun t27 =>
 Z0b t27
 ((Zer t0 t5).bind fun t32 =>
 (Z00 P .lss 5 t32 (.int .u8 48)).bind fun t33 =>
 (gd t33 false h (c+1+1) (some t0)).bind fun r0 =>
 (gd t33 false r0.2.1 r0.2.2 (some t5)).bind fun r1 =>
 (gd t33 false r1.2.1 r1.2.2 (Zer r0.1 r1.1)).bind fun r2 =>
 (gd t33 false r2.2.1 r2.2.2 (Z00 P .gtr 5 r2.1 (.int .u8 57))).bind fun r3 =>
 (Z0X t33 (.bool true) r3.1).bind fun t39 =>
 Z0b t39
  (some ⟨.ret,[t0,(.int .i64 0),(.bool false),t4,t5],r3.2.1,(r3.2.2+1),df⟩)
  ((Z00 P .mul 3 (.int .i64 10) t4).bind fun t41 =>
  (Zer t0 t5).bind fun t44 =>
  (Z00 P .sub 5 t44 (.int .u8 48)).bind fun t45 =>
  (cnvI .i64 t45).bind fun t46 =>
  (Z00 P .add 3 t41 t46).bind fun t47 =>
  (Z00 P .add 3 t5 (.int .i64 1)).bind fun t29 =>
  some ⟨.normal,[t0,t2,t3,t47,t29],r3.2.1,(r3.2.2+1+1),df⟩))
 (some ⟨(.exit 0),[t0,t2,t3,t4,t5],h,(c+1),df⟩)
theorem Z9S (o:Orc H) (rd:Option Nat) (t0 t2 t3 t4 t5:Value) (h:H) (c:Nat) (df:List Nat):jx P o 51 rd Z2I (Z0n [0,2,3,4,5] [t0,t2,t3,t4,t5]) h c df (Klp [0,2,3,4,5])=Z6t o rd t0 t2 t3 t4 t5 h c df:=by kernel_rfl
noncomputable def Zlo (o:Orc H) (t0:Value) (h:H) (c:Nat):Option (Rt H) :=
 (ZaY P h 9 t0).bind fun t7 =>
 (Z00 P .lss 3 t7 (.int .i64 1)).bind fun t8 =>
 (gd t8 false h (c+1+1) (some t0)).bind fun r0 =>
 (gg t8 false r0.2.1 r0.2.2 (((ZaY P r0.2.1 9 r0.1).bind fun v=>some (v,r0.2.1)).bind fun r=>some (r.1,r.2,r0.2.2))).bind fun r1 =>
 (gd t8 false r1.2.1 r1.2.2 (Z00 P .gtr 3 r1.1 (.int .i64 4))).bind fun r2 =>
 (Z0X t8 (.bool true) r2.1).bind fun t13 =>
 (gd t13 false r2.2.1 r2.2.2 (some t0)).bind fun r3 =>
 (gg t13 false r3.2.1 r3.2.2 (((ZaY P r3.2.1 9 r3.1).bind fun v=>some (v,r3.2.1)).bind fun r=>some (r.1,r.2,r3.2.2))).bind fun r4 =>
 (gd t13 false r4.2.1 r4.2.2 (Z00 P .gtr 3 r4.1 (.int .i64 1))).bind fun r5 =>
 (gd t13 false r5.2.1 r5.2.2 (some r5.1)).bind fun r6 =>
 (gd r6.1 true r6.2.1 r6.2.2 (some t0)).bind fun r7 =>
 (gd r6.1 true r7.2.1 r7.2.2 (Zer r7.1 (.int .i64 0))).bind fun r8 =>
 (gd r6.1 true r8.2.1 r8.2.2 (Z00 P .eql 5 r8.1 (.int .u8 48))).bind fun r9 =>
 (gg t13 false r9.2.1 r9.2.2 (Z9z r9.2.1 r9.2.2 r6.1 r9.1 (.bool false))).bind fun r10 =>
 (Z0X t13 (.bool true) r10.1).bind fun t23 =>
 Z0b t23
 (some ⟨.ret,[.tuple #[(.int .i64 0),(.bool false)]],r10.2.1,(r10.2.2+1),[]⟩)
 ((o (ZeA none) [t0,(.int .i64 0),(.bool false),(.int .i64 0),(.int .i64 0)] r10.2.1 (r10.2.2+1+1) []).bind fun r11 =>
 cond (Z0B r11.e (.exit 0))
  ((Z00 P .leq 3 (r11.v 3) (.int .i64 1000)).bind fun t50 =>
  (Z0c r11.h r11.df).bind fun h13 =>
  some ⟨.ret,[.tuple #[r11.v 3,t50]],h13,(r11.c+1),[]⟩)
  (cond (Z0B r11.e .ret)
   ((Z0c r11.h r11.df).bind fun h12 =>
   some ⟨.ret,[.tuple #[r11.v 1,r11.v 2]],h12,r11.c,[]⟩)
   (none)))
theorem ZjB (o:Orc H) (t0:Value) (h:H) (c:Nat):jx P o 51 none f84_c (Z0n (List.range 1) [t0]) h c [] (Kfn P Try.f84.results.toList)=Zlo o t0 h c:=by kernel_rfl
noncomputable def Z1H (o:Orc H) (rd:Option Nat) (t0 t1 t3 t8 t9 t16 t17:Value) (h:H) (c:Nat) (df:List Nat):Option (Rt H) :=
 (Z00 P .lss 3 t17 (.int .i64 4)).bind fun t18 =>
 Z0b t18
 ((ixV 4 true 5 t16 t17).bind fun t20 =>
 (stN (newB h (256*(c+1)+2) [(.int .i64 0),(.int .i64 0),(.int .i64 0),(.int .i64 0),(.int .i64 0)]) 5 (ptrTo (256*(c+1)+2)) t20).bind fun h1 =>
 (Z1M [(.int .i64 0),(.int .i64 0)] [(0,1,t3),(1,1,t17)]).bind fun t24 =>
 (ldN h1 5 (ptrTo (256*(c+1)+2))).bind fun t25 =>
 (Z3A o h1 (c+1+1+1) t0 [t24,t25]).bind fun r2 =>
 (Z3O .not r2.1).bind fun t27 =>
 Z0b t27
  (some ⟨.ret,[t0,t1,t3,t8,t9,t16,t17],r2.2.1,r2.2.2,df⟩)
  ((Z00 P .add 3 t17 (.int .i64 1)).bind fun t28 =>
  some ⟨.normal,[t0,t1,t3,t8,t9,t16,t28],r2.2.1,(r2.2.2+1),df⟩))
 (some ⟨(.exit 2),[t0,t1,t3,t8,t9,t16,t17],h,(c+1),df⟩)
theorem Z4y (o:Orc H) (rd:Option Nat) (t0 t1 t3 t8 t9 t16 t17:Value) (h:H) (c:Nat) (df:List Nat):jx P o 30 rd Z2G (Z0n [0,1,3,8,9,16,17] [t0,t1,t3,t8,t9,t16,t17]) h c df (Klp [0,1,3,8,9,16,17])=Z1H o rd t0 t1 t3 t8 t9 t16 t17 h c df:=by kernel_rfl
noncomputable def Z1I (o:Orc H) (rd:Option Nat) (t0 t1 t8 t9:Value) (h:H) (c:Nat) (df:List Nat):Option (Rt H) :=
 (Z00 P .lss 3 t9 t8).bind fun t10 =>
 Z0b t10
 ((Z03 t1 0).bind fun t12 =>
 (ld1 h t12).bind fun t13 =>
 (ixS 20 t13 t9).bind fun t15 =>
 (ldN h 20 t15).bind fun t16 =>
 (o (Z3X rd) [t0,t1,t9,t8,t9,t16,(.int .i64 0)] h (c+1+1+1) df).bind fun r0 =>
 cond (Z0B r0.e (.exit 2))
  ((Z00 P .add 3 (r0.v 4) (.int .i64 1)).bind fun t29 =>
  some ⟨.normal,[r0.v 0,r0.v 1,r0.v 3,t29],r0.h,(r0.c+1),r0.df⟩)
  (cond (Z0B r0.e .ret)
   (some ⟨.ret,[r0.v 0,r0.v 1,r0.v 3,r0.v 4],r0.h,r0.c,r0.df⟩)
   (none)))
 (some ⟨(.exit 0),[t0,t1,t8,t9],h,(c+1),df⟩)
theorem Z4z (o:Orc H) (rd:Option Nat) (t0 t1 t8 t9:Value) (h:H) (c:Nat) (df:List Nat):jx P o 30 rd Z2H (Z0n [0,1,8,9] [t0,t1,t8,t9]) h c df (Klp [0,1,8,9])=Z1I o rd t0 t1 t8 t9 h c df:=by kernel_rfl
noncomputable def Zex (o:Orc H) (t0 t1:Value) (h:H) (c:Nat):Option (Rt H) :=
 (Z03 t1 0).bind fun t6 =>
 (ld1 h t6).bind fun t7 =>
 (Z3P t7).bind fun t8 =>
 (o (Z3Y none) [t0,t1,t8,(.int .i64 0)] h (c+1) []).bind fun r0 =>
 cond (Z0B r0.e (.exit 0))
 ((Z0c r0.h r0.df).bind fun h2 =>
 some ⟨.ret,[.tuple #[]],h2,r0.c,[]⟩)
 (cond (Z0B r0.e .ret)
  ((Z0c r0.h r0.df).bind fun h1 =>
  some ⟨.ret,[.tuple #[]],h1,r0.c,[]⟩)
  (none))
theorem Zdp (o:Orc H) (t0 t1:Value) (h:H) (c:Nat):jx P o 30 none f85_c (Z0n (List.range 2) [t0,t1]) h c [] (Kfn P Try.f85.results.toList)=Zex o t0 t1 h c:=by kernel_rfl
theorem Zkp {t0 t1:Value} {h:FH} {c:Nat} {df:List Nat} {r:Rt FH} (e:Zex G t0 t1 h c=some r):G (.fn 85) [t0,t1] h c df=some r:=Z0r (a:=Zbz) bk_85 rfl (fun args h c=>by cases args <;> rfl) rfl ((Zdp G t0 t1 h c).trans e)
theorem Zey {rd:Option Nat} {t0 t1 t3 t8 t9 t16 t17:Value} {h:FH} {c:Nat} {df:List Nat} {q r:Rt FH} (e:Z1H G rd t0 t1 t3 t8 t9 t16 t17 h c df=some q) (hq:q.e = .normal) (k:G (Z3X rd) q.vs q.h q.c q.df=some r):G (Z3X rd) [t0,t1,t3,t8,t9,t16,t17] h c df=some r:=Z0I ((Z4y G rd t0 t1 t3 t8 t9 t16 t17 h c df).trans e) hq k
theorem Z8L {rd:Option Nat} {t0 t1 t3 t8 t9 t16 t17:Value} {h:FH} {c:Nat} {df:List Nat} {q:Rt FH} (e:Z1H G rd t0 t1 t3 t8 t9 t16 t17 h c df=some q) (hq:q.e ≠ .normal):G (Z3X rd) [t0,t1,t3,t8,t9,t16,t17] h c df=some q:=Z0J ((Z4y G rd t0 t1 t3 t8 t9 t16 t17 h c df).trans e) hq
theorem Zez {rd:Option Nat} {t0 t1 t8 t9:Value} {h:FH} {c:Nat} {df:List Nat} {q r:Rt FH} (e:Z1I G rd t0 t1 t8 t9 h c df=some q) (hq:q.e = .normal) (k:G (Z3Y rd) q.vs q.h q.c q.df=some r):G (Z3Y rd) [t0,t1,t8,t9] h c df=some r:=Z0I ((Z4z G rd t0 t1 t8 t9 h c df).trans e) hq k
theorem Z8M {rd:Option Nat} {t0 t1 t8 t9:Value} {h:FH} {c:Nat} {df:List Nat} {q:Rt FH} (e:Z1I G rd t0 t1 t8 t9 h c df=some q) (hq:q.e ≠ .normal):G (Z3Y rd) [t0,t1,t8,t9] h c df=some q:=Z0J ((Z4z G rd t0 t1 t8 t9 h c df).trans e) hq
noncomputable def Z1G (o:Orc H) (rd:Option Nat) (t0 t2 t3 t5 t6 t7 t18 t19 t50 t51:Value) (h:H) (c:Nat) (df:List Nat):Option (Rt H) :=
 (Z00 P .lss 3 t51 (.int .i64 4)).bind fun t52 =>
 Z0b t52
 (((ixV 4 false 1 t50 t51).bind fun t54 =>
  (Z00 P .lss 3 t54 (.int .i64 0)).bind fun t56 =>
  Z0b t56
   (some ⟨.normal,[t0,t2,t3,t5,t6,t7,t18,t19,t50,t51],h,(c+1+1+1),df⟩)
   ((ixS 1 t5 t6).bind fun t60 =>
   (ld1 h t60).bind fun t61 =>
   (ixS 1 t3 t61).bind fun t62 =>
   (ld1 h t62).bind fun t63 =>
   (Z3O .neg t63).bind fun t64 =>
   (Z0a t0).bind fun t66 =>
   (Z03 t66 0).bind fun t67 =>
   (Z03 t67 0).bind fun t68 =>
   (ld1 h t68).bind fun t69 =>
   (ixA 2 1 t7 (.int .i64 0)).bind fun t70 =>
   (ld1 h t70).bind fun t71 =>
   (ixS 20 t69 t71).bind fun t73 =>
   (ixA 4 5 t73 t51).bind fun t74 =>
   (Z03 t74 1).bind fun t75 =>
   (ldN h 4 t75).bind fun t76 =>
   (callF o 91 [t76] h (c+1+1+1+1)).bind fun r0 =>
   (Z00 P .mul 3 t64 r0.1).bind fun t78 =>
   (bif (Z1r (Z2y t60) h r0.2.1 && (Z1r (Z2y t62) h r0.2.1 && true)) then
   (ixS 1 t3 t54).bind fun t81 =>
   (ld1 r0.2.1 t81).bind fun t82 =>
   (Z00 P .eql 3 t82 (.int .i64 0)).bind fun t83 =>
   (Z0b t83
    ((ixS 1 t3 t54).bind fun t87 =>
    (stN r0.2.1 1 t87 t78).bind fun h2 =>
    (Zag [(.int .i64 0)] [(0,1,t54)]).bind fun r3 =>
    (Z6X (newB h2 (256*(r0.2.2+1+1)+2) r3) (256*(r0.2.2+1+1)+3) 1 8 t5 (.slice (some ⟨(256*(r0.2.2+1+1)+2),0,none⟩) 1 1)).bind fun r4 =>
    some ⟨.normal,[t0,t2,t3,r4.1,t6,t7,t18,t19,t50,t51],r4.2,(r0.2.2+1+1+1),df⟩)
    ((ixS 1 t3 t54).bind fun t94 =>
    (ld1 r0.2.1 t94).bind fun t95 =>
    (Z00 P .neq 3 t95 t78).bind fun t97 =>
    Z0b t97
     (some ⟨.ret,[t0,(.bool false),t3,t5,t6,t7,t18,t19,t50,t51],r0.2.1,(r0.2.2+1+1+1),df⟩)
     (some ⟨.normal,[t0,t2,t3,t5,t6,t7,t18,t19,t50,t51],r0.2.1,(r0.2.2+1+1),df⟩)):Option (Rt H)).bind fun r7 =>
   cond (Z0B r7.e .normal)
    (some ⟨.normal,[r7.v 0,r7.v 1,r7.v 2,r7.v 3,r7.v 4,r7.v 5,r7.v 6,r7.v 7,r7.v 8,r7.v 9],r7.h,r7.c,r7.df⟩)
    (cond (Z0B r7.e .ret)
     (some ⟨.ret,[r7.v 0,r7.v 1,r7.v 2,r7.v 3,r7.v 4,r7.v 5,r7.v 6,r7.v 7,r7.v 8,r7.v 9],r7.h,r7.c,r7.df⟩)
     (none))
   else none)):Option (Rt H)).bind fun r8 =>
 cond (Z0B r8.e .normal)
  ((Z00 P .add 3 (r8.v 9) (.int .i64 1)).bind fun t98 =>
  some ⟨.normal,[r8.v 0,r8.v 1,r8.v 2,r8.v 3,r8.v 4,r8.v 5,r8.v 6,r8.v 7,r8.v 8,t98],r8.h,(r8.c+1),r8.df⟩)
  (cond (Z0B r8.e .ret)
   (some ⟨.ret,[r8.v 0,r8.v 1,r8.v 2,r8.v 3,r8.v 4,r8.v 5,r8.v 6,r8.v 7,r8.v 8,r8.v 9],r8.h,r8.c,r8.df⟩)
   (none)))
 (some ⟨(.exit 4),[t0,t2,t3,t5,t6,t7,t18,t19,t50,t51],h,(c+1),df⟩)
theorem Z1m (o:Orc H) (rd:Option Nat) (t0 t2 t3 t5 t6 t7 t18 t19 t50 t51:Value) (h:H) (c:Nat) (df:List Nat):jx P o 100 rd Z2C (Z0n [0,2,3,5,6,7,18,19,50,51] [t0,t2,t3,t5,t6,t7,t18,t19,t50,t51]) h c df (Klp [0,2,3,5,6,7,18,19,50,51])=Z1G o rd t0 t2 t3 t5 t6 t7 t18 t19 t50 t51 h c df:=by kernel_rfl
noncomputable def Z2F (o:Orc H) (rd:Option Nat) (t0 t2 t3 t5 t6 t18 t19:Value) (h:H) (c:Nat) (df:List Nat):Option (Rt H) :=
 (Z3P t5).bind fun t34 =>
 (Z00 P .lss 3 t6 t34).bind fun t35 =>
 Z0b t35
 ((Z0a t0).bind fun t39 =>
 (Z03 t39 1).bind fun t40 =>
 (ld1 h t40).bind fun t41 =>
 (ixS 1 t5 t6).bind fun t44 =>
 (ld1 h t44).bind fun t45 =>
 (ixS 2 t41 t45).bind fun t46 =>
 (ldN h 2 t46).bind fun t47 =>
 (stN (newB h (256*(c+1)+10) [(.int .i64 0),(.int .i64 0)]) 2 (ptrTo (256*(c+1)+10)) t47).bind fun h1 =>
 (ldN h1 2 (ptrTo (256*(c+1)+10))).bind fun t49 =>
 (callF o 61 [t0,t49] h1 (c+1+1+1)).bind fun r2 =>
 (o (Z8I rd) [t0,t2,t3,t5,t6,(ptrTo (256*(c+1)+10)),t18,t19,r2.1,(.int .i64 0)] r2.2.1 r2.2.2 df).bind fun r3 =>
 cond (Z0B r3.e (.exit 4))
  ((Z00 P .add 3 (r3.v 4) (.int .i64 1)).bind fun t37 =>
  some ⟨.normal,[r3.v 0,r3.v 1,r3.v 2,r3.v 3,t37,r3.v 6,r3.v 7],r3.h,(r3.c+1),r3.df⟩)
  (cond (Z0B r3.e .ret)
   (some ⟨.ret,[r3.v 0,r3.v 1,r3.v 2,r3.v 3,r3.v 4,r3.v 6,r3.v 7],r3.h,r3.c,r3.df⟩)
   (none)))
 (some ⟨(.exit 2),[t0,t2,t3,t5,t6,t18,t19],h,(c+1),df⟩)
theorem Z2q (o:Orc H) (rd:Option Nat) (t0 t2 t3 t5 t6 t18 t19:Value) (h:H) (c:Nat) (df:List Nat):jx P o 100 rd Z2D (Z0n [0,2,3,5,6,18,19] [t0,t2,t3,t5,t6,t18,t19]) h c df (Klp [0,2,3,5,6,18,19])=Z2F o rd t0 t2 t3 t5 t6 t18 t19 h c df:=by kernel_rfl
noncomputable def Z24 (o:Orc H) (rd:Option Nat) (t0 t2 t3 t18 t19:Value) (h:H) (c:Nat) (df:List Nat):Option (Rt H) :=
 (Z00 P .lss 3 t19 t18).bind fun t20 =>
 Z0b t20
 (((ixS 1 t3 t19).bind fun t24 =>
  (ld1 h t24).bind fun t25 =>
  (Z00 P .neq 3 t25 (.int .i64 0)).bind fun t26 =>
  Z0b t26
   (some ⟨.normal,[t0,t2,t3,t18,t19],h,(c+1+1+1),df⟩)
   ((ixS 1 t3 t19).bind fun t29 =>
   (stN h 1 t29 (.int .i64 1)).bind fun h1 =>
   (Zag [(.int .i64 0)] [(0,1,t19)]).bind fun r2 =>
   (o (Z8J rd) [t0,t2,t3,(.slice (some ⟨(256*(c+1+1+1+1)+1),0,none⟩) 1 1),(.int .i64 0),t18,t19] (newB h1 (256*(c+1+1+1+1)+1) r2) (c+1+1+1+1+1+1) df).bind fun r3 =>
   cond (Z0B r3.e (.exit 2))
    (some ⟨.normal,[r3.v 0,r3.v 1,r3.v 2,r3.v 5,r3.v 6],r3.h,r3.c,r3.df⟩)
    (cond (Z0B r3.e .ret)
     (some ⟨.ret,[r3.v 0,r3.v 1,r3.v 2,r3.v 5,r3.v 6],r3.h,r3.c,r3.df⟩)
     (none))):Option (Rt H)).bind fun r4 =>
 cond (Z0B r4.e .normal)
  ((Z00 P .add 3 (r4.v 4) (.int .i64 1)).bind fun t99 =>
  some ⟨.normal,[r4.v 0,r4.v 1,r4.v 2,r4.v 3,t99],r4.h,(r4.c+1),r4.df⟩)
  (cond (Z0B r4.e .ret)
   (some ⟨.ret,[r4.v 0,r4.v 1,r4.v 2,r4.v 3,r4.v 4],r4.h,r4.c,r4.df⟩)
   (none)))
 (some ⟨(.exit 0),[t0,t2,t3,t18,t19],h,(c+1),df⟩)
theorem Z1S (o:Orc H) (rd:Option Nat) (t0 t2 t3 t18 t19:Value) (h:H) (c:Nat) (df:List Nat):jx P o 100 rd Z2E (Z0n [0,2,3,18,19] [t0,t2,t3,t18,t19]) h c df (Klp [0,2,3,18,19])=Z24 o rd t0 t2 t3 t18 t19 h c df:=by kernel_rfl
noncomputable def Zgv (o:Orc H) (t0:Value) (h:H) (c:Nat):Option (Rt H) :=
 (Z0a t0).bind fun t12 =>
 (Z03 t12 1).bind fun t13 =>
 (ld1 h t13).bind fun t14 =>
 (Z3P t14).bind fun t15 =>
 (mkS 1 8 [(.int .i64 0)] t15 t15).bind fun r0 =>
 (Z3P (.slice (some ⟨(256*(c+1)+5),0,none⟩) r0.2.1 r0.2.2)).bind fun t18 =>
 (o (Z8K none) [t0,(.bool false),(.slice (some ⟨(256*(c+1)+5),0,none⟩) r0.2.1 r0.2.2),t18,(.int .i64 0)] (newB h (256*(c+1)+5) r0.1) (c+1+1+1) []).bind fun r1 =>
 cond (Z0B r1.e (.exit 0))
 ((Z0c r1.h r1.df).bind fun h3 =>
 some ⟨.ret,[(.bool true)],h3,(r1.c+1),[]⟩)
 (cond (Z0B r1.e .ret)
  ((Z0c r1.h r1.df).bind fun h2 =>
  some ⟨.ret,[r1.v 1],h2,r1.c,[]⟩)
  (none))
theorem Zdo (o:Orc H) (t0:Value) (h:H) (c:Nat):jx P o 100 none f86_c (Z0n (List.range 1) [t0]) h c [] (Kfn P Try.f86.results.toList)=Zgv o t0 h c:=by kernel_rfl
theorem f86_go {t0:Value} {h:FH} {c:Nat} {df:List Nat} {r:Rt FH} (e:Zgv G t0 h c=some r):G (.fn 86) [t0] h c df=some (gcR h c [] r):=Z0r (a:=Zby) bk_86 rfl (fun args h c=>by cases args <;> rfl) rfl ((Zdo G t0 h c).trans e)
noncomputable def Zgu (o:Orc H) (t0:Value) (h:H) (c:Nat):Option (Rt H) :=
 (bif (t0:Value).cells.toList.all Z09 then
 (ldN (newB h (256*c+0) (t0:Value).cells.toList) 4 (ptrTo (256*c+0))).bind fun t3 =>
 (callF o 56 [t3] (newB h (256*c+0) (t0:Value).cells.toList) (c+1+1)).bind fun r0 =>
 (Z3O .not r0.1).bind fun t5 =>
 Z0b t5
 (some ⟨.ret,[(.int .i64 0)],r0.2.1,(r0.2.2+1),[]⟩)
 ((ldN r0.2.1 4 (ptrTo (256*c+0))).bind fun t6 =>
 (callF o 92 [t6] r0.2.1 (r0.2.2+1)).bind fun r1 =>
 some ⟨.ret,[r1.1],r1.2.1,r1.2.2,[]⟩)
 else none)
theorem Zdn (o:Orc H) (t0:Value) (h:H) (c:Nat):jx P o 8 none f91_c (Z0n (List.range 1) [t0]) h c [] (Kfn P Try.f91.results.toList)=Zgu o t0 h c:=by kernel_rfl
theorem f91_go {t0:Value} {h:FH} {c:Nat} {df:List Nat} {r:Rt FH} (e:Zgu G t0 h c=some r):G (.fn 91) [t0] h c df=some (gcR h c [] r):=Z0r (a:=Zbx) bk_91 rfl (fun args h c=>by cases args <;> rfl) rfl ((Zdn G t0 h c).trans e)
noncomputable def Z3V (o:Orc H) (rd:Option Nat) (t1 t3 t4 t6 t9 t10:Value) (h:H) (c:Nat) (df:List Nat):Option (Rt H) :=
 (Z00 P .lss 3 t10 t9).bind fun t11 =>
 Z0b t11
 ((ixA 4 1 t1 t10).bind fun t14 =>
 (ld1 h t14).bind fun t15 =>
 (ixA 4 1 t1 t4).bind fun t17 =>
 (ld1 h t17).bind fun t18 =>
 (Z00 P .gtr 3 t15 t18).bind fun t19 =>
 (Z0b t19
  ((Z3O .neg t3).bind fun t21 =>
  some ⟨.normal,[t1,t21,t4,t6,t9,t10],h,(c+1+1+1+1),df⟩)
  (some ⟨.normal,[t1,t3,t4,t6,t9,t10],h,(c+1+1+1),df⟩):Option (Rt H)).bind fun r1 =>
 cond (Z0B r1.e .normal)
  ((Z00 P .add 3 (r1.v 5) (.int .i64 1)).bind fun t22 =>
  some ⟨.normal,[r1.v 0,r1.v 1,r1.v 2,r1.v 3,r1.v 4,t22],r1.h,(r1.c+1),r1.df⟩)
  (none))
 (some ⟨(.exit 2),[t1,t3,t4,t6,t9,t10],h,(c+1),df⟩)
theorem Z4w (o:Orc H) (rd:Option Nat) (t1 t3 t4 t6 t9 t10:Value) (h:H) (c:Nat) (df:List Nat):jx P o 25 rd Z2A (Z0n [1,3,4,6,9,10] [t1,t3,t4,t6,t9,t10]) h c df (Klp [1,3,4,6,9,10])=Z3V o rd t1 t3 t4 t6 t9 t10 h c df:=by kernel_rfl
noncomputable def Z3W (o:Orc H) (rd:Option Nat) (t1 t3 t6:Value) (h:H) (c:Nat) (df:List Nat):Option (Rt H) :=
 (Z00 P .lss 3 t6 (.int .i64 4)).bind fun t7 =>
 Z0b t7
 ((o (Z8G rd) [t1,t3,t6,t6,t6,(.int .i64 0)] h (c+1+1+1) df).bind fun r0 =>
 cond (Z0B r0.e (.exit 2))
  ((Z00 P .add 3 (r0.v 3) (.int .i64 1)).bind fun t23 =>
  some ⟨.normal,[r0.v 0,r0.v 1,t23],r0.h,(r0.c+1),r0.df⟩)
  (none))
 (some ⟨(.exit 0),[t1,t3,t6],h,(c+1),df⟩)
theorem Z4x (o:Orc H) (rd:Option Nat) (t1 t3 t6:Value) (h:H) (c:Nat) (df:List Nat):jx P o 25 rd Z2B (Z0n [1,3,6] [t1,t3,t6]) h c df (Klp [1,3,6])=Z3W o rd t1 t3 t6 h c df:=by kernel_rfl
noncomputable def Zgs (o:Orc H) (t0:Value) (h:H) (c:Nat):Option (Rt H) :=
 (bif (t0:Value).cells.toList.all Z09 then
 (o (Z8H none) [(ptrTo (256*c+0)),(.int .i64 1),(.int .i64 0)] (newB h (256*c+0) (t0:Value).cells.toList) (c+1+1+1) []).bind fun r0 =>
 cond (Z0B r0.e (.exit 0))
 ((Z0c r0.h r0.df).bind fun h1 =>
 some ⟨.ret,[r0.v 1],h1,(r0.c+1),[]⟩)
 (none)
 else none)
theorem Zdm (o:Orc H) (t0:Value) (h:H) (c:Nat):jx P o 25 none f92_c (Z0n (List.range 1) [t0]) h c [] (Kfn P Try.f92.results.toList)=Zgs o t0 h c:=by kernel_rfl
theorem f92_go {t0:Value} {h:FH} {c:Nat} {df:List Nat} {r:Rt FH} (e:Zgs G t0 h c=some r):G (.fn 92) [t0] h c df=some (gcR h c [] r):=Z0r (a:=Zbw) bk_92 rfl (fun args h c=>by cases args <;> rfl) rfl ((Zdm G t0 h c).trans e)

variable {H:Type} [HeapC H]
noncomputable def K:LB:={ loop:=fun j=>BT.look ((.node 60000 ([1,2,7,22,23],Z2V,65) (.node 40002 ([4,5,7,8,9,35,36,37,42,43,68],Z35,152) (.node 39000 ([2,3,4,5,6,8,10,12,59,60],Z3d,172) (.node 14001 ([1,2,3,4,5],Z3k,83) (.node 14000 ([1,2,3,4],Z3l,83) (.node 13000 ([2,3,4,12,13],Z3m,23) .leaf .leaf) .leaf) (.node 27000 ([0,1,4,7,8],Z3g,26) (.node 16000 ([0,1,4,5],Z3h,26) .leaf .leaf) .leaf)) (.node 40000 ([4,35,36,37],Z37,152) (.node 39002 ([2,3,4,6,12,155,156],Z3b,172) (.node 39001 ([2,3,4,5,6,8,10,12,13,59,60,105,106],Z3c,172) .leaf .leaf) .leaf) (.node 40001 ([4,5,35,36,37,42,43],Z36,152) .leaf .leaf))) (.node 42002 ([2,3,4,39,40,41],Z30,90) (.node 42000 ([2,3,4,18,19,20],Z32,90) (.node 41000 ([0,4,5,15,16],Z33,41) (.node 40003 ([4,5,7,8,9,10,35,36,37,42,43,68,90],Z34,152) .leaf .leaf) .leaf) (.node 42001 ([2,3,4,18,19,20,24,25],Z31,90) .leaf .leaf)) (.node 45000 ([1,2,3,4],Z2X,19) (.node 44000 ([1,2,3,4],Z2Y,30) (.node 42003 ([2,4,53,54,55],Z2Z,90) .leaf .leaf) .leaf) (.node 56000 ([2,3,6,7],Z2W,23) .leaf .leaf)))) (.node 68000 ([0,1],Z2K,41) (.node 62002 ([2,3,4,5,7,8,9,10,11,14],Z2P,135) (.node 62000 ([2,3,4,5,7,8,9],Z2R,135) (.node 61000 ([0,3,4,5,17,18],Z2S,48) (.node 60001 ([1,2,7,8,22,23,26],Z2U,65) .leaf .leaf) .leaf) (.node 62001 ([2,3,4,5,7,8,9,10,11],Z2Q,135) .leaf .leaf)) (.node 65001 ([0,1,4,5,6,7,9,23,24,25,29],Z2M,90) (.node 65000 ([0,1,4,5,6,7,23,24,25],Z2N,90) (.node 64000 ([2,3,6,7],Z2O,16) .leaf .leaf) .leaf) (.node 66000 ([2,3,10,11],Z2L,21) .leaf .leaf))) (.node 86000 ([0,2,3,18,19],Z2E,100) (.node 85000 ([0,1,8,9],Z2H,30) (.node 84000 ([0,2,3,4,5],Z2I,51) (.node 83000 ([0,3,4,5],Z2J,43) .leaf .leaf) .leaf) (.node 85001 ([0,1,3,8,9,16,17],Z2G,30) .leaf .leaf)) (.node 92000 ([1,3,6],Z2B,25) (.node 86002 ([0,2,3,5,6,7,18,19,50,51],Z2C,100) (.node 86001 ([0,2,3,5,6,18,19],Z2D,100) .leaf .leaf) .leaf) (.node 92001 ([1,3,4,6,9,10],Z2A,25) .leaf .leaf))))):BT (List Nat × ACode × Nat)) j,rng:=fun nt ps=>Zg0 nt ps [(71,[13,14],([1,2,3],Z1o,Z1n))] }
theorem Zdc:K.loop 13000=some ([2,3,4,12,13],Z3m,23):=by kernel_rfl
theorem Zdb:K.loop 14000=some ([1,2,3,4],Z3l,83):=by kernel_rfl
theorem Zda:K.loop 14001=some ([1,2,3,4,5],Z3k,83):=by kernel_rfl
theorem Zd9:K.loop 16000=some ([0,1,4,5],Z3h,26):=by kernel_rfl
theorem Zd8:K.loop 27000=some ([0,1,4,7,8],Z3g,26):=by kernel_rfl
theorem Zd7:K.loop 39000=some ([2,3,4,5,6,8,10,12,59,60],Z3d,172):=by kernel_rfl
theorem Zd6:K.loop 39001=some ([2,3,4,5,6,8,10,12,13,59,60,105,106],Z3c,172):=by kernel_rfl
theorem Zd5:K.loop 39002=some ([2,3,4,6,12,155,156],Z3b,172):=by kernel_rfl
theorem Zd4:K.loop 40000=some ([4,35,36,37],Z37,152):=by kernel_rfl
theorem Zd3:K.loop 40001=some ([4,5,35,36,37,42,43],Z36,152):=by kernel_rfl
theorem Zd2:K.loop 40002=some ([4,5,7,8,9,35,36,37,42,43,68],Z35,152):=by kernel_rfl
theorem Zd1:K.loop 40003=some ([4,5,7,8,9,10,35,36,37,42,43,68,90],Z34,152):=by kernel_rfl
theorem Zd0:K.loop 41000=some ([0,4,5,15,16],Z33,41):=by kernel_rfl
theorem ZcZ:K.loop 42000=some ([2,3,4,18,19,20],Z32,90):=by kernel_rfl
theorem ZcY:K.loop 42001=some ([2,3,4,18,19,20,24,25],Z31,90):=by kernel_rfl
theorem ZcX:K.loop 42002=some ([2,3,4,39,40,41],Z30,90):=by kernel_rfl
theorem ZcW:K.loop 42003=some ([2,4,53,54,55],Z2Z,90):=by kernel_rfl
theorem ZcV:K.loop 44000=some ([1,2,3,4],Z2Y,30):=by kernel_rfl
theorem ZcU:K.loop 45000=some ([1,2,3,4],Z2X,19):=by kernel_rfl
theorem ZcT:K.loop 56000=some ([2,3,6,7],Z2W,23):=by kernel_rfl
theorem ZcS:K.loop 60000=some ([1,2,7,22,23],Z2V,65):=by kernel_rfl
theorem ZcR:K.loop 60001=some ([1,2,7,8,22,23,26],Z2U,65):=by kernel_rfl
theorem ZcQ:K.loop 61000=some ([0,3,4,5,17,18],Z2S,48):=by kernel_rfl
theorem ZcP:K.loop 62000=some ([2,3,4,5,7,8,9],Z2R,135):=by kernel_rfl
theorem ZcO:K.loop 62001=some ([2,3,4,5,7,8,9,10,11],Z2Q,135):=by kernel_rfl
theorem ZcN:K.loop 62002=some ([2,3,4,5,7,8,9,10,11,14],Z2P,135):=by kernel_rfl
theorem ZcM:K.loop 64000=some ([2,3,6,7],Z2O,16):=by kernel_rfl
theorem ZcL:K.loop 65000=some ([0,1,4,5,6,7,23,24,25],Z2N,90):=by kernel_rfl
theorem ZcK:K.loop 65001=some ([0,1,4,5,6,7,9,23,24,25,29],Z2M,90):=by kernel_rfl
theorem ZcJ:K.loop 66000=some ([2,3,10,11],Z2L,21):=by kernel_rfl
theorem ZcI:K.loop 68000=some ([0,1],Z2K,41):=by kernel_rfl
theorem ZcH:K.loop 83000=some ([0,3,4,5],Z2J,43):=by kernel_rfl
theorem ZcG:K.loop 84000=some ([0,2,3,4,5],Z2I,51):=by kernel_rfl
theorem ZcF:K.loop 85000=some ([0,1,8,9],Z2H,30):=by kernel_rfl
theorem ZcE:K.loop 85001=some ([0,1,3,8,9,16,17],Z2G,30):=by kernel_rfl
theorem ZcD:K.loop 86000=some ([0,2,3,18,19],Z2E,100):=by kernel_rfl
theorem ZcC:K.loop 86001=some ([0,2,3,5,6,18,19],Z2D,100):=by kernel_rfl
theorem ZcB:K.loop 86002=some ([0,2,3,5,6,7,18,19,50,51],Z2C,100):=by kernel_rfl
theorem ZcA:K.loop 92000=some ([1,3,6],Z2B,25):=by kernel_rfl
theorem Zcz:K.loop 92001=some ([1,3,4,6,9,10],Z2A,25):=by kernel_rfl
theorem Zcy:K.rng 71 [13,14]=some ([1,2,3],Z1o,Z1n):=by kernel_rfl
theorem ck_10:Z07 K ZeW.nt ZeW.code:=(ai tt (ai tt (ai tt (ai tt tt))))
theorem fe_10:FE (H:=H) P bk K 10 (fun o vs h c=>match vs with | []=>ZlD o h c | _=>none):=by
 refine ⟨ZeW,bk_10,rfl,ck_10,fun o vs h c r e=>?_⟩
 dsimp only at e
 split at e
 · exact ⟨rfl,(ZjJ o h c).trans e⟩
 · cases e
theorem ck_11:Z07 K ZbZ.nt ZbZ.code:=(ai tt (ai (ai tt (ai (ai tt tt) tt)) (ai tt tt)))
theorem fe_11:FE (H:=H) P bk K 11 (fun o vs h c=>match vs with | [t0]=>ZeV o t0 h c | _=>none):=by
 refine ⟨ZbZ,bk_11,rfl,ck_11,fun o vs h c r e=>?_⟩
 dsimp only at e
 split at e
 · exact ⟨rfl,(ZdT o _ h c).trans e⟩
 · cases e
theorem Zjm:Z07 K 23 Z3m:=(ai tt (ai (ai tt tt) (ai (ai tt (ai tt (ai (ai tt tt) tt))) tt)))
theorem ZiG:LE (H:=H) P K 13000 (fun o rd vs h c df=>match vs with | [t2,t3,t4,t12,t13]=>Z4h o rd t2 t3 t4 t12 t13 h c df | _=>none):=by
 intro lin b nt hk
 rw [Zdc] at hk
 cases hk
 refine ⟨Zjm,fun o rd vs h c df q e=>?_⟩
 dsimp only at e
 split at e
 · exact (Z4T o rd _ _ _ _ _ h c df).trans e
 · cases e
theorem ck_13:Z07 K ZbY.nt ZbY.code:=(ai tt (ai (ai tt (ai (ai tt tt) tt)) (ai tt (ai (ai tt (ai rfl Zdc)) (ai tt tt)))))
theorem fe_13:FE (H:=H) P bk K 13 (fun o vs h c=>match vs with | [t0]=>ZgS o t0 h c | _=>none):=by
 refine ⟨ZbY,bk_13,rfl,ck_13,fun o vs h c r e=>?_⟩
 dsimp only at e
 split at e
 · exact ⟨rfl,(ZdS o _ h c).trans e⟩
 · cases e
theorem Zjk:Z07 K 83 Z3k:=(ai (ai tt (ai tt tt)) (ai (ai tt (ai (ai tt (ai tt tt)) (ai (ai tt (ai (ai tt tt) tt)) (ai tt (ai (ai tt tt) tt))))) tt))
theorem ZiE:LE (H:=H) P K 14001 (fun o rd vs h c df=>match vs with | [t1,t2,t3,t4,t5]=>Z1K o rd t1 t2 t3 t4 t5 h c df | _=>none):=by
 intro lin b nt hk
 rw [Zda] at hk
 cases hk
 refine ⟨Zjk,fun o rd vs h c df q e=>?_⟩
 dsimp only at e
 split at e
 · exact (Z4R o rd _ _ _ _ _ h c df).trans e
 · cases e
theorem Zjl:Z07 K 83 Z3l:=(ai (ai tt (ai tt tt)) (ai (ai tt (ai rfl Zda)) tt))
theorem ZiF:LE (H:=H) P K 14000 (fun o rd vs h c df=>match vs with | [t1,t2,t3,t4]=>Z19 o rd t1 t2 t3 t4 h c df | _=>none):=by
 intro lin b nt hk
 rw [Zdb] at hk
 cases hk
 refine ⟨Zjl,fun o rd vs h c df q e=>?_⟩
 dsimp only at e
 split at e
 · exact (Z4S o rd _ _ _ _ h c df).trans e
 · cases e
theorem ck_14:Z07 K ZbX.nt ZbX.code:=(ai tt (ai tt (ai (ai tt (ai (ai tt tt) tt)) (ai (ai tt (ai rfl Zdb)) (ai tt tt)))))
theorem fe_14:FE (H:=H) P bk K 14 (fun o vs h c=>match vs with | [t0]=>ZgR o t0 h c | _=>none):=by
 refine ⟨ZbX,bk_14,rfl,ck_14,fun o vs h c r e=>?_⟩
 dsimp only at e
 split at e
 · exact ⟨rfl,(ZdR o _ h c).trans e⟩
 · cases e
theorem Zjj:Z07 K 26 Z3h:=(ai (ai tt (ai tt tt)) (ai (ai tt (ai (ai tt tt) tt)) tt))
theorem ZiD:LE (H:=H) P K 16000 (fun o rd vs h c df=>match vs with | [t0,t1,t4,t5]=>Z6z o rd t0 t1 t4 t5 h c df | _=>none):=by
 intro lin b nt hk
 rw [Zd9] at hk
 cases hk
 refine ⟨Zjj,fun o rd vs h c df q e=>?_⟩
 dsimp only at e
 split at e
 · exact (Za8 o rd _ _ _ _ h c df).trans e
 · cases e
theorem ck_16:Z07 K ZeU.nt ZeU.code:=(ai tt (ai (ai tt (ai (ai tt tt) tt)) (ai (ai tt (ai rfl Zd9)) (ai tt tt))))
theorem fe_16:FE (H:=H) P bk K 16 (fun o vs h c=>match vs with | [t0,t1]=>ZlB o t0 t1 h c | _=>none):=by
 refine ⟨ZeU,bk_16,rfl,ck_16,fun o vs h c r e=>?_⟩
 dsimp only at e
 split at e
 · exact ⟨rfl,(ZjG o _ _ h c).trans e⟩
 · cases e
theorem Zji:Z07 K 26 Z3g:=(ai tt (ai (ai tt tt) (ai (ai tt (ai tt (ai (ai tt tt) tt))) tt)))
theorem ZiC:LE (H:=H) P K 27000 (fun o rd vs h c df=>match vs with | [t0,t1,t4,t7,t8]=>Z4f o rd t0 t1 t4 t7 t8 h c df | _=>none):=by
 intro lin b nt hk
 rw [Zd8] at hk
 cases hk
 refine ⟨Zji,fun o rd vs h c df q e=>?_⟩
 dsimp only at e
 split at e
 · exact (Z4Q o rd _ _ _ _ _ h c df).trans e
 · cases e
theorem ck_27:Z07 K ZbW.nt ZbW.code:=(ai tt (ai (ai tt (ai rfl Zd8)) (ai tt tt)))
theorem fe_27:FE (H:=H) P bk K 27 (fun o vs h c=>match vs with | [t0,t1]=>ZgQ o t0 t1 h c | _=>none):=by
 refine ⟨ZbW,bk_27,rfl,ck_27,fun o vs h c r e=>?_⟩
 dsimp only at e
 split at e
 · exact ⟨rfl,(ZdQ o _ _ h c).trans e⟩
 · cases e
theorem ck_37:Z07 K ZeS.nt ZeS.code:=(ai tt (ai tt (ai tt tt)))
theorem fe_37:FE (H:=H) P bk K 37 (fun o vs h c=>match vs with | []=>ZlA o h c | _=>none):=by
 refine ⟨ZeS,bk_37,rfl,ck_37,fun o vs h c r e=>?_⟩
 dsimp only at e
 split at e
 · exact ⟨rfl,(ZjF o h c).trans e⟩
 · cases e
theorem Zjn:Z07 K 71 Z1o:=(ai tt tt)
theorem Zjh:Z07 K 71 Z1n:=(ai (ai tt (ai tt tt)) (ai (ai tt (ai (ai tt tt) tt)) (ai tt (ai (ai tt tt) tt))))
theorem ZhO:RE (H:=H) P K 71 [13,14] (fun o l vs h c=>match vs with | [t13,t14,t1,t2,t3]=>Z3f o l t13 t14 t1 t2 t3 h c | _=>none):=by
 intro lin a b hk
 rw [Zcy] at hk
 cases hk
 refine ⟨Zjn,Zjh,fun o l vs h c r e=>?_⟩
 dsimp only at e
 split at e
 · exact (Z66 o l _ _ _ _ _ h c).trans e
 · cases e
theorem ck_38:Z07 K ZbV.nt ZbV.code:=(ai tt (ai (ai tt (ai (ai tt tt) tt)) (ai tt (ai (ai tt (ai rfl Zcy)) (ai tt tt)))))
theorem fe_38:FE (H:=H) P bk K 38 (fun o vs h c=>match vs with | [t0]=>ZgP o t0 h c | _=>none):=by
 refine ⟨ZbV,bk_38,rfl,ck_38,fun o vs h c r e=>?_⟩
 dsimp only at e
 split at e
 · exact ⟨rfl,(ZdP o _ h c).trans e⟩
 · cases e
theorem Zjf:Z07 K 172 Z3c:=(ai tt (ai (ai tt tt) (ai (ai tt (ai tt (ai tt (ai tt (ai tt tt))))) tt)))
theorem ZiA:LE (H:=H) P K 39001 (fun o rd vs h c df=>match vs with | [t2,t3,t4,t5,t6,t8,t10,t12,t13,t59,t60,t105,t106]=>Z3e o rd t2 t3 t4 t5 t6 t8 t10 t12 t13 t59 t60 t105 t106 h c df | _=>none):=by
 intro lin b nt hk
 rw [Zd6] at hk
 cases hk
 refine ⟨Zjf,fun o rd vs h c df q e=>?_⟩
 dsimp only at e
 split at e
 · exact (Z2v o rd _ _ _ _ _ _ _ _ _ _ _ _ _ h c df).trans e
 · cases e
theorem Zjg:Z07 K 172 Z3d:=(ai tt (ai (ai tt tt) (ai (ai tt (ai tt (ai tt (ai tt (ai tt (ai rfl Zd6)))))) tt)))
theorem ZiB:LE (H:=H) P K 39000 (fun o rd vs h c df=>match vs with | [t2,t3,t4,t5,t6,t8,t10,t12,t59,t60]=>Z4e o rd t2 t3 t4 t5 t6 t8 t10 t12 t59 t60 h c df | _=>none):=by
 intro lin b nt hk
 rw [Zd7] at hk
 cases hk
 refine ⟨Zjg,fun o rd vs h c df q e=>?_⟩
 dsimp only at e
 split at e
 · exact (Z4P o rd _ _ _ _ _ _ _ _ _ _ h c df).trans e
 · cases e
theorem Zje:Z07 K 172 Z3b:=(ai tt (ai (ai tt tt) (ai (ai tt tt) tt)))
theorem Ziz:LE (H:=H) P K 39002 (fun o rd vs h c df=>match vs with | [t2,t3,t4,t6,t12,t155,t156]=>Z4d o rd t2 t3 t4 t6 t12 t155 t156 h c df | _=>none):=by
 intro lin b nt hk
 rw [Zd5] at hk
 cases hk
 refine ⟨Zje,fun o rd vs h c df q e=>?_⟩
 dsimp only at e
 split at e
 · exact (Z4O o rd _ _ _ _ _ _ _ h c df).trans e
 · cases e
theorem ck_39:Z07 K ZbU.nt ZbU.code:=(ai tt (ai tt (ai tt (ai tt (ai tt (ai tt (ai tt (ai (ai tt (ai rfl Zd7)) (ai (ai tt (ai rfl Zd5)) (ai tt tt))))))))))
theorem fe_39:FE (H:=H) P bk K 39 (fun o vs h c=>match vs with | [t0]=>ZgO o t0 h c | _=>none):=by
 refine ⟨ZbU,bk_39,rfl,ck_39,fun o vs h c r e=>?_⟩
 dsimp only at e
 split at e
 · exact ⟨rfl,(ZdO o _ h c).trans e⟩
 · cases e
theorem Zja:Z07 K 152 Z34:=(ai tt (ai (ai tt tt) (ai (ai tt (ai tt (ai (ai tt tt) tt))) tt)))
theorem Ziv:LE (H:=H) P K 40003 (fun o rd vs h c df=>match vs with | [t4,t5,t7,t8,t9,t10,t35,t36,t37,t42,t43,t68,t90]=>Z38 o rd t4 t5 t7 t8 t9 t10 t35 t36 t37 t42 t43 t68 t90 h c df | _=>none):=by
 intro lin b nt hk
 rw [Zd1] at hk
 cases hk
 refine ⟨Zja,fun o rd vs h c df q e=>?_⟩
 dsimp only at e
 split at e
 · exact (Z2s o rd _ _ _ _ _ _ _ _ _ _ _ _ _ h c df).trans e
 · cases e
theorem Zjb:Z07 K 152 Z35:=(ai tt (ai (ai tt tt) (ai (ai tt (ai (ai tt (ai tt tt)) (ai tt (ai tt (ai rfl Zd1))))) tt)))
theorem Ziw:LE (H:=H) P K 40002 (fun o rd vs h c df=>match vs with | [t4,t5,t7,t8,t9,t35,t36,t37,t42,t43,t68]=>Z39 o rd t4 t5 t7 t8 t9 t35 t36 t37 t42 t43 t68 h c df | _=>none):=by
 intro lin b nt hk
 rw [Zd2] at hk
 cases hk
 refine ⟨Zjb,fun o rd vs h c df q e=>?_⟩
 dsimp only at e
 split at e
 · exact (Z2t o rd _ _ _ _ _ _ _ _ _ _ _ h c df).trans e
 · cases e
theorem Zjc:Z07 K 152 Z36:=(ai tt (ai (ai tt tt) (ai (ai tt (ai (ai tt (ai tt tt)) (ai tt (ai tt (ai tt (ai rfl Zd2)))))) tt)))
theorem Zix:LE (H:=H) P K 40001 (fun o rd vs h c df=>match vs with | [t4,t5,t35,t36,t37,t42,t43]=>Z3a o rd t4 t5 t35 t36 t37 t42 t43 h c df | _=>none):=by
 intro lin b nt hk
 rw [Zd3] at hk
 cases hk
 refine ⟨Zjc,fun o rd vs h c df q e=>?_⟩
 dsimp only at e
 split at e
 · exact (Z2u o rd _ _ _ _ _ _ _ h c df).trans e
 · cases e
theorem Zjd:Z07 K 152 Z37:=(ai tt (ai (ai tt tt) (ai (ai tt (ai tt (ai rfl Zd3))) tt)))
theorem Ziy:LE (H:=H) P K 40000 (fun o rd vs h c df=>match vs with | [t4,t35,t36,t37]=>Z4c o rd t4 t35 t36 t37 h c df | _=>none):=by
 intro lin b nt hk
 rw [Zd4] at hk
 cases hk
 refine ⟨Zjd,fun o rd vs h c df q e=>?_⟩
 dsimp only at e
 split at e
 · exact (Z4N o rd _ _ _ _ h c df).trans e
 · cases e
theorem ck_40:Z07 K ZbT.nt ZbT.code:=(ai tt (ai tt (ai tt (ai (ai tt (ai rfl Zd4)) (ai tt tt)))))
theorem fe_40:FE (H:=H) P bk K 40 (fun o vs h c=>match vs with | [t0]=>ZgN o t0 h c | _=>none):=by
 refine ⟨ZbT,bk_40,rfl,ck_40,fun o vs h c r e=>?_⟩
 dsimp only at e
 split at e
 · exact ⟨rfl,(ZdJ o _ h c).trans e⟩
 · cases e
theorem Zj9:Z07 K 41 Z33:=(ai tt (ai (ai tt tt) (ai (ai tt (ai tt (ai tt (ai (ai tt tt) tt)))) tt)))
theorem Ziu:LE (H:=H) P K 41000 (fun o rd vs h c df=>match vs with | [t0,t4,t5,t15,t16]=>Z4b o rd t0 t4 t5 t15 t16 h c df | _=>none):=by
 intro lin b nt hk
 rw [Zd0] at hk
 cases hk
 refine ⟨Zj9,fun o rd vs h c df q e=>?_⟩
 dsimp only at e
 split at e
 · exact (Z4M o rd _ _ _ _ _ h c df).trans e
 · cases e
theorem ck_41:Z07 K ZbS.nt ZbS.code:=(ai tt (ai tt (ai tt (ai (ai tt (ai rfl Zd0)) (ai tt tt)))))
theorem fe_41:FE (H:=H) P bk K 41 (fun o vs h c=>match vs with | [t0]=>ZgM o t0 h c | _=>none):=by
 refine ⟨ZbS,bk_41,rfl,ck_41,fun o vs h c r e=>?_⟩
 dsimp only at e
 split at e
 · exact ⟨rfl,(ZdI o _ h c).trans e⟩
 · cases e
theorem Zj7:Z07 K 90 Z31:=(ai tt (ai (ai tt tt) (ai (ai tt tt) tt)))
theorem Zis:LE (H:=H) P K 42001 (fun o rd vs h c df=>match vs with | [t2,t3,t4,t18,t19,t20,t24,t25]=>Z49 o rd t2 t3 t4 t18 t19 t20 t24 t25 h c df | _=>none):=by
 intro lin b nt hk
 rw [ZcY] at hk
 cases hk
 refine ⟨Zj7,fun o rd vs h c df q e=>?_⟩
 dsimp only at e
 split at e
 · exact (Z4K o rd _ _ _ _ _ _ _ _ h c df).trans e
 · cases e
theorem Zj8:Z07 K 90 Z32:=(ai tt (ai (ai tt tt) (ai (ai tt (ai tt (ai rfl ZcY))) tt)))
theorem Zit:LE (H:=H) P K 42000 (fun o rd vs h c df=>match vs with | [t2,t3,t4,t18,t19,t20]=>Z4a o rd t2 t3 t4 t18 t19 t20 h c df | _=>none):=by
 intro lin b nt hk
 rw [ZcZ] at hk
 cases hk
 refine ⟨Zj8,fun o rd vs h c df q e=>?_⟩
 dsimp only at e
 split at e
 · exact (Z4L o rd _ _ _ _ _ _ h c df).trans e
 · cases e
theorem Zj6:Z07 K 90 Z30:=(ai tt (ai (ai tt tt) (ai (ai tt tt) tt)))
theorem Zir:LE (H:=H) P K 42002 (fun o rd vs h c df=>match vs with | [t2,t3,t4,t39,t40,t41]=>Z48 o rd t2 t3 t4 t39 t40 t41 h c df | _=>none):=by
 intro lin b nt hk
 rw [ZcX] at hk
 cases hk
 refine ⟨Zj6,fun o rd vs h c df q e=>?_⟩
 dsimp only at e
 split at e
 · exact (Z4J o rd _ _ _ _ _ _ h c df).trans e
 · cases e
theorem Zj5:Z07 K 90 Z2Z:=(ai tt (ai (ai tt tt) (ai (ai tt (ai tt (ai tt tt))) tt)))
theorem Ziq:LE (H:=H) P K 42003 (fun o rd vs h c df=>match vs with | [t2,t4,t53,t54,t55]=>Z47 o rd t2 t4 t53 t54 t55 h c df | _=>none):=by
 intro lin b nt hk
 rw [ZcW] at hk
 cases hk
 refine ⟨Zj5,fun o rd vs h c df q e=>?_⟩
 dsimp only at e
 split at e
 · exact (Z4I o rd _ _ _ _ _ h c df).trans e
 · cases e
theorem ck_42:Z07 K ZbR.nt ZbR.code:=(ai tt (ai tt (ai tt (ai (ai tt (ai rfl ZcZ)) (ai (ai tt (ai rfl ZcX)) (ai (ai tt (ai rfl ZcW)) (ai tt tt)))))))
theorem fe_42:FE (H:=H) P bk K 42 (fun o vs h c=>match vs with | [t0]=>ZgL o t0 h c | _=>none):=by
 refine ⟨ZbR,bk_42,rfl,ck_42,fun o vs h c r e=>?_⟩
 dsimp only at e
 split at e
 · exact ⟨rfl,(ZdH o _ h c).trans e⟩
 · cases e
theorem ck_43:Z07 K ZbQ.nt ZbQ.code:=(ai tt (ai tt tt))
theorem fe_43:FE (H:=H) P bk K 43 (fun o vs h c=>match vs with | []=>ZgK o h c | _=>none):=by
 refine ⟨ZbQ,bk_43,rfl,ck_43,fun o vs h c r e=>?_⟩
 dsimp only at e
 split at e
 · exact ⟨rfl,(ZdG o h c).trans e⟩
 · cases e
theorem Zj4:Z07 K 30 Z2Y:=(ai (ai tt (ai tt tt)) (ai (ai (ai tt (ai (ai tt tt) tt)) tt) tt))
theorem Zip:LE (H:=H) P K 44000 (fun o rd vs h c df=>match vs with | [t1,t2,t3,t4]=>Z18 o rd t1 t2 t3 t4 h c df | _=>none):=by
 intro lin b nt hk
 rw [ZcV] at hk
 cases hk
 refine ⟨Zj4,fun o rd vs h c df q e=>?_⟩
 dsimp only at e
 split at e
 · exact (Z4H o rd _ _ _ _ h c df).trans e
 · cases e
theorem ck_44:Z07 K ZbP.nt ZbP.code:=(ai tt (ai tt (ai (ai tt (ai rfl ZcV)) (ai tt tt))))
theorem fe_44:FE (H:=H) P bk K 44 (fun o vs h c=>match vs with | [t0]=>ZgJ o t0 h c | _=>none):=by
 refine ⟨ZbP,bk_44,rfl,ck_44,fun o vs h c r e=>?_⟩
 dsimp only at e
 split at e
 · exact ⟨rfl,(ZdF o _ h c).trans e⟩
 · cases e
theorem Zj3:Z07 K 19 Z2X:=(ai (ai tt (ai tt tt)) (ai tt tt))
theorem Zio:LE (H:=H) P K 45000 (fun o rd vs h c df=>match vs with | [t1,t2,t3,t4]=>Z27 o rd t1 t2 t3 t4 h c df | _=>none):=by
 intro lin b nt hk
 rw [ZcU] at hk
 cases hk
 refine ⟨Zj3,fun o rd vs h c df q e=>?_⟩
 dsimp only at e
 split at e
 · exact (Z4G o rd _ _ _ _ h c df).trans e
 · cases e
theorem ck_45:Z07 K ZbO.nt ZbO.code:=(ai tt (ai tt (ai (ai tt (ai (ai tt tt) tt)) (ai (ai tt (ai rfl ZcU)) (ai tt tt)))))
theorem fe_45:FE (H:=H) P bk K 45 (fun o vs h c=>match vs with | [t0]=>ZgI o t0 h c | _=>none):=by
 refine ⟨ZbO,bk_45,rfl,ck_45,fun o vs h c r e=>?_⟩
 dsimp only at e
 split at e
 · exact ⟨rfl,(ZdE o _ h c).trans e⟩
 · cases e
theorem ck_54:Z07 K ZbN.nt ZbN.code:=(ai tt (ai tt tt))
theorem fe_54:FE (H:=H) P bk K 54 (fun o vs h c=>match vs with | []=>ZgH o h c | _=>none):=by
 refine ⟨ZbN,bk_54,rfl,ck_54,fun o vs h c r e=>?_⟩
 dsimp only at e
 split at e
 · exact ⟨rfl,(ZdD o h c).trans e⟩
 · cases e
theorem Zj2:Z07 K 23 Z2W:=(ai tt (ai (ai tt tt) (ai (ai tt (ai (ai tt (ai (ai tt tt) tt)) tt)) tt)))
theorem Zin:LE (H:=H) P K 56000 (fun o rd vs h c df=>match vs with | [t2,t3,t6,t7]=>Z1J o rd t2 t3 t6 t7 h c df | _=>none):=by
 intro lin b nt hk
 rw [ZcT] at hk
 cases hk
 refine ⟨Zj2,fun o rd vs h c df q e=>?_⟩
 dsimp only at e
 split at e
 · exact (Z4F o rd _ _ _ _ h c df).trans e
 · cases e
theorem ck_56:Z07 K ZbM.nt ZbM.code:=(ai tt (ai tt (ai (ai tt (ai rfl ZcT)) (ai tt tt))))
theorem fe_56:FE (H:=H) P bk K 56 (fun o vs h c=>match vs with | [t0]=>ZgG o t0 h c | _=>none):=by
 refine ⟨ZbM,bk_56,rfl,ck_56,fun o vs h c r e=>?_⟩
 dsimp only at e
 split at e
 · exact ⟨rfl,(ZdC o _ h c).trans e⟩
 · cases e
theorem Zj0:Z07 K 65 Z2U:=(ai tt (ai (ai tt tt) (ai (ai tt (ai tt (ai (ai tt tt) tt))) tt)))
theorem Zil:LE (H:=H) P K 60001 (fun o rd vs h c df=>match vs with | [t1,t2,t7,t8,t22,t23,t26]=>Z42 o rd t1 t2 t7 t8 t22 t23 t26 h c df | _=>none):=by
 intro lin b nt hk
 rw [ZcR] at hk
 cases hk
 refine ⟨Zj0,fun o rd vs h c df q e=>?_⟩
 dsimp only at e
 split at e
 · exact (Z4D o rd _ _ _ _ _ _ _ h c df).trans e
 · cases e
theorem Zj1:Z07 K 65 Z2V:=(ai tt (ai (ai tt tt) (ai (ai tt (ai tt (ai rfl ZcR))) tt)))
theorem Zim:LE (H:=H) P K 60000 (fun o rd vs h c df=>match vs with | [t1,t2,t7,t22,t23]=>Z43 o rd t1 t2 t7 t22 t23 h c df | _=>none):=by
 intro lin b nt hk
 rw [ZcS] at hk
 cases hk
 refine ⟨Zj1,fun o rd vs h c df q e=>?_⟩
 dsimp only at e
 split at e
 · exact (Z4E o rd _ _ _ _ _ h c df).trans e
 · cases e
theorem ck_60:Z07 K ZbL.nt ZbL.code:=(ai tt (ai tt (ai (ai tt (ai rfl ZcS)) (ai tt tt))))
theorem fe_60:FE (H:=H) P bk K 60 (fun o vs h c=>match vs with | [t0,t1,t2]=>ZgF o t0 t1 t2 h c | _=>none):=by
 refine ⟨ZbL,bk_60,rfl,ck_60,fun o vs h c r e=>?_⟩
 dsimp only at e
 split at e
 · exact ⟨rfl,(ZdB o _ _ _ h c).trans e⟩
 · cases e
theorem ZiZ:Z07 K 48 Z2S:=(ai tt (ai (ai tt tt) (ai (ai tt (ai tt (ai tt tt))) tt)))
theorem Zik:LE (H:=H) P K 61000 (fun o rd vs h c df=>match vs with | [t0,t3,t4,t5,t17,t18]=>Z2T o rd t0 t3 t4 t5 t17 t18 h c df | _=>none):=by
 intro lin b nt hk
 rw [ZcQ] at hk
 cases hk
 refine ⟨ZiZ,fun o rd vs h c df q e=>?_⟩
 dsimp only at e
 split at e
 · exact (Z2r o rd _ _ _ _ _ _ h c df).trans e
 · cases e
theorem ck_61:Z07 K ZbK.nt ZbK.code:=(ai tt (ai tt (ai (ai tt (ai rfl ZcQ)) (ai tt tt))))
theorem fe_61:FE (H:=H) P bk K 61 (fun o vs h c=>match vs with | [t0,t1]=>ZgE o t0 t1 h c | _=>none):=by
 refine ⟨ZbK,bk_61,rfl,ck_61,fun o vs h c r e=>?_⟩
 dsimp only at e
 split at e
 · exact ⟨rfl,(ZdA o _ _ h c).trans e⟩
 · cases e
theorem ZiW:Z07 K 135 Z2P:=(ai (ai tt (ai tt tt)) (ai (ai tt (ai (ai tt (ai (ai tt tt) tt)) tt)) tt))
theorem Zih:LE (H:=H) P K 62002 (fun o rd vs h c df=>match vs with | [t2,t3,t4,t5,t7,t8,t9,t10,t11,t14]=>Z6v o rd t2 t3 t4 t5 t7 t8 t9 t10 t11 t14 h c df | _=>none):=by
 intro lin b nt hk
 rw [ZcN] at hk
 cases hk
 refine ⟨ZiW,fun o rd vs h c df q e=>?_⟩
 dsimp only at e
 split at e
 · exact (Z9W o rd _ _ _ _ _ _ _ _ _ _ h c df).trans e
 · cases e
theorem ZiX:Z07 K 135 Z2Q:=(ai (ai tt (ai tt tt)) (ai (ai (ai tt (ai (ai tt tt) tt)) (ai (ai tt (ai (ai tt (ai tt tt)) tt)) (ai tt (ai (ai tt (ai (ai tt tt) tt)) (ai tt (ai (ai tt (ai rfl ZcN)) tt)))))) tt))
theorem Zii:LE (H:=H) P K 62001 (fun o rd vs h c df=>match vs with | [t2,t3,t4,t5,t7,t8,t9,t10,t11]=>Z6w o rd t2 t3 t4 t5 t7 t8 t9 t10 t11 h c df | _=>none):=by
 intro lin b nt hk
 rw [ZcO] at hk
 cases hk
 refine ⟨ZiX,fun o rd vs h c df q e=>?_⟩
 dsimp only at e
 split at e
 · exact (Z9X o rd _ _ _ _ _ _ _ _ _ h c df).trans e
 · cases e
theorem ZiY:Z07 K 135 Z2R:=(ai (ai tt (ai tt tt)) (ai (ai tt (ai (ai tt (ai rfl ZcO)) tt)) tt))
theorem Zij:LE (H:=H) P K 62000 (fun o rd vs h c df=>match vs with | [t2,t3,t4,t5,t7,t8,t9]=>Z6x o rd t2 t3 t4 t5 t7 t8 t9 h c df | _=>none):=by
 intro lin b nt hk
 rw [ZcP] at hk
 cases hk
 refine ⟨ZiY,fun o rd vs h c df q e=>?_⟩
 dsimp only at e
 split at e
 · exact (Z9Y o rd _ _ _ _ _ _ _ h c df).trans e
 · cases e
theorem ck_62:Z07 K ZeM.nt ZeM.code:=(ai tt (ai (ai tt (ai (ai tt tt) tt)) (ai tt (ai (ai tt (ai (ai tt tt) tt)) (ai tt (ai (ai tt (ai (ai tt tt) tt)) (ai tt (ai tt (ai (ai tt (ai rfl ZcP)) (ai (ai tt (ai (ai tt tt) tt)) (ai (ai tt (ai (ai tt tt) tt)) (ai tt tt))))))))))))
theorem fe_62:FE (H:=H) P bk K 62 (fun o vs h c=>match vs with | [t0]=>Zlw o t0 h c | _=>none):=by
 refine ⟨ZeM,bk_62,rfl,ck_62,fun o vs h c r e=>?_⟩
 dsimp only at e
 split at e
 · exact ⟨rfl,(ZjD o _ h c).trans e⟩
 · cases e
theorem ck_63:Z07 K ZbJ.nt ZbJ.code:=(ai tt (ai tt tt))
theorem fe_63:FE (H:=H) P bk K 63 (fun o vs h c=>match vs with | [t0]=>ZgD o t0 h c | _=>none):=by
 refine ⟨ZbJ,bk_63,rfl,ck_63,fun o vs h c r e=>?_⟩
 dsimp only at e
 split at e
 · exact ⟨rfl,(Zdz o _ h c).trans e⟩
 · cases e
theorem ZiV:Z07 K 16 Z2O:=(ai tt (ai (ai tt tt) (ai (ai tt tt) tt)))
theorem Zig:LE (H:=H) P K 64000 (fun o rd vs h c df=>match vs with | [t2,t3,t6,t7]=>Z26 o rd t2 t3 t6 t7 h c df | _=>none):=by
 intro lin b nt hk
 rw [ZcM] at hk
 cases hk
 refine ⟨ZiV,fun o rd vs h c df q e=>?_⟩
 dsimp only at e
 split at e
 · exact (Z4C o rd _ _ _ _ h c df).trans e
 · cases e
theorem ck_64:Z07 K ZbI.nt ZbI.code:=(ai tt (ai tt (ai (ai tt (ai rfl ZcM)) (ai tt tt))))
theorem fe_64:FE (H:=H) P bk K 64 (fun o vs h c=>match vs with | [t0]=>ZgC o t0 h c | _=>none):=by
 refine ⟨ZbI,bk_64,rfl,ck_64,fun o vs h c r e=>?_⟩
 dsimp only at e
 split at e
 · exact ⟨rfl,(Zdy o _ h c).trans e⟩
 · cases e
theorem ZiT:Z07 K 90 Z2M:=(ai tt (ai (ai tt tt) (ai (ai tt (ai (ai tt (ai tt tt)) (ai tt (ai tt (ai (ai tt tt) tt))))) tt)))
theorem Zie:LE (H:=H) P K 65001 (fun o rd vs h c df=>match vs with | [t0,t1,t4,t5,t6,t7,t9,t23,t24,t25,t29]=>Z25 o rd t0 t1 t4 t5 t6 t7 t9 t23 t24 t25 t29 h c df | _=>none):=by
 intro lin b nt hk
 rw [ZcK] at hk
 cases hk
 refine ⟨ZiT,fun o rd vs h c df q e=>?_⟩
 dsimp only at e
 split at e
 · exact (Z1T o rd _ _ _ _ _ _ _ _ _ _ _ h c df).trans e
 · cases e
theorem ZiU:Z07 K 90 Z2N:=(ai tt (ai (ai tt tt) (ai (ai tt (ai tt (ai rfl ZcK))) tt)))
theorem Zif:LE (H:=H) P K 65000 (fun o rd vs h c df=>match vs with | [t0,t1,t4,t5,t6,t7,t23,t24,t25]=>Z40 o rd t0 t1 t4 t5 t6 t7 t23 t24 t25 h c df | _=>none):=by
 intro lin b nt hk
 rw [ZcL] at hk
 cases hk
 refine ⟨ZiU,fun o rd vs h c df q e=>?_⟩
 dsimp only at e
 split at e
 · exact (Z4B o rd _ _ _ _ _ _ _ _ _ h c df).trans e
 · cases e
theorem ck_65:Z07 K ZbH.nt ZbH.code:=(ai tt (ai tt (ai tt (ai tt (ai (ai tt (ai rfl ZcL)) (ai tt (ai tt (ai tt (ai tt tt)))))))))
theorem fe_65:FE (H:=H) P bk K 65 (fun o vs h c=>match vs with | [t0,t1]=>ZgB o t0 t1 h c | _=>none):=by
 refine ⟨ZbH,bk_65,rfl,ck_65,fun o vs h c r e=>?_⟩
 dsimp only at e
 split at e
 · exact ⟨rfl,(Zdx o _ _ h c).trans e⟩
 · cases e
theorem ZiS:Z07 K 21 Z2L:=(ai tt (ai (ai tt tt) (ai (ai tt tt) tt)))
theorem Zid:LE (H:=H) P K 66000 (fun o rd vs h c df=>match vs with | [t2,t3,t10,t11]=>Z3Z o rd t2 t3 t10 t11 h c df | _=>none):=by
 intro lin b nt hk
 rw [ZcJ] at hk
 cases hk
 refine ⟨ZiS,fun o rd vs h c df q e=>?_⟩
 dsimp only at e
 split at e
 · exact (Z4A o rd _ _ _ _ h c df).trans e
 · cases e
theorem ck_66:Z07 K ZbG.nt ZbG.code:=(ai tt (ai tt (ai (ai tt (ai rfl ZcJ)) (ai tt tt))))
theorem fe_66:FE (H:=H) P bk K 66 (fun o vs h c=>match vs with | [t0]=>ZgA o t0 h c | _=>none):=by
 refine ⟨ZbG,bk_66,rfl,ck_66,fun o vs h c r e=>?_⟩
 dsimp only at e
 split at e
 · exact ⟨rfl,(Zdw o _ h c).trans e⟩
 · cases e
theorem ck_67:Z07 K ZbF.nt ZbF.code:=(ai tt tt)
theorem fe_67:FE (H:=H) P bk K 67 (fun o vs h c=>match vs with | [t0,t1,t2]=>ZeG o t0 t1 t2 h c | _=>none):=by
 refine ⟨ZbF,bk_67,rfl,ck_67,fun o vs h c r e=>?_⟩
 dsimp only at e
 split at e
 · exact ⟨rfl,(Zdv o _ _ _ h c).trans e⟩
 · cases e
theorem ZiR:Z07 K 41 Z2K:=(ai (ai tt (ai tt tt)) (ai tt tt))
theorem Zic:LE (H:=H) P K 68000 (fun o rd vs h c df=>match vs with | [t0,t1]=>Z5l o rd t0 t1 h c df | _=>none):=by
 intro lin b nt hk
 rw [ZcI] at hk
 cases hk
 refine ⟨ZiR,fun o rd vs h c df q e=>?_⟩
 dsimp only at e
 split at e
 · exact (Z63 o rd _ _ h c df).trans e
 · cases e
theorem ck_68:Z07 K ZbE.nt ZbE.code:=(ai tt (ai (ai rfl ZcI) (ai tt tt)))
theorem fe_68:FE (H:=H) P bk K 68 (fun o vs h c=>match vs with | [t0,t1]=>ZeF o t0 t1 h c | _=>none):=by
 refine ⟨ZbE,bk_68,rfl,ck_68,fun o vs h c r e=>?_⟩
 dsimp only at e
 split at e
 · exact ⟨rfl,(Zdu o _ _ h c).trans e⟩
 · cases e
theorem ck_69:Z07 K ZbD.nt ZbD.code:=(ai tt (ai tt tt))
theorem fe_69:FE (H:=H) P bk K 69 (fun o vs h c=>match vs with | [t0]=>Zgz o t0 h c | _=>none):=by
 refine ⟨ZbD,bk_69,rfl,ck_69,fun o vs h c r e=>?_⟩
 dsimp only at e
 split at e
 · exact ⟨rfl,(Zdt o _ h c).trans e⟩
 · cases e
theorem ck_70:Z07 K ZbC.nt ZbC.code:=(ai tt (ai tt tt))
theorem fe_70:FE (H:=H) P bk K 70 (fun o vs h c=>match vs with | [t0]=>Zgy o t0 h c | _=>none):=by
 refine ⟨ZbC,bk_70,rfl,ck_70,fun o vs h c r e=>?_⟩
 dsimp only at e
 split at e
 · exact ⟨rfl,(Zds o _ h c).trans e⟩
 · cases e
theorem ck_71:Z07 K ZbB.nt ZbB.code:=(ai tt (ai tt tt))
theorem fe_71:FE (H:=H) P bk K 71 (fun o vs h c=>match vs with | [t0]=>Zgx o t0 h c | _=>none):=by
 refine ⟨ZbB,bk_71,rfl,ck_71,fun o vs h c r e=>?_⟩
 dsimp only at e
 split at e
 · exact ⟨rfl,(Zdr o _ h c).trans e⟩
 · cases e
theorem ck_72:Z07 K ZbA.nt ZbA.code:=(ai tt (ai tt tt))
theorem fe_72:FE (H:=H) P bk K 72 (fun o vs h c=>match vs with | [t0]=>Zgw o t0 h c | _=>none):=by
 refine ⟨ZbA,bk_72,rfl,ck_72,fun o vs h c r e=>?_⟩
 dsimp only at e
 split at e
 · exact ⟨rfl,(Zdq o _ h c).trans e⟩
 · cases e
theorem ZiQ:Z07 K 43 Z2J:=(ai (ai tt (ai tt tt)) (ai (ai tt (ai (ai tt (ai tt tt)) (ai tt (ai (ai tt tt) tt)))) tt))
theorem Zib:LE (H:=H) P K 83000 (fun o rd vs h c df=>match vs with | [t0,t3,t4,t5]=>Z6u o rd t0 t3 t4 t5 h c df | _=>none):=by
 intro lin b nt hk
 rw [ZcH] at hk
 cases hk
 refine ⟨ZiQ,fun o rd vs h c df q e=>?_⟩
 dsimp only at e
 split at e
 · exact (Z9T o rd _ _ _ _ h c df).trans e
 · cases e
theorem ck_83:Z07 K ZeD.nt ZeD.code:=(ai tt (ai tt (ai tt (ai (ai tt (ai rfl ZcH)) (ai tt tt)))))
theorem fe_83:FE (H:=H) P bk K 83 (fun o vs h c=>match vs with | [t0]=>Zlp o t0 h c | _=>none):=by
 refine ⟨ZeD,bk_83,rfl,ck_83,fun o vs h c r e=>?_⟩
 dsimp only at e
 split at e
 · exact ⟨rfl,(ZjC o _ h c).trans e⟩
 · cases e
theorem ZiP:Z07 K 51 Z2I:=(ai (ai tt (ai tt tt)) (ai (ai (ai tt (ai (ai tt tt) tt)) tt) tt))
theorem Zia:LE (H:=H) P K 84000 (fun o rd vs h c df=>match vs with | [t0,t2,t3,t4,t5]=>Z6t o rd t0 t2 t3 t4 t5 h c df | _=>none):=by
 intro lin b nt hk
 rw [ZcG] at hk
 cases hk
 refine ⟨ZiP,fun o rd vs h c df q e=>?_⟩
 dsimp only at e
 split at e
 · exact (Z9S o rd _ _ _ _ _ h c df).trans e
 · cases e
theorem ck_84:Z07 K ZeB.nt ZeB.code:=(ai tt (ai (ai tt (ai (ai tt tt) tt)) (ai tt (ai (ai tt (ai rfl ZcG)) (ai tt tt)))))
theorem fe_84:FE (H:=H) P bk K 84 (fun o vs h c=>match vs with | [t0]=>Zlo o t0 h c | _=>none):=by
 refine ⟨ZeB,bk_84,rfl,ck_84,fun o vs h c r e=>?_⟩
 dsimp only at e
 split at e
 · exact ⟨rfl,(ZjB o _ h c).trans e⟩
 · cases e
theorem ZiN:Z07 K 30 Z2G:=(ai tt (ai (ai tt tt) (ai (ai tt (ai tt (ai tt tt))) tt)))
theorem Zi8:LE (H:=H) P K 85001 (fun o rd vs h c df=>match vs with | [t0,t1,t3,t8,t9,t16,t17]=>Z1H o rd t0 t1 t3 t8 t9 t16 t17 h c df | _=>none):=by
 intro lin b nt hk
 rw [ZcE] at hk
 cases hk
 refine ⟨ZiN,fun o rd vs h c df q e=>?_⟩
 dsimp only at e
 split at e
 · exact (Z4y o rd _ _ _ _ _ _ _ h c df).trans e
 · cases e
theorem ZiO:Z07 K 30 Z2H:=(ai tt (ai (ai tt tt) (ai (ai tt (ai tt (ai rfl ZcE))) tt)))
theorem Zi9:LE (H:=H) P K 85000 (fun o rd vs h c df=>match vs with | [t0,t1,t8,t9]=>Z1I o rd t0 t1 t8 t9 h c df | _=>none):=by
 intro lin b nt hk
 rw [ZcF] at hk
 cases hk
 refine ⟨ZiO,fun o rd vs h c df q e=>?_⟩
 dsimp only at e
 split at e
 · exact (Z4z o rd _ _ _ _ h c df).trans e
 · cases e
theorem ck_85:Z07 K Zbz.nt Zbz.code:=(ai tt (ai rfl ZcF))
theorem fe_85:FE (H:=H) P bk K 85 (fun o vs h c=>match vs with | [t0,t1]=>Zex o t0 t1 h c | _=>none):=by
 refine ⟨Zbz,bk_85,rfl,ck_85,fun o vs h c r e=>?_⟩
 dsimp only at e
 split at e
 · exact ⟨rfl,(Zdp o _ _ h c).trans e⟩
 · cases e
theorem ZiK:Z07 K 100 Z2C:=(ai tt (ai (ai tt tt) (ai (ai tt (ai (ai tt (ai tt tt)) (ai tt (ai tt (ai (ai tt tt) (ai tt (ai (ai tt tt) tt))))))) tt)))
theorem Zi5:LE (H:=H) P K 86002 (fun o rd vs h c df=>match vs with | [t0,t2,t3,t5,t6,t7,t18,t19,t50,t51]=>Z1G o rd t0 t2 t3 t5 t6 t7 t18 t19 t50 t51 h c df | _=>none):=by
 intro lin b nt hk
 rw [ZcB] at hk
 cases hk
 refine ⟨ZiK,fun o rd vs h c df q e=>?_⟩
 dsimp only at e
 split at e
 · exact (Z1m o rd _ _ _ _ _ _ _ _ _ _ h c df).trans e
 · cases e
theorem ZiL:Z07 K 100 Z2D:=(ai (ai tt (ai tt tt)) (ai (ai tt (ai tt (ai rfl ZcB))) tt))
theorem Zi6:LE (H:=H) P K 86001 (fun o rd vs h c df=>match vs with | [t0,t2,t3,t5,t6,t18,t19]=>Z2F o rd t0 t2 t3 t5 t6 t18 t19 h c df | _=>none):=by
 intro lin b nt hk
 rw [ZcC] at hk
 cases hk
 refine ⟨ZiL,fun o rd vs h c df q e=>?_⟩
 dsimp only at e
 split at e
 · exact (Z2q o rd _ _ _ _ _ _ _ h c df).trans e
 · cases e
theorem ZiM:Z07 K 100 Z2E:=(ai tt (ai (ai tt tt) (ai (ai tt (ai (ai tt (ai tt tt)) (ai tt (ai tt (ai tt (ai rfl ZcC)))))) tt)))
theorem Zi7:LE (H:=H) P K 86000 (fun o rd vs h c df=>match vs with | [t0,t2,t3,t18,t19]=>Z24 o rd t0 t2 t3 t18 t19 h c df | _=>none):=by
 intro lin b nt hk
 rw [ZcD] at hk
 cases hk
 refine ⟨ZiM,fun o rd vs h c df q e=>?_⟩
 dsimp only at e
 split at e
 · exact (Z1S o rd _ _ _ _ _ h c df).trans e
 · cases e
theorem ck_86:Z07 K Zby.nt Zby.code:=(ai tt (ai tt (ai (ai tt (ai rfl ZcD)) (ai tt tt))))
theorem fe_86:FE (H:=H) P bk K 86 (fun o vs h c=>match vs with | [t0]=>Zgv o t0 h c | _=>none):=by
 refine ⟨Zby,bk_86,rfl,ck_86,fun o vs h c r e=>?_⟩
 dsimp only at e
 split at e
 · exact ⟨rfl,(Zdo o _ h c).trans e⟩
 · cases e
theorem ck_91:Z07 K Zbx.nt Zbx.code:=(ai tt (ai (ai tt (ai (ai tt tt) tt)) (ai tt tt)))
theorem fe_91:FE (H:=H) P bk K 91 (fun o vs h c=>match vs with | [t0]=>Zgu o t0 h c | _=>none):=by
 refine ⟨Zbx,bk_91,rfl,ck_91,fun o vs h c r e=>?_⟩
 dsimp only at e
 split at e
 · exact ⟨rfl,(Zdn o _ h c).trans e⟩
 · cases e
theorem ZiI:Z07 K 25 Z2A:=(ai tt (ai (ai tt tt) (ai (ai tt (ai tt (ai tt tt))) tt)))
theorem Zi3:LE (H:=H) P K 92001 (fun o rd vs h c df=>match vs with | [t1,t3,t4,t6,t9,t10]=>Z3V o rd t1 t3 t4 t6 t9 t10 h c df | _=>none):=by
 intro lin b nt hk
 rw [Zcz] at hk
 cases hk
 refine ⟨ZiI,fun o rd vs h c df q e=>?_⟩
 dsimp only at e
 split at e
 · exact (Z4w o rd _ _ _ _ _ _ h c df).trans e
 · cases e
theorem ZiJ:Z07 K 25 Z2B:=(ai tt (ai (ai tt tt) (ai (ai tt (ai tt (ai rfl Zcz))) tt)))
theorem Zi4:LE (H:=H) P K 92000 (fun o rd vs h c df=>match vs with | [t1,t3,t6]=>Z3W o rd t1 t3 t6 h c df | _=>none):=by
 intro lin b nt hk
 rw [ZcA] at hk
 cases hk
 refine ⟨ZiJ,fun o rd vs h c df q e=>?_⟩
 dsimp only at e
 split at e
 · exact (Z4x o rd _ _ _ h c df).trans e
 · cases e
theorem ck_92:Z07 K Zbw.nt Zbw.code:=(ai tt (ai tt (ai (ai tt (ai rfl ZcA)) (ai tt tt))))
theorem fe_92:FE (H:=H) P bk K 92 (fun o vs h c=>match vs with | [t0]=>Zgs o t0 h c | _=>none):=by
 refine ⟨Zbw,bk_92,rfl,ck_92,fun o vs h c r e=>?_⟩
 dsimp only at e
 split at e
 · exact ⟨rfl,(Zdm o _ h c).trans e⟩
 · cases e
noncomputable def tbF:BT (Orc H->List Value->H->Nat->Option (Rt H)):=(.node 61 (fun o vs h c=>match vs with | [t0,t1]=>ZgE o t0 t1 h c | _=>none) (.node 40 (fun o vs h c=>match vs with | [t0]=>ZgN o t0 h c | _=>none) (.node 16 (fun o vs h c=>match vs with | [t0,t1]=>ZlB o t0 t1 h c | _=>none) (.node 13 (fun o vs h c=>match vs with | [t0]=>ZgS o t0 h c | _=>none) (.node 11 (fun o vs h c=>match vs with | [t0]=>ZeV o t0 h c | _=>none) (.node 10 (fun o vs h c=>match vs with | []=>ZlD o h c | _=>none) .leaf .leaf) .leaf) (.node 14 (fun o vs h c=>match vs with | [t0]=>ZgR o t0 h c | _=>none) .leaf .leaf)) (.node 38 (fun o vs h c=>match vs with | [t0]=>ZgP o t0 h c | _=>none) (.node 37 (fun o vs h c=>match vs with | []=>ZlA o h c | _=>none) (.node 27 (fun o vs h c=>match vs with | [t0,t1]=>ZgQ o t0 t1 h c | _=>none) .leaf .leaf) .leaf) (.node 39 (fun o vs h c=>match vs with | [t0]=>ZgO o t0 h c | _=>none) .leaf .leaf))) (.node 45 (fun o vs h c=>match vs with | [t0]=>ZgI o t0 h c | _=>none) (.node 43 (fun o vs h c=>match vs with | []=>ZgK o h c | _=>none) (.node 42 (fun o vs h c=>match vs with | [t0]=>ZgL o t0 h c | _=>none) (.node 41 (fun o vs h c=>match vs with | [t0]=>ZgM o t0 h c | _=>none) .leaf .leaf) .leaf) (.node 44 (fun o vs h c=>match vs with | [t0]=>ZgJ o t0 h c | _=>none) .leaf .leaf)) (.node 56 (fun o vs h c=>match vs with | [t0]=>ZgG o t0 h c | _=>none) (.node 54 (fun o vs h c=>match vs with | []=>ZgH o h c | _=>none) .leaf .leaf) (.node 60 (fun o vs h c=>match vs with | [t0,t1,t2]=>ZgF o t0 t1 t2 h c | _=>none) .leaf .leaf)))) (.node 70 (fun o vs h c=>match vs with | [t0]=>Zgy o t0 h c | _=>none) (.node 66 (fun o vs h c=>match vs with | [t0]=>ZgA o t0 h c | _=>none) (.node 64 (fun o vs h c=>match vs with | [t0]=>ZgC o t0 h c | _=>none) (.node 63 (fun o vs h c=>match vs with | [t0]=>ZgD o t0 h c | _=>none) (.node 62 (fun o vs h c=>match vs with | [t0]=>Zlw o t0 h c | _=>none) .leaf .leaf) .leaf) (.node 65 (fun o vs h c=>match vs with | [t0,t1]=>ZgB o t0 t1 h c | _=>none) .leaf .leaf)) (.node 68 (fun o vs h c=>match vs with | [t0,t1]=>ZeF o t0 t1 h c | _=>none) (.node 67 (fun o vs h c=>match vs with | [t0,t1,t2]=>ZeG o t0 t1 t2 h c | _=>none) .leaf .leaf) (.node 69 (fun o vs h c=>match vs with | [t0]=>Zgz o t0 h c | _=>none) .leaf .leaf))) (.node 85 (fun o vs h c=>match vs with | [t0,t1]=>Zex o t0 t1 h c | _=>none) (.node 83 (fun o vs h c=>match vs with | [t0]=>Zlp o t0 h c | _=>none) (.node 72 (fun o vs h c=>match vs with | [t0]=>Zgw o t0 h c | _=>none) (.node 71 (fun o vs h c=>match vs with | [t0]=>Zgx o t0 h c | _=>none) .leaf .leaf) .leaf) (.node 84 (fun o vs h c=>match vs with | [t0]=>Zlo o t0 h c | _=>none) .leaf .leaf)) (.node 91 (fun o vs h c=>match vs with | [t0]=>Zgu o t0 h c | _=>none) (.node 86 (fun o vs h c=>match vs with | [t0]=>Zgv o t0 h c | _=>none) .leaf .leaf) (.node 92 (fun o vs h c=>match vs with | [t0]=>Zgs o t0 h c | _=>none) .leaf .leaf)))))
noncomputable def tbL:BT (Orc H->Option Nat->List Value->H->Nat->List Nat->Option (Rt H)):=(.node 60000 (fun o rd vs h c df=>match vs with | [t1,t2,t7,t22,t23]=>Z43 o rd t1 t2 t7 t22 t23 h c df | _=>none) (.node 40002 (fun o rd vs h c df=>match vs with | [t4,t5,t7,t8,t9,t35,t36,t37,t42,t43,t68]=>Z39 o rd t4 t5 t7 t8 t9 t35 t36 t37 t42 t43 t68 h c df | _=>none) (.node 39000 (fun o rd vs h c df=>match vs with | [t2,t3,t4,t5,t6,t8,t10,t12,t59,t60]=>Z4e o rd t2 t3 t4 t5 t6 t8 t10 t12 t59 t60 h c df | _=>none) (.node 14001 (fun o rd vs h c df=>match vs with | [t1,t2,t3,t4,t5]=>Z1K o rd t1 t2 t3 t4 t5 h c df | _=>none) (.node 14000 (fun o rd vs h c df=>match vs with | [t1,t2,t3,t4]=>Z19 o rd t1 t2 t3 t4 h c df | _=>none) (.node 13000 (fun o rd vs h c df=>match vs with | [t2,t3,t4,t12,t13]=>Z4h o rd t2 t3 t4 t12 t13 h c df | _=>none) .leaf .leaf) .leaf) (.node 27000 (fun o rd vs h c df=>match vs with | [t0,t1,t4,t7,t8]=>Z4f o rd t0 t1 t4 t7 t8 h c df | _=>none) (.node 16000 (fun o rd vs h c df=>match vs with | [t0,t1,t4,t5]=>Z6z o rd t0 t1 t4 t5 h c df | _=>none) .leaf .leaf) .leaf)) (.node 40000 (fun o rd vs h c df=>match vs with | [t4,t35,t36,t37]=>Z4c o rd t4 t35 t36 t37 h c df | _=>none) (.node 39002 (fun o rd vs h c df=>match vs with | [t2,t3,t4,t6,t12,t155,t156]=>Z4d o rd t2 t3 t4 t6 t12 t155 t156 h c df | _=>none) (.node 39001 (fun o rd vs h c df=>match vs with | [t2,t3,t4,t5,t6,t8,t10,t12,t13,t59,t60,t105,t106]=>Z3e o rd t2 t3 t4 t5 t6 t8 t10 t12 t13 t59 t60 t105 t106 h c df | _=>none) .leaf .leaf) .leaf) (.node 40001 (fun o rd vs h c df=>match vs with | [t4,t5,t35,t36,t37,t42,t43]=>Z3a o rd t4 t5 t35 t36 t37 t42 t43 h c df | _=>none) .leaf .leaf))) (.node 42002 (fun o rd vs h c df=>match vs with | [t2,t3,t4,t39,t40,t41]=>Z48 o rd t2 t3 t4 t39 t40 t41 h c df | _=>none) (.node 42000 (fun o rd vs h c df=>match vs with | [t2,t3,t4,t18,t19,t20]=>Z4a o rd t2 t3 t4 t18 t19 t20 h c df | _=>none) (.node 41000 (fun o rd vs h c df=>match vs with | [t0,t4,t5,t15,t16]=>Z4b o rd t0 t4 t5 t15 t16 h c df | _=>none) (.node 40003 (fun o rd vs h c df=>match vs with | [t4,t5,t7,t8,t9,t10,t35,t36,t37,t42,t43,t68,t90]=>Z38 o rd t4 t5 t7 t8 t9 t10 t35 t36 t37 t42 t43 t68 t90 h c df | _=>none) .leaf .leaf) .leaf) (.node 42001 (fun o rd vs h c df=>match vs with | [t2,t3,t4,t18,t19,t20,t24,t25]=>Z49 o rd t2 t3 t4 t18 t19 t20 t24 t25 h c df | _=>none) .leaf .leaf)) (.node 45000 (fun o rd vs h c df=>match vs with | [t1,t2,t3,t4]=>Z27 o rd t1 t2 t3 t4 h c df | _=>none) (.node 44000 (fun o rd vs h c df=>match vs with | [t1,t2,t3,t4]=>Z18 o rd t1 t2 t3 t4 h c df | _=>none) (.node 42003 (fun o rd vs h c df=>match vs with | [t2,t4,t53,t54,t55]=>Z47 o rd t2 t4 t53 t54 t55 h c df | _=>none) .leaf .leaf) .leaf) (.node 56000 (fun o rd vs h c df=>match vs with | [t2,t3,t6,t7]=>Z1J o rd t2 t3 t6 t7 h c df | _=>none) .leaf .leaf)))) (.node 68000 (fun o rd vs h c df=>match vs with | [t0,t1]=>Z5l o rd t0 t1 h c df | _=>none) (.node 62002 (fun o rd vs h c df=>match vs with | [t2,t3,t4,t5,t7,t8,t9,t10,t11,t14]=>Z6v o rd t2 t3 t4 t5 t7 t8 t9 t10 t11 t14 h c df | _=>none) (.node 62000 (fun o rd vs h c df=>match vs with | [t2,t3,t4,t5,t7,t8,t9]=>Z6x o rd t2 t3 t4 t5 t7 t8 t9 h c df | _=>none) (.node 61000 (fun o rd vs h c df=>match vs with | [t0,t3,t4,t5,t17,t18]=>Z2T o rd t0 t3 t4 t5 t17 t18 h c df | _=>none) (.node 60001 (fun o rd vs h c df=>match vs with | [t1,t2,t7,t8,t22,t23,t26]=>Z42 o rd t1 t2 t7 t8 t22 t23 t26 h c df | _=>none) .leaf .leaf) .leaf) (.node 62001 (fun o rd vs h c df=>match vs with | [t2,t3,t4,t5,t7,t8,t9,t10,t11]=>Z6w o rd t2 t3 t4 t5 t7 t8 t9 t10 t11 h c df | _=>none) .leaf .leaf)) (.node 65001 (fun o rd vs h c df=>match vs with | [t0,t1,t4,t5,t6,t7,t9,t23,t24,t25,t29]=>Z25 o rd t0 t1 t4 t5 t6 t7 t9 t23 t24 t25 t29 h c df | _=>none) (.node 65000 (fun o rd vs h c df=>match vs with | [t0,t1,t4,t5,t6,t7,t23,t24,t25]=>Z40 o rd t0 t1 t4 t5 t6 t7 t23 t24 t25 h c df | _=>none) (.node 64000 (fun o rd vs h c df=>match vs with | [t2,t3,t6,t7]=>Z26 o rd t2 t3 t6 t7 h c df | _=>none) .leaf .leaf) .leaf) (.node 66000 (fun o rd vs h c df=>match vs with | [t2,t3,t10,t11]=>Z3Z o rd t2 t3 t10 t11 h c df | _=>none) .leaf .leaf))) (.node 86000 (fun o rd vs h c df=>match vs with | [t0,t2,t3,t18,t19]=>Z24 o rd t0 t2 t3 t18 t19 h c df | _=>none) (.node 85000 (fun o rd vs h c df=>match vs with | [t0,t1,t8,t9]=>Z1I o rd t0 t1 t8 t9 h c df | _=>none) (.node 84000 (fun o rd vs h c df=>match vs with | [t0,t2,t3,t4,t5]=>Z6t o rd t0 t2 t3 t4 t5 h c df | _=>none) (.node 83000 (fun o rd vs h c df=>match vs with | [t0,t3,t4,t5]=>Z6u o rd t0 t3 t4 t5 h c df | _=>none) .leaf .leaf) .leaf) (.node 85001 (fun o rd vs h c df=>match vs with | [t0,t1,t3,t8,t9,t16,t17]=>Z1H o rd t0 t1 t3 t8 t9 t16 t17 h c df | _=>none) .leaf .leaf)) (.node 92000 (fun o rd vs h c df=>match vs with | [t1,t3,t6]=>Z3W o rd t1 t3 t6 h c df | _=>none) (.node 86002 (fun o rd vs h c df=>match vs with | [t0,t2,t3,t5,t6,t7,t18,t19,t50,t51]=>Z1G o rd t0 t2 t3 t5 t6 t7 t18 t19 t50 t51 h c df | _=>none) (.node 86001 (fun o rd vs h c df=>match vs with | [t0,t2,t3,t5,t6,t18,t19]=>Z2F o rd t0 t2 t3 t5 t6 t18 t19 h c df | _=>none) .leaf .leaf) .leaf) (.node 92001 (fun o rd vs h c df=>match vs with | [t1,t3,t4,t6,t9,t10]=>Z3V o rd t1 t3 t4 t6 t9 t10 h c df | _=>none) .leaf .leaf)))))
noncomputable def tbR:List (Nat × List Nat × (Orc H->Nat->List Value->H->Nat->Option (Rt H))):=[(71,[13,14],(fun o l vs h c=>match vs with | [t13,t14,t1,t2,t3]=>Z3f o l t13 t14 t1 t2 t3 h c | _=>none))]
noncomputable def tab:Tab H:={ F:=fun f=>tbF.look f,L:=fun j=>tbL.look j,R:=fun nt ps=>Zg0 nt ps tbR }
theorem tab_ok:TabOK (H:=H) P bk K tab:=⟨fun f F e=>BT.look_all (Q:=FE P bk K) (t:=tbF) (ai fe_61 (ai (ai fe_40 (ai (ai fe_16 (ai (ai fe_13 (ai (ai fe_11 (ai (ai fe_10 (ai tt tt)) tt)) (ai fe_14 (ai tt tt)))) (ai fe_38 (ai (ai fe_37 (ai (ai fe_27 (ai tt tt)) tt)) (ai fe_39 (ai tt tt)))))) (ai fe_45 (ai (ai fe_43 (ai (ai fe_42 (ai (ai fe_41 (ai tt tt)) tt)) (ai fe_44 (ai tt tt)))) (ai fe_56 (ai (ai fe_54 (ai tt tt)) (ai fe_60 (ai tt tt)))))))) (ai fe_70 (ai (ai fe_66 (ai (ai fe_64 (ai (ai fe_63 (ai (ai fe_62 (ai tt tt)) tt)) (ai fe_65 (ai tt tt)))) (ai fe_68 (ai (ai fe_67 (ai tt tt)) (ai fe_69 (ai tt tt)))))) (ai fe_85 (ai (ai fe_83 (ai (ai fe_72 (ai (ai fe_71 (ai tt tt)) tt)) (ai fe_84 (ai tt tt)))) (ai fe_91 (ai (ai fe_86 (ai tt tt)) (ai fe_92 (ai tt tt)))))))))) e,
 fun j B lin b nt e hk=>BT.look_all (Q:=LE P K) (t:=tbL) (ai Zim (ai (ai Ziw (ai (ai ZiB (ai (ai ZiE (ai (ai ZiF (ai (ai ZiG (ai tt tt)) tt)) (ai ZiC (ai (ai ZiD (ai tt tt)) tt)))) (ai Ziy (ai (ai Ziz (ai (ai ZiA (ai tt tt)) tt)) (ai Zix (ai tt tt)))))) (ai Zir (ai (ai Zit (ai (ai Ziu (ai (ai Ziv (ai tt tt)) tt)) (ai Zis (ai tt tt)))) (ai Zio (ai (ai Zip (ai (ai Ziq (ai tt tt)) tt)) (ai Zin (ai tt tt)))))))) (ai Zic (ai (ai Zih (ai (ai Zij (ai (ai Zik (ai (ai Zil (ai tt tt)) tt)) (ai Zii (ai tt tt)))) (ai Zie (ai (ai Zif (ai (ai Zig (ai tt tt)) tt)) (ai Zid (ai tt tt)))))) (ai Zi7 (ai (ai Zi9 (ai (ai Zia (ai (ai Zib (ai tt tt)) tt)) (ai Zi8 (ai tt tt)))) (ai Zi4 (ai (ai Zi5 (ai (ai Zi6 (ai tt tt)) tt)) (ai Zi3 (ai tt tt)))))))))) e lin b nt hk,
 fun nt ps D lin a b e hk=>ZaD (Q:=RE P K) (l:=tbR) (ai ZhO tt) e lin a b hk⟩
theorem ev_run {n:Nat} {k:Key} {vs:List Value} {h:H} {c:Nat} {df:List Nat} {r:Rt H} (hk:KeyOK K k) (hi:Z5N K h) (e:evT tab n k vs h c df=some r):run P bk k vs h c df=some r:=(ZdV tab_ok n k vs h c df r hk hi e).1
end Go.Proofs.Ytdodippbpdechaa

namespace Go.Ab
open Go
structure Hid (q:Prop):Prop where
 h:q
theorem Ans.go {β:Type} {x:Option β} {Q:β->Prop} {q:Prop} (k:q) (h:Hid q->Ans x Q:=by
 intro kk
 repeat' (first | ((with_reducible first | refine Ans.bz ?_ | refine Ans.r1 ?_ | refine Ans.pkT ?_ | refine Ans.pkF ?_); try dsimp only [v_zero,v_succ]) | (with_reducible first | refine Ans.btL ?_ | refine Ans.bfL ?_ | refine Ans.gyT ?_ | refine Ans.gyF ?_ | refine Ans.gyG ?_ | refine Ans.bb ?_ | refine Ans.bc ?_ | refine Ans.ba ?_) | ((with_reducible first | refine Ans.lsT ?_ ?_ | refine Ans.leT ?_ ?_ | refine Ans.grT ?_ ?_ | refine Ans.geT ?_ ?_ | refine Ans.eqT ?_ ?_ | refine Ans.neT ?_ ?_); (focus omega)) | ((with_reducible first | refine Ans.lsF ?_ ?_ | refine Ans.leF ?_ ?_ | refine Ans.grF ?_ ?_ | refine Ans.geF ?_ ?_ | refine Ans.eqF ?_ ?_ | refine Ans.neF ?_ ?_); (focus omega)) | (with_reducible first | refine Ans.lsS (fun _=>?_) (fun _=>?_) | refine Ans.leS (fun _=>?_) (fun _=>?_) | refine Ans.grS (fun _=>?_) (fun _=>?_) | refine Ans.geS (fun _=>?_) (fun _=>?_) | refine Ans.eqS (fun _=>?_) (fun _=>?_) | refine Ans.neS (fun _=>?_) (fun _=>?_)) | ((with_reducible first | refine Ans.addN ?_ ?_ | refine Ans.add ?_ ?_ | refine Ans.sub ?_ ?_ | refine Ans.mul ?_ ?_); (focus omega)) | ((with_reducible first | refine Ans.ct ?_ ?_); (focus (simp (disch:=(first | omega | with_reducible assumption | (simp <;> omega) | fail)) [fx]; done))) | ((with_reducible first | refine Ans.cf ?_ ?_); (focus (simp (disch:=(first | omega | with_reducible assumption | (simp <;> omega) | fail)) [fx]; done))) | (refine Ans.step (by simp (disch:=(first | omega | with_reducible assumption | (simp <;> omega) | fail)) [fx,-List.getD_eq_getElem?_getD] <;> rfl) ?_; try dsimp only [v_zero,v_succ]) | fail)
 exact kk.h):Ans x Q:=h ⟨k⟩
theorem Ans.nx0 {o:Orc FH} {k:Key} {Q:Rt FH->Prop} {A h:FH} {c c':Nat} {vs:List Value} {df:List Nat} (e:Ans (o k vs A c df) Q) (h1:Z1i c vs:=by (simp (disch:=(first | omega | with_reducible assumption | (simp <;> omega) | fail)) [fx]; done)) (h2:Z0p c A h:=by (simp (disch:=(first | omega | with_reducible assumption | (simp <;> omega) | fail)) [fx]; done)) :
 Ans (some { e:=.normal,vs:=vs,h:=h,c:=c',df:=df }) (fun q=>Lk o k Q (gcR A c df q)):=Ans.next0 h1 h2 e
theorem Ans.ex0 {o:Orc FH} {k:Key} {Q:Rt FH->Prop} {A h:FH} {c c':Nat} {vs:List Value} {df:List Nat} {i:Nat} (e:Q { e:=.exit i,vs:=vs,h:=A,c:=c,df:=df }) (h1:Z1i c vs:=by (simp (disch:=(first | omega | with_reducible assumption | (simp <;> omega) | fail)) [fx]; done)) (h2:Z0p c A h:=by (simp (disch:=(first | omega | with_reducible assumption | (simp <;> omega) | fail)) [fx]; done)) :
 Ans (some { e:=.exit i,vs:=vs,h:=h,c:=c',df:=df }) (fun q=>Lk o k Q (gcR A c df q)):=Ans.exit0 h1 h2 e
theorem Ans.rt0 {o:Orc FH} {k:Key} {Q:Rt FH->Prop} {A h:FH} {c c':Nat} {vs:List Value} {df:List Nat} (e:Q { e:=.ret,vs:=vs,h:=A,c:=c,df:=df }) (h1:Z1i c vs:=by (simp (disch:=(first | omega | with_reducible assumption | (simp <;> omega) | fail)) [fx]; done)) (h2:Z0p c A h:=by (simp (disch:=(first | omega | with_reducible assumption | (simp <;> omega) | fail)) [fx]; done)) :
 Ans (some { e:=.ret,vs:=vs,h:=h,c:=c',df:=df }) (fun q=>Lk o k Q (gcR A c df q)):=Ans.ret0 h1 h2 e
theorem Ans.nxB {o:Orc FH} {k:Key} {Q:Rt FH->Prop} {A B h:FH} {c c':Nat} {vs:List Value} {df:List Nat} (h3:Z2n c A B) (e:Ans (o k vs B c df) Q) (h1:Z1i c vs:=by (simp (disch:=(first | omega | with_reducible assumption | (simp <;> omega) | fail)) [fx]; done)) (h2:Z0p c B h:=by (simp (disch:=(first | omega | with_reducible assumption | (simp <;> omega) | fail)) [fx]; done)) :
 Ans (some { e:=.normal,vs:=vs,h:=h,c:=c',df:=df }) (fun q=>Lk o k Q (gcR A c df q)):=Ans.nextB e h1 h2 h3
theorem Ans.pu {h h':FH} {c c':Nat} {v w:Value} (hv:w=v:=by first | rfl | (simp (disch:=(first | omega | with_reducible assumption | (simp <;> omega) | fail)) [fx]; done)) (hs:Z0p c h h':=by first | with_reducible assumption | (simp (disch:=(first | omega | with_reducible assumption | (simp <;> omega) | fail)) [fx]; done)) :
 Ans (some { e:=.ret,vs:=[w],h:=h',c:=c',df:=[] }) (ZlZ h c v):=Ans.pure hv hs
end Go.Ab
