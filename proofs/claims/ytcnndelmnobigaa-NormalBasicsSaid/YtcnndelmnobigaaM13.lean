/- Parts of a proof: S8. Conditions: none. -/
import Derived.Test.YtcnndelmnobigaaM9
set_option linter.all false
set_option maxRecDepth 100000
namespace Go.Proofs.Ytcnndelmnobigaa
open Go Go.Ab Go.Proofs
variable {H:Type} [HeapC H]
noncomputable def Z37 (o:Orc H) (rd:Option Nat) (t0 t3 t4 t5 t6:Value) (h:H) (c:Nat) (df:List Nat):Option (Rt H) :=
 (Z00 P .lss 3 t6 t5).bind fun t21 =>
 (gd t21 true h (c + 1) (some t3)).bind fun r0 =>
 (gd t21 true r0.2.1 r0.2.2 (some t5)).bind fun r1 =>
 (gd t21 true r1.2.1 r1.2.2 (ixS 1 r0.1 r1.1)).bind fun r2 =>
 (gd t21 true r2.2.1 r2.2.2 (ld1 r2.2.1 r2.1)).bind fun r3 =>
 (gd t21 true r3.2.1 r3.2.2 (Z00 P .lss 3 r3.1 (.int .i64 0))).bind fun r4 =>
 (Z0x t21 r4.1 (.bool false)).bind fun t28 =>
 Z08 t28
 ((ixS 1 t0 t6).bind fun t33 =>
 (ld1 r4.2.1 t33).bind fun t34 =>
 (ixS 1 t0 t5).bind fun t37 =>
 (ld1 r4.2.1 t37).bind fun t38 =>
 (Z00 P .eql 3 t34 t38).bind fun t39 =>
 (Z08 t39
  ((ixS 1 t3 t6).bind fun t44 =>
  (ld1 r4.2.1 t44).bind fun t45 =>
  (ixS 1 t3 t5).bind fun t46 =>
  (stN r4.2.1 1 t46 t45).bind fun h6 =>
  some ⟨.normal,[t0,t3,t4,t5,t6],h6,(r4.2.2 + 1 + 1),df⟩)
  (some ⟨.normal,[t0,t3,t4,t5,t6],r4.2.1,(r4.2.2 + 1),df⟩):Option (Rt H)).bind fun r7 =>
 cond (Z0o r7.e .normal)
  ((Z00 P .add 3 (r7.v 4) (.int .i64 1)).bind fun t30 =>
  some ⟨.normal,[r7.v 0,r7.v 1,r7.v 2,r7.v 3,t30],r7.h,(r7.c + 1),r7.df⟩)
  (none))
 (some ⟨(.exit 2),[t0,t3,t4,t5,t6],r4.2.1,r4.2.2,df⟩)
theorem Z29 (o:Orc H) (rd:Option Nat) (t0 t3 t4 t5 t6:Value) (h:H) (c:Nat) (df:List Nat):jx P o 59 rd Z8b (Z0f [0,3,4,5,6] [t0,t3,t4,t5,t6]) h c df (Klp [0,3,4,5,6]) = Z37 o rd t0 t3 t4 t5 t6 h c df:=by kernel_rfl
noncomputable def Z6e (o:Orc H) (rd:Option Nat) (t0 t3 t4 t5:Value) (h:H) (c:Nat) (df:List Nat):Option (Rt H) :=
 (Z11 t0).bind fun t12 =>
 (Z00 P .lss 3 t5 t12).bind fun t13 =>
 Z08 t13
 ((ixS 1 t3 t5).bind fun t18 =>
 (stN h 1 t18 (.int .i64 (-1))).bind fun h1 =>
 (o (Zbo rd) [t0,t3,t4,t5,(.int .i64 0)] h1 (c + 1 + 1 + 1) df).bind fun r2 =>
 cond (Z0o r2.e (.exit 2))
  ((ixS 1 (r2.v 1) (r2.v 3)).bind fun t49 =>
  (ld1 r2.h t49).bind fun t50 =>
  (Z00 P .lss 3 t50 (.int .i64 0)).bind fun t51 =>
  (Z08 t51
   ((ixS 1 (r2.v 1) (r2.v 3)).bind fun t55 =>
   (stN r2.h 1 t55 (r2.v 2)).bind fun h4 =>
   (Z00 P .add 3 (r2.v 2) (.int .i64 1)).bind fun t57 =>
   some ⟨.normal,[r2.v 0,r2.v 1,t57,r2.v 3],h4,(r2.c + 1 + 1 + 1),r2.df⟩)
   (some ⟨.normal,[r2.v 0,r2.v 1,r2.v 2,r2.v 3],r2.h,(r2.c + 1),r2.df⟩):Option (Rt H)).bind fun r6 =>
  cond (Z0o r6.e .normal)
   ((Z00 P .add 3 (r6.v 3) (.int .i64 1)).bind fun t15 =>
   some ⟨.normal,[r6.v 0,r6.v 1,r6.v 2,t15],r6.h,(r6.c + 1),r6.df⟩)
   (none))
  (none))
 (some ⟨(.exit 0),[t0,t3,t4,t5],h,(c + 1),df⟩)
theorem Z59 (o:Orc H) (rd:Option Nat) (t0 t3 t4 t5:Value) (h:H) (c:Nat) (df:List Nat):jx P o 59 rd Z8c (Z0f [0,3,4,5] [t0,t3,t4,t5]) h c df (Klp [0,3,4,5]) = Z6e o rd t0 t3 t4 t5 h c df:=by kernel_rfl
noncomputable def Zqu (o:Orc H) (t0:Value) (h:H) (c:Nat):Option (Rt H) :=
 (Z11 t0).bind fun t8 =>
 (mkS 1 8 [(.int .i64 0)] t8 t8).bind fun r0 =>
 (o (Zbp none) [t0,(.slice (some ⟨(256 * (c + 1) + 2),0,none⟩) r0.2.1 r0.2.2),(.int .i64 0),(.int .i64 0)] (newB h (256 * (c + 1) + 2) r0.1) (c + 1 + 1 + 1 + 1) []).bind fun r1 =>
 cond (Z0o r1.e (.exit 0))
 ((Z09 r1.h r1.df).bind fun h2 =>
 some ⟨.ret,[r1.v 1],h2,(r1.c + 1),[]⟩)
 (none)
theorem ZnS (o:Orc H) (t0:Value) (h:H) (c:Nat):jx P o 59 none f80_c (Z0f (List.range 1) [t0]) h c [] (Kfn P Try.f80.results.toList) = Zqu o t0 h c:=by kernel_rfl
theorem f80_go {t0:Value} {h:FH} {c:Nat} {df:List Nat} {r:Rt FH} (e:Zqu G t0 h c = some r):G (.fn 80) [t0] h c df = some r:=Z0d (a:=ZnR) bk_80 rfl (fun args h c=>by cases args <;> rfl) rfl ((ZnS G t0 h c).trans e)
noncomputable def Z6d (o:Orc H) (rd:Option Nat) (t0 t2 t3 t4 t5 t6:Value) (h:H) (c:Nat) (df:List Nat):Option (Rt H) :=
 (Z00 P .lss 3 t6 (.int .i64 4)).bind fun t14 =>
 Z08 t14
 ((Z00 P .eql 3 t4 t0).bind fun t19 =>
 Z08 t19
  (some ⟨.ret,[t0,t5,t6,t4,t5,t6],h,(c + 1 + 1 + 1),df⟩)
  ((Z00 P .add 3 t4 (.int .i64 1)).bind fun t23 =>
  (Z00 P .add 3 t6 (.int .i64 1)).bind fun t16 =>
  some ⟨.normal,[t0,t2,t3,t23,t5,t16],h,(c + 1 + 1 + 1 + 1),df⟩))
 (some ⟨(.exit 2),[t0,t2,t3,t4,t5,t6],h,(c + 1),df⟩)
theorem Z58 (o:Orc H) (rd:Option Nat) (t0 t2 t3 t4 t5 t6:Value) (h:H) (c:Nat) (df:List Nat):jx P o 24 rd Z87 (Z0f [0,2,3,4,5,6] [t0,t2,t3,t4,t5,t6]) h c df (Klp [0,2,3,4,5,6]) = Z6d o rd t0 t2 t3 t4 t5 t6 h c df:=by kernel_rfl
noncomputable def Z8a (o:Orc H) (rd:Option Nat) (t0 t2 t3 t4 t5:Value) (h:H) (c:Nat) (df:List Nat):Option (Rt H) :=
 (Z00 P .lss 3 t5 (.int .i64 4)).bind fun t8 =>
 Z08 t8
 ((Z00 P .add 3 t5 (.int .i64 1)).bind fun t12 =>
 (o (Z86 rd) [t0,t2,t3,t4,t5,t12] h (c + 1 + 1) df).bind fun r0 =>
 cond (Z0o r0.e (.exit 2))
  ((Z00 P .add 3 (r0.v 4) (.int .i64 1)).bind fun t10 =>
  some ⟨.normal,[r0.v 0,r0.v 1,r0.v 2,r0.v 3,t10],r0.h,(r0.c + 1),r0.df⟩)
  (cond (Z0o r0.e .ret)
   (some ⟨.ret,[r0.v 0,r0.v 1,r0.v 2,r0.v 3,r0.v 4],r0.h,r0.c,r0.df⟩)
   (none)))
 (some ⟨(.exit 0),[t0,t2,t3,t4,t5],h,(c + 1),df⟩)
theorem Z7k (o:Orc H) (rd:Option Nat) (t0 t2 t3 t4 t5:Value) (h:H) (c:Nat) (df:List Nat):jx P o 24 rd Z88 (Z0f [0,2,3,4,5] [t0,t2,t3,t4,t5]) h c df (Klp [0,2,3,4,5]) = Z8a o rd t0 t2 t3 t4 t5 h c df:=by kernel_rfl
noncomputable def Zqt (o:Orc H) (t0:Value) (h:H) (c:Nat):Option (Rt H) :=
 (o (Z4x none) [t0,(.int .i64 0),(.int .i64 0),(.int .i64 0),(.int .i64 0)] h (c + 1 + 1 + 1) []).bind fun r0 =>
 cond (Z0o r0.e (.exit 0))
 ((Z09 r0.h r0.df).bind fun h2 =>
 some ⟨.ret,[.tuple #[(.int .i64 0),(.int .i64 0)]],h2,(r0.c + 1),[]⟩)
 (cond (Z0o r0.e .ret)
  ((Z09 r0.h r0.df).bind fun h1 =>
  some ⟨.ret,[.tuple #[r0.v 1,r0.v 2]],h1,r0.c,[]⟩)
  (none))
theorem ZnQ (o:Orc H) (t0:Value) (h:H) (c:Nat):jx P o 24 none f81_c (Z0f (List.range 1) [t0]) h c [] (Kfn P Try.f81.results.toList) = Zqt o t0 h c:=by kernel_rfl
theorem f81_go {t0:Value} {h:FH} {c:Nat} {df:List Nat} {r:Rt FH} (e:Zqt G t0 h c = some r):G (.fn 81) [t0] h c df = some (gcR h c [] r):=Z0d (a:=ZnP) bk_81 rfl (fun args h c=>by cases args <;> rfl) rfl ((ZnQ G t0 h c).trans e)
noncomputable def Z1Z (o:Orc H) (rd:Option Nat) (t0 t1 t4 t5:Value) (h:H) (c:Nat) (df:List Nat):Option (Rt H) :=
 (Z00 P .lss 3 t5 (.int .i64 6)).bind fun t9 =>
 Z08 t9
 ((callF o 81 [t5] h (c + 1 + 1)).bind fun r0 =>
 (Z1E r0.1 0).bind fun t15 =>
 (Z1E r0.1 1).bind fun t16 =>
 (Z00 P .eql 3 t15 t0).bind fun t19 =>
 (gd t19 true r0.2.1 (r0.2.2 + 1) (some t16)).bind fun r1 =>
 (gd t19 true r1.2.1 r1.2.2 (some t1)).bind fun r2 =>
 (gd t19 true r2.2.1 r2.2.2 (Z00 P .eql 3 r1.1 r2.1)).bind fun r3 =>
 (Z0x t19 r3.1 (.bool false)).bind fun t24 =>
 (gd t24 false r3.2.1 r3.2.2 (some t15)).bind fun r4 =>
 (gd t24 false r4.2.1 r4.2.2 (some t1)).bind fun r5 =>
 (gd t24 false r5.2.1 r5.2.2 (Z00 P .eql 3 r4.1 r5.1)).bind fun r6 =>
 (gd t24 false r6.2.1 r6.2.2 (some r6.1)).bind fun r7 =>
 (gd r7.1 true r7.2.1 r7.2.2 (some t16)).bind fun r8 =>
 (gd r7.1 true r8.2.1 r8.2.2 (some t0)).bind fun r9 =>
 (gd r7.1 true r9.2.1 r9.2.2 (Z00 P .eql 3 r8.1 r9.1)).bind fun r10 =>
 (gg t24 false r10.2.1 r10.2.2 (ZaE r10.2.1 r10.2.2 r7.1 r10.1 (.bool false))).bind fun r11 =>
 (Z0x t24 (.bool true) r11.1).bind fun t34 =>
 Z08 t34
  (some ⟨.ret,[t0,t1,t5,t5],r11.2.1,(r11.2.2 + 1),df⟩)
  ((Z00 P .add 3 t5 (.int .i64 1)).bind fun t11 =>
  some ⟨.normal,[t0,t1,t4,t11],r11.2.1,(r11.2.2 + 1),df⟩))
 (some ⟨(.exit 0),[t0,t1,t4,t5],h,(c + 1),df⟩)
theorem Z17 (o:Orc H) (rd:Option Nat) (t0 t1 t4 t5:Value) (h:H) (c:Nat) (df:List Nat):jx P o 36 rd Z85 (Z0f [0,1,4,5] [t0,t1,t4,t5]) h c df (Klp [0,1,4,5]) = Z1Z o rd t0 t1 t4 t5 h c df:=by kernel_rfl
noncomputable def Zqs (o:Orc H) (t0 t1:Value) (h:H) (c:Nat):Option (Rt H) :=
 (o (Zbn none) [t0,t1,(.int .i64 0),(.int .i64 0)] h (c + 1 + 1) []).bind fun r0 =>
 cond (Z0o r0.e (.exit 0))
 ((Z09 r0.h r0.df).bind fun h2 =>
 some ⟨.ret,[(.int .i64 (-1))],h2,(r0.c + 1),[]⟩)
 (cond (Z0o r0.e .ret)
  ((Z09 r0.h r0.df).bind fun h1 =>
  some ⟨.ret,[r0.v 2],h1,r0.c,[]⟩)
  (none))
theorem ZnO (o:Orc H) (t0 t1:Value) (h:H) (c:Nat):jx P o 36 none f82_c (Z0f (List.range 2) [t0,t1]) h c [] (Kfn P Try.f82.results.toList) = Zqs o t0 t1 h c:=by kernel_rfl
theorem f82_go {t0 t1:Value} {h:FH} {c:Nat} {df:List Nat} {r:Rt FH} (e:Zqs G t0 t1 h c = some r):G (.fn 82) [t0,t1] h c df = some (gcR h c [] r):=Z0d (a:=ZnN) bk_82 rfl (fun args h c=>by cases args <;> rfl) rfl ((ZnO G t0 t1 h c).trans e)
noncomputable def Zkr (o:Orc H) (t0:Value) (h:H) (c:Nat):Option (Rt H) :=
 (bif (t0:Value).cells.toList.all Z0e then
 some ⟨.ret,[(.func (.func 91) [].toArray [(ptrTo (256 * c + 0))].toArray)],(newB h (256 * c + 0) (t0:Value).cells.toList),(c + 1 + 1),[]⟩
 else none)
theorem Zh8 (o:Orc H) (t0:Value) (h:H) (c:Nat):jx P o 4 none f83_c (Z0f (List.range 1) [t0]) h c [] (Kfn P Try.f83.results.toList) = Zkr o t0 h c:=by kernel_rfl
theorem f83_go {t0:Value} {h:FH} {c:Nat} {df:List Nat} {r:Rt FH} (e:Zkr G t0 h c = some r):G (.fn 83) [t0] h c df = some r:=Z0d (a:=ZeU) bk_83 rfl (fun args h c=>by cases args <;> rfl) rfl ((Zh8 G t0 h c).trans e)
noncomputable def Z1Y (o:Orc H) (rd:Option Nat) (t2 t3 t6 t7:Value) (h:H) (c:Nat) (df:List Nat):Option (Rt H) :=
 (Z00 P .lss 3 t7 (.int .i64 4)).bind fun t8 =>
 Z08 t8
 ((ixV 4 false 1 t6 t7).bind fun t9 =>
 (Z00 P .lss 3 t9 (.int .i64 0)).bind fun t11 =>
 (gd t11 false h (c + 1 + 1 + 1) (some t9)).bind fun r0 =>
 (gd t11 false r0.2.1 r0.2.2 (Z00 P .gtr 3 r0.1 (.int .i64 3))).bind fun r1 =>
 (Z0x t11 (.bool true) r1.1).bind fun t15 =>
 Z08 t15
  (some ⟨.ret,[(.bool false),t3,t6,t7],r1.2.1,(r1.2.2 + 1),df⟩)
  ((Z00 P .shl 3 (.int .i64 1) t9).bind fun t18 =>
  (Z00 P .or 3 t3 t18).bind fun t19 =>
  (Z00 P .add 3 t7 (.int .i64 1)).bind fun t20 =>
  some ⟨.normal,[t2,t19,t6,t20],r1.2.1,(r1.2.2 + 1 + 1),df⟩))
 (some ⟨(.exit 0),[t2,t3,t6,t7],h,(c + 1),df⟩)
theorem Z57 (o:Orc H) (rd:Option Nat) (t2 t3 t6 t7:Value) (h:H) (c:Nat) (df:List Nat):jx P o 23 rd Z36 (Z0f [2,3,6,7] [t2,t3,t6,t7]) h c df (Klp [2,3,6,7]) = Z1Y o rd t2 t3 t6 t7 h c df:=by kernel_rfl
noncomputable def Zkq (o:Orc H) (t0:Value) (h:H) (c:Nat):Option (Rt H) :=
 (bif (t0:Value).cells.toList.all Z0e then
 (ldN (newB h (256 * c + 0) (t0:Value).cells.toList) 4 (ptrTo (256 * c + 0))).bind fun t6 =>
 (o (Z4w none) [(.bool false),(.int .i64 0),t6,(.int .i64 0)] (newB h (256 * c + 0) (t0:Value).cells.toList) (c + 1 + 1 + 1) []).bind fun r0 =>
 cond (Z0o r0.e (.exit 0))
 ((Z00 P .eql 3 (r0.v 1) (.int .i64 15)).bind fun t22 =>
 (Z09 r0.h r0.df).bind fun h2 =>
 some ⟨.ret,[t22],h2,(r0.c + 1),[]⟩)
 (cond (Z0o r0.e .ret)
  ((Z09 r0.h r0.df).bind fun h1 =>
  some ⟨.ret,[r0.v 0],h1,r0.c,[]⟩)
  (none))
 else none)
theorem Zh7 (o:Orc H) (t0:Value) (h:H) (c:Nat):jx P o 23 none f84_c (Z0f (List.range 1) [t0]) h c [] (Kfn P Try.f84.results.toList) = Zkq o t0 h c:=by kernel_rfl
theorem f84_go {t0:Value} {h:FH} {c:Nat} {df:List Nat} {r:Rt FH} (e:Zkq G t0 h c = some r):G (.fn 84) [t0] h c df = some (gcR h c [] r):=Z0d (a:=ZeT) bk_84 rfl (fun args h c=>by cases args <;> rfl) rfl ((Zh7 G t0 h c).trans e)
theorem Zim {rd:Option Nat} {t2 t3 t6 t7:Value} {h:FH} {c:Nat} {df:List Nat} {q r:Rt FH} (e:Z1Y G rd t2 t3 t6 t7 h c df = some q) (hq:q.e = .normal) (k:G (Z4w rd) q.vs (gcR h c df q).h (gcR h c df q).c q.df = some r):G (Z4w rd) [t2,t3,t6,t7] h c df = some r:=Z0L ((Z57 G rd t2 t3 t6 t7 h c df).trans e) hq k
theorem Zbm {rd:Option Nat} {t2 t3 t6 t7:Value} {h:FH} {c:Nat} {df:List Nat} {q:Rt FH} (e:Z1Y G rd t2 t3 t6 t7 h c df = some q) (hq:q.e ≠ .normal):G (Z4w rd) [t2,t3,t6,t7] h c df = some (gcR h c df q):=Z0M ((Z57 G rd t2 t3 t6 t7 h c df).trans e) hq
noncomputable def Z2n (o:Orc H) (rd:Option Nat) (t2 t3 t6 t7:Value) (h:H) (c:Nat) (df:List Nat):Option (Rt H) :=
 (Z00 P .lss 3 t7 (.int .i64 4)).bind fun t8 =>
 Z08 t8
 ((ixV 4 false 1 t6 t7).bind fun t10 =>
 (ixA 4 1 t3 t10).bind fun t13 =>
 (stN h 1 t13 t7).bind fun h1 =>
 (Z00 P .add 3 t7 (.int .i64 1)).bind fun t14 =>
 some ⟨.normal,[t2,t3,t6,t14],h1,(c + 1 + 1 + 1 + 1),df⟩)
 (some ⟨(.exit 0),[t2,t3,t6,t7],h,(c + 1),df⟩)
theorem Z56 (o:Orc H) (rd:Option Nat) (t2 t3 t6 t7:Value) (h:H) (c:Nat) (df:List Nat):jx P o 16 rd Z35 (Z0f [2,3,6,7] [t2,t3,t6,t7]) h c df (Klp [2,3,6,7]) = Z2n o rd t2 t3 t6 t7 h c df:=by kernel_rfl
noncomputable def Zkp (o:Orc H) (t0:Value) (h:H) (c:Nat):Option (Rt H) :=
 (bif (t0:Value).cells.toList.all Z0e then
 (ldN (newB (newB (newB h (256 * c + 0) (t0:Value).cells.toList) (256 * c + 1) [(.int .i64 0),(.int .i64 0),(.int .i64 0),(.int .i64 0)]) (256 * (c + 1) + 0) [(.int .i64 0),(.int .i64 0),(.int .i64 0),(.int .i64 0)]) 4 (ptrTo (256 * c + 0))).bind fun t6 =>
 (o (Z4v none) [(ptrTo (256 * c + 1)),(ptrTo (256 * (c + 1) + 0)),t6,(.int .i64 0)] (newB (newB (newB h (256 * c + 0) (t0:Value).cells.toList) (256 * c + 1) [(.int .i64 0),(.int .i64 0),(.int .i64 0),(.int .i64 0)]) (256 * (c + 1) + 0) [(.int .i64 0),(.int .i64 0),(.int .i64 0),(.int .i64 0)]) (c + 1 + 1 + 1) []).bind fun r0 =>
 cond (Z0o r0.e (.exit 0))
 ((ldN r0.h 4 (r0.v 1)).bind fun t15 =>
 (stN r0.h 4 (r0.v 0) t15).bind fun h2 =>
 (Z09 h2 r0.df).bind fun h3 =>
 (ldN h3 4 (r0.v 0)).bind fun v4 =>
 some ⟨.ret,[v4],h3,(r0.c + 1),[]⟩)
 (none)
 else none)
theorem Zh6 (o:Orc H) (t0:Value) (h:H) (c:Nat):jx P o 16 none f85_c (Z0f (List.range 1) [t0]) h c [] (Kfn P Try.f85.results.toList) = Zkp o t0 h c:=by kernel_rfl
theorem f85_go {t0:Value} {h:FH} {c:Nat} {df:List Nat} {r:Rt FH} (e:Zkp G t0 h c = some r):G (.fn 85) [t0] h c df = some (gcR h c [] r):=Z0d (a:=ZeS) bk_85 rfl (fun args h c=>by cases args <;> rfl) rfl ((Zh6 G t0 h c).trans e)
theorem Zil {rd:Option Nat} {t2 t3 t6 t7:Value} {h:FH} {c:Nat} {df:List Nat} {q r:Rt FH} (e:Z2n G rd t2 t3 t6 t7 h c df = some q) (hq:q.e = .normal) (k:G (Z4v rd) q.vs (gcR h c df q).h (gcR h c df q).c q.df = some r):G (Z4v rd) [t2,t3,t6,t7] h c df = some r:=Z0L ((Z56 G rd t2 t3 t6 t7 h c df).trans e) hq k
theorem Zik {rd:Option Nat} {t2 t3 t6 t7:Value} {h:FH} {c:Nat} {df:List Nat} {q:Rt FH} (e:Z2n G rd t2 t3 t6 t7 h c df = some q) (hq:q.e ≠ .normal):G (Z4v rd) [t2,t3,t6,t7] h c df = some (gcR h c df q):=Z0M ((Z56 G rd t2 t3 t6 t7 h c df).trans e) hq
noncomputable def Z4u (o:Orc H) (rd:Option Nat) (t0 t1 t4 t7 t8:Value) (h:H) (c:Nat) (df:List Nat):Option (Rt H) :=
 (Z00 P .lss 3 t8 t7).bind fun t9 =>
 Z08 t9
 ((ixS 2 t0 t8).bind fun t14 =>
 (ldN h 2 t14).bind fun t15 =>
 (Z2y o h (c + 1 + 1 + 1) t1 [t15]).bind fun r0 =>
 Z08 r0.1
  (some ⟨.ret,[t0,t1,t8,t7,t8],r0.2.1,(r0.2.2 + 1),df⟩)
  ((Z00 P .add 3 t8 (.int .i64 1)).bind fun t18 =>
  some ⟨.normal,[t0,t1,t4,t7,t18],r0.2.1,(r0.2.2 + 1),df⟩))
 (some ⟨(.exit 0),[t0,t1,t4,t7,t8],h,(c + 1),df⟩)
theorem Z55 (o:Orc H) (rd:Option Nat) (t0 t1 t4 t7 t8:Value) (h:H) (c:Nat) (df:List Nat):jx P o 19 rd Z34 (Z0f [0,1,4,7,8] [t0,t1,t4,t7,t8]) h c df (Klp [0,1,4,7,8]) = Z4u o rd t0 t1 t4 t7 t8 h c df:=by kernel_rfl
noncomputable def Zko (o:Orc H) (t0 t1:Value) (h:H) (c:Nat):Option (Rt H) :=
 (Z11 t0).bind fun t7 =>
 (o (Zbl none) [t0,t1,(.int .i64 0),t7,(.int .i64 0)] h (c + 1 + 1) []).bind fun r0 =>
 cond (Z0o r0.e (.exit 0))
 ((Z09 r0.h r0.df).bind fun h2 =>
 some ⟨.ret,[(.int .i64 (-1))],h2,(r0.c + 1),[]⟩)
 (cond (Z0o r0.e .ret)
  ((Z09 r0.h r0.df).bind fun h1 =>
  some ⟨.ret,[r0.v 2],h1,r0.c,[]⟩)
  (none))
theorem Zh5 (o:Orc H) (t0 t1:Value) (h:H) (c:Nat):jx P o 19 none f86_c (Z0f (List.range 2) [t0,t1]) h c [] (Kfn P Try.f86.results.toList) = Zko o t0 t1 h c:=by kernel_rfl
theorem f86_go {t0 t1:Value} {h:FH} {c:Nat} {df:List Nat} {r:Rt FH} (e:Zko G t0 t1 h c = some r):G (.fn 86) [t0,t1] h c df = some (gcR h c [] r):=Z0d (a:=ZeR) bk_86 rfl (fun args h c=>by cases args <;> rfl) rfl ((Zh5 G t0 t1 h c).trans e)
noncomputable def Zkn (o:Orc H) (h:H) (c:Nat):Option (Rt H) :=
 (callF o 89 [] h (c + 1 + 1)).bind fun r0 =>
 (stN (newB r0.2.1 (256 * (c + 1) + 1) [(.int .i64 0),(.int .i64 0),(.int .i64 0),(.int .i64 0),(.int .i64 0),(.int .i64 0),(.int .i64 0),(.int .i64 0),(.int .i64 0),(.int .i64 0),(.int .i64 0),(.int .i64 0)]) 12 (ptrTo (256 * (c + 1) + 1)) r0.1).bind fun h2 =>
 (slA 6 2 (ptrTo (256 * (c + 1) + 1)) none none none).bind fun t3 =>
 some ⟨.ret,[t3],h2,(r0.2.2 + 1),[]⟩
theorem Zh4 (o:Orc H) (h:H) (c:Nat):jx P o 4 none f87_c (Z0f (List.range 0) []) h c [] (Kfn P Try.f87.results.toList) = Zkn o h c:=by kernel_rfl
theorem f87_go {h:FH} {c:Nat} {df:List Nat} {r:Rt FH} (e:Zkn G h c = some r):G (.fn 87) [] h c df = some r:=Z0d (a:=ZeQ) bk_87 rfl (fun args h c=>by cases args <;> rfl) rfl ((Zh4 G h c).trans e)
noncomputable def Zkm (o:Orc H) (t0 t1 t2:Value) (h:H) (c:Nat):Option (Rt H) :=
 (bif (t0:Value).cells.toList.all Z0e then
 (ldN (newB h (256 * c + 0) (t0:Value).cells.toList) 2 (ptrTo (256 * c + 0))).bind fun t5 =>
 (ld1 (newB h (256 * c + 0) (t0:Value).cells.toList) t1).bind fun t6 =>
 (ld1 (newB h (256 * c + 0) (t0:Value).cells.toList) t2).bind fun t7 =>
 (Z4f [(.int .i64 0),(.int .i64 0)] [(0,1,t6),(1,1,t7)]).bind fun t8 =>
 (Z00 P .eql 115 t5 t8).bind fun t9 =>
 (gd t9 false (newB h (256 * c + 0) (t0:Value).cells.toList) (c + 1 + 1) (ldN (newB h (256 * c + 0) (t0:Value).cells.toList) 2 (ptrTo (256 * c + 0)))).bind fun r0 =>
 (gd t9 false r0.2.1 r0.2.2 (ld1 r0.2.1 t2)).bind fun r1 =>
 (gd t9 false r1.2.1 r1.2.2 (ld1 r1.2.1 t1)).bind fun r2 =>
 (gd t9 false r2.2.1 r2.2.2 (Z4f [(.int .i64 0),(.int .i64 0)] [(0,1,r1.1),(1,1,r2.1)])).bind fun r3 =>
 (gd t9 false r3.2.1 r3.2.2 (Z00 P .eql 115 r0.1 r3.1)).bind fun r4 =>
 (Z0x t9 (.bool true) r4.1).bind fun t16 =>
 some ⟨.ret,[t16],r4.2.1,r4.2.2,[]⟩
 else none)
theorem Zh3 (o:Orc H) (t0 t1 t2:Value) (h:H) (c:Nat):jx P o 17 none f88_c (Z0f (List.range 3) [t0,t1,t2]) h c [] (Kfn P Try.f88.results.toList) = Zkm o t0 t1 t2 h c:=by kernel_rfl
theorem f88_go {t0 t1 t2:Value} {h:FH} {c:Nat} {df:List Nat} {r:Rt FH} (e:Zkm G t0 t1 t2 h c = some r):G (.fn 88) [t0,t1,t2] h c df = some (gcR h c [] r):=Z0d (a:=ZeP) bk_88 rfl (fun args h c=>by cases args <;> rfl) rfl ((Zh3 G t0 t1 t2 h c).trans e)
noncomputable def Zkl (o:Orc H) (h:H) (c:Nat):Option (Rt H) :=
 (Z4f [(.int .i64 0),(.int .i64 0)] [(0,1,(.int .i64 0)),(1,1,(.int .i64 1))]).bind fun t1 =>
 (Z4f [(.int .i64 0),(.int .i64 0)] [(0,1,(.int .i64 0)),(1,1,(.int .i64 2))]).bind fun t2 =>
 (Z4f [(.int .i64 0),(.int .i64 0)] [(0,1,(.int .i64 0)),(1,1,(.int .i64 3))]).bind fun t3 =>
 (Z4f [(.int .i64 0),(.int .i64 0)] [(0,1,(.int .i64 1)),(1,1,(.int .i64 2))]).bind fun t4 =>
 (Z4f [(.int .i64 0),(.int .i64 0)] [(0,1,(.int .i64 1)),(1,1,(.int .i64 3))]).bind fun t5 =>
 (Z4f [(.int .i64 0),(.int .i64 0)] [(0,1,(.int .i64 2)),(1,1,(.int .i64 3))]).bind fun t6 =>
 (Z4f [(.int .i64 0),(.int .i64 0),(.int .i64 0),(.int .i64 0),(.int .i64 0),(.int .i64 0),(.int .i64 0),(.int .i64 0),(.int .i64 0),(.int .i64 0),(.int .i64 0),(.int .i64 0)] [(0,2,t1),(2,2,t2),(4,2,t3),(6,2,t4),(8,2,t5),(10,2,t6)]).bind fun t7 =>
 (stN (newB h (256 * c + 0) [(.int .i64 0),(.int .i64 0),(.int .i64 0),(.int .i64 0),(.int .i64 0),(.int .i64 0),(.int .i64 0),(.int .i64 0),(.int .i64 0),(.int .i64 0),(.int .i64 0),(.int .i64 0)]) 12 (ptrTo (256 * c + 0)) t7).bind fun h1 =>
 (ldN h1 12 (ptrTo (256 * c + 0))).bind fun v2 =>
 some ⟨.ret,[v2],h1,(c + 1 + 1),[]⟩
theorem Zh2 (o:Orc H) (h:H) (c:Nat):jx P o 8 none f89_c (Z0f (List.range 0) []) h c [] (Kfn P Try.f89.results.toList) = Zkl o h c:=by kernel_rfl
theorem f89_go {h:FH} {c:Nat} {df:List Nat} {r:Rt FH} (e:Zkl G h c = some r):G (.fn 89) [] h c df = some (gcR h c [] r):=Z0d (a:=ZeO) bk_89 rfl (fun args h c=>by cases args <;> rfl) rfl ((Zh2 G h c).trans e)
noncomputable def Z4t (o:Orc H) (rd:Option Nat) (t0 t1 t4 t7 t8:Value) (h:H) (c:Nat) (df:List Nat):Option (Rt H) :=
 (Z00 P .lss 3 t8 t7).bind fun t9 =>
 Z08 t9
 ((ixS 1 t0 t8).bind fun t14 =>
 (ld1 h t14).bind fun t15 =>
 (Z2y o h (c + 1 + 1 + 1) t1 [t15]).bind fun r0 =>
 Z08 r0.1
  (some ⟨.ret,[t0,t1,t8,t7,t8],r0.2.1,(r0.2.2 + 1),df⟩)
  ((Z00 P .add 3 t8 (.int .i64 1)).bind fun t18 =>
  some ⟨.normal,[t0,t1,t4,t7,t18],r0.2.1,(r0.2.2 + 1),df⟩))
 (some ⟨(.exit 0),[t0,t1,t4,t7,t8],h,(c + 1),df⟩)
theorem Z54 (o:Orc H) (rd:Option Nat) (t0 t1 t4 t7 t8:Value) (h:H) (c:Nat) (df:List Nat):jx P o 19 rd Z33 (Z0f [0,1,4,7,8] [t0,t1,t4,t7,t8]) h c df (Klp [0,1,4,7,8]) = Z4t o rd t0 t1 t4 t7 t8 h c df:=by kernel_rfl
noncomputable def Zij (o:Orc H) (t0 t1:Value) (h:H) (c:Nat):Option (Rt H) :=
 (Z11 t0).bind fun t7 =>
 (o (Zbk none) [t0,t1,(.int .i64 0),t7,(.int .i64 0)] h (c + 1 + 1) []).bind fun r0 =>
 cond (Z0o r0.e (.exit 0))
 ((Z09 r0.h r0.df).bind fun h2 =>
 some ⟨.ret,[(.int .i64 (-1))],h2,(r0.c + 1),[]⟩)
 (cond (Z0o r0.e .ret)
  ((Z09 r0.h r0.df).bind fun h1 =>
  some ⟨.ret,[r0.v 2],h1,r0.c,[]⟩)
  (none))
theorem Zh1 (o:Orc H) (t0 t1:Value) (h:H) (c:Nat):jx P o 19 none f90_c (Z0f (List.range 2) [t0,t1]) h c [] (Kfn P Try.f90.results.toList) = Zij o t0 t1 h c:=by kernel_rfl
theorem Zpx {t0 t1:Value} {h:FH} {c:Nat} {df:List Nat} {r:Rt FH} (e:Zij G t0 t1 h c = some r):G (.fn 90) [t0,t1] h c df = some (gcR h c [] r):=Z0d (a:=ZeN) bk_90 rfl (fun args h c=>by cases args <;> rfl) rfl ((Zh1 G t0 t1 h c).trans e)
noncomputable def Z1W (o:Orc H) (rd:Option Nat) (t0 t1 t3 t8 t9 t16 t17:Value) (h:H) (c:Nat) (df:List Nat):Option (Rt H) :=
 (Z00 P .lss 3 t17 (.int .i64 4)).bind fun t18 =>
 Z08 t18
 ((ixV 4 true 5 t16 t17).bind fun t20 =>
 (stN (newB h (256 * (c + 1) + 2) [(.int .i64 0),(.int .i64 0),(.int .i64 0),(.int .i64 0),(.int .i64 0)]) 5 (ptrTo (256 * (c + 1) + 2)) t20).bind fun h1 =>
 (Z4f [(.int .i64 0),(.int .i64 0)] [(0,1,t3),(1,1,t17)]).bind fun t24 =>
 (ldN h1 5 (ptrTo (256 * (c + 1) + 2))).bind fun t25 =>
 (Z2y o h1 (c + 1 + 1 + 1) t0 [t24,t25]).bind fun r2 =>
 (Z1A .not r2.1).bind fun t27 =>
 Z08 t27
  (some ⟨.ret,[t0,t1,t3,t8,t9,t16,t17],r2.2.1,r2.2.2,df⟩)
  ((Z00 P .add 3 t17 (.int .i64 1)).bind fun t28 =>
  some ⟨.normal,[t0,t1,t3,t8,t9,t16,t28],r2.2.1,(r2.2.2 + 1),df⟩))
 (some ⟨(.exit 2),[t0,t1,t3,t8,t9,t16,t17],h,(c + 1),df⟩)
theorem Z52 (o:Orc H) (rd:Option Nat) (t0 t1 t3 t8 t9 t16 t17:Value) (h:H) (c:Nat) (df:List Nat):jx P o 30 rd Z31 (Z0f [0,1,3,8,9,16,17] [t0,t1,t3,t8,t9,t16,t17]) h c df (Klp [0,1,3,8,9,16,17]) = Z1W o rd t0 t1 t3 t8 t9 t16 t17 h c df:=by kernel_rfl
noncomputable def Z1X (o:Orc H) (rd:Option Nat) (t0 t1 t8 t9:Value) (h:H) (c:Nat) (df:List Nat):Option (Rt H) :=
 (Z00 P .lss 3 t9 t8).bind fun t10 =>
 Z08 t10
 ((Z05 t1 0).bind fun t12 =>
 (ld1 h t12).bind fun t13 =>
 (ixS 20 t13 t9).bind fun t15 =>
 (ldN h 20 t15).bind fun t16 =>
 (o (Z4r rd) [t0,t1,t9,t8,t9,t16,(.int .i64 0)] h (c + 1 + 1 + 1) df).bind fun r0 =>
 cond (Z0o r0.e (.exit 2))
  ((Z00 P .add 3 (r0.v 4) (.int .i64 1)).bind fun t29 =>
  some ⟨.normal,[r0.v 0,r0.v 1,r0.v 3,t29],r0.h,(r0.c + 1),r0.df⟩)
  (cond (Z0o r0.e .ret)
   (some ⟨.ret,[r0.v 0,r0.v 1,r0.v 3,r0.v 4],r0.h,r0.c,r0.df⟩)
   (none)))
 (some ⟨(.exit 0),[t0,t1,t8,t9],h,(c + 1),df⟩)
theorem Z53 (o:Orc H) (rd:Option Nat) (t0 t1 t8 t9:Value) (h:H) (c:Nat) (df:List Nat):jx P o 30 rd Z32 (Z0f [0,1,8,9] [t0,t1,t8,t9]) h c df (Klp [0,1,8,9]) = Z1X o rd t0 t1 t8 t9 h c df:=by kernel_rfl
noncomputable def Zig (o:Orc H) (t0 t1:Value) (h:H) (c:Nat):Option (Rt H) :=
 (Z05 t1 0).bind fun t6 =>
 (ld1 h t6).bind fun t7 =>
 (Z11 t7).bind fun t8 =>
 (o (Z4s none) [t0,t1,t8,(.int .i64 0)] h (c + 1) []).bind fun r0 =>
 cond (Z0o r0.e (.exit 0))
 ((Z09 r0.h r0.df).bind fun h2 =>
 some ⟨.ret,[.tuple #[]],h2,r0.c,[]⟩)
 (cond (Z0o r0.e .ret)
  ((Z09 r0.h r0.df).bind fun h1 =>
  some ⟨.ret,[.tuple #[]],h1,r0.c,[]⟩)
  (none))
theorem Zh0 (o:Orc H) (t0 t1:Value) (h:H) (c:Nat):jx P o 30 none f91_c (Z0f (List.range 2) [t0,t1]) h c [] (Kfn P Try.f91.results.toList) = Zig o t0 t1 h c:=by kernel_rfl
theorem Zpw {t0 t1:Value} {h:FH} {c:Nat} {df:List Nat} {r:Rt FH} (e:Zig G t0 t1 h c = some r):G (.fn 91) [t0,t1] h c df = some r:=Z0d (a:=ZeM) bk_91 rfl (fun args h c=>by cases args <;> rfl) rfl ((Zh0 G t0 t1 h c).trans e)
theorem Zih {rd:Option Nat} {t0 t1 t3 t8 t9 t16 t17:Value} {h:FH} {c:Nat} {df:List Nat} {q r:Rt FH} (e:Z1W G rd t0 t1 t3 t8 t9 t16 t17 h c df = some q) (hq:q.e = .normal) (k:G (Z4r rd) q.vs q.h q.c q.df = some r):G (Z4r rd) [t0,t1,t3,t8,t9,t16,t17] h c df = some r:=Z0L ((Z52 G rd t0 t1 t3 t8 t9 t16 t17 h c df).trans e) hq k
theorem Zbi {rd:Option Nat} {t0 t1 t3 t8 t9 t16 t17:Value} {h:FH} {c:Nat} {df:List Nat} {q:Rt FH} (e:Z1W G rd t0 t1 t3 t8 t9 t16 t17 h c df = some q) (hq:q.e ≠ .normal):G (Z4r rd) [t0,t1,t3,t8,t9,t16,t17] h c df = some q:=Z0M ((Z52 G rd t0 t1 t3 t8 t9 t16 t17 h c df).trans e) hq
theorem Zii {rd:Option Nat} {t0 t1 t8 t9:Value} {h:FH} {c:Nat} {df:List Nat} {q r:Rt FH} (e:Z1X G rd t0 t1 t8 t9 h c df = some q) (hq:q.e = .normal) (k:G (Z4s rd) q.vs q.h q.c q.df = some r):G (Z4s rd) [t0,t1,t8,t9] h c df = some r:=Z0L ((Z53 G rd t0 t1 t8 t9 h c df).trans e) hq k
theorem Zbj {rd:Option Nat} {t0 t1 t8 t9:Value} {h:FH} {c:Nat} {df:List Nat} {q:Rt FH} (e:Z1X G rd t0 t1 t8 t9 h c df = some q) (hq:q.e ≠ .normal):G (Z4s rd) [t0,t1,t8,t9] h c df = some q:=Z0M ((Z53 G rd t0 t1 t8 t9 h c df).trans e) hq
end Go.Proofs.Ytcnndelmnobigaa
