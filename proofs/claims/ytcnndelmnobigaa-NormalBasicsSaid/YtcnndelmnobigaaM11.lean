/- Parts of a proof: S3 S4. Conditions: none. -/
import Derived.Test.YtcnndelmnobigaaM9
set_option linter.all false
set_option maxRecDepth 100000
namespace Go.Proofs.Ytcnndelmnobigaa
open Go Go.Ab Go.Proofs
variable {H:Type} [HeapC H]
noncomputable def Z6p (o:Orc H) (rd:Option Nat) (t1 t5 t6 t7 t8 t9:Value) (h:H) (c:Nat) (df:List Nat):Option (Rt H) :=
 (Z11 t5).bind fun t30 =>
 (Z00 P .lss 3 t9 t30).bind fun t31 =>
 Z08 t31
 ((ixS 1 t5 t9).bind fun t36 =>
 (ld1 h t36).bind fun t37 =>
 (Z00 P .eql 3 t37 t7).bind fun t39 =>
 (Z08 t39
  ((Z00 P .quo 3 t9 (.int .i64 4)).bind fun t42 =>
  (Z00 P .mul 3 (.int .i64 7) t42).bind fun t43 =>
  (Z00 P .rem 3 t9 (.int .i64 4)).bind fun t45 =>
  (Z00 P .add 3 t43 t45).bind fun t46 =>
  (ixS 1 t8 t46).bind fun t47 =>
  (stN h 1 t47 (.int .i64 1)).bind fun h1 =>
  some ⟨.normal,[t1,t5,t6,t7,t8,t9],h1,(c + 1 + 1 + 1),df⟩)
  (some ⟨.normal,[t1,t5,t6,t7,t8,t9],h,(c + 1 + 1),df⟩):Option (Rt H)).bind fun r2 =>
 cond (Z0o r2.e .normal)
  ((Z00 P .add 3 (r2.v 5) (.int .i64 1)).bind fun t33 =>
  some ⟨.normal,[r2.v 0,r2.v 1,r2.v 2,r2.v 3,r2.v 4,t33],r2.h,(r2.c + 1),r2.df⟩)
  (none))
 (some ⟨(.exit 2),[t1,t5,t6,t7,t8,t9],h,(c + 1),df⟩)
theorem Z5t (o:Orc H) (rd:Option Nat) (t1 t5 t6 t7 t8 t9:Value) (h:H) (c:Nat) (df:List Nat):jx P o 53 rd Z8Y (Z0f [1,5,6,7,8,9] [t1,t5,t6,t7,t8,t9]) h c df (Klp [1,5,6,7,8,9]) = Z6p o rd t1 t5 t6 t7 t8 t9 h c df:=by kernel_rfl
noncomputable def Z90 (o:Orc H) (rd:Option Nat) (t1 t5 t6 t7:Value) (h:H) (c:Nat) (df:List Nat):Option (Rt H) :=
 (callF o 63 [t5] h (c + 1)).bind fun r0 =>
 (Z00 P .lss 3 t7 r0.1).bind fun t20 =>
 Z08 t20
 ((Z05 t1 0).bind fun t23 =>
 (ld1 r0.2.1 t23).bind fun t24 =>
 (Z11 t24).bind fun t25 =>
 (Z00 P .mul 3 (.int .i64 7) t25).bind fun t26 =>
 (mkS 1 8 [(.int .i64 0)] t26 t26).bind fun r1 =>
 (o (ZbS rd) [t1,t5,t6,t7,(.slice (some ⟨(256 * r0.2.2 + 4),0,none⟩) r1.2.1 r1.2.2),(.int .i64 0)] (newB r0.2.1 (256 * r0.2.2 + 4) r1.1) (r0.2.2 + 1 + 1) df).bind fun r2 =>
 cond (Z0o r2.e (.exit 2))
  ((Z48 [(.slice none 0 0)] [(0,1,(r2.v 4))]).bind fun r3 =>
  (Zde (newB r2.h (256 * r2.c + 2) r3) (256 * r2.c + 3) 1 24 (r2.v 2) (.slice (some ⟨(256 * r2.c + 2),0,none⟩) 1 1)).bind fun r4 =>
  (Z00 P .add 3 (r2.v 3) (.int .i64 1)).bind fun t22 =>
  some ⟨.normal,[r2.v 0,r2.v 1,r4.1,t22],r4.2,(r2.c + 1 + 1),r2.df⟩)
  (none))
 (some ⟨(.exit 0),[t1,t5,t6,t7],r0.2.1,r0.2.2,df⟩)
theorem Z7C (o:Orc H) (rd:Option Nat) (t1 t5 t6 t7:Value) (h:H) (c:Nat) (df:List Nat):jx P o 53 rd Z8Z (Z0f [1,5,6,7] [t1,t5,t6,t7]) h c df (Klp [1,5,6,7]) = Z90 o rd t1 t5 t6 t7 h c df:=by kernel_rfl
noncomputable def ZqU (o:Orc H) (t0:Value) (h:H) (c:Nat):Option (Rt H) :=
 (bif (t0:Value).cells.toList.all Z0e then
 (ldN (newB h (256 * c + 0) (t0:Value).cells.toList) 1 (ptrTo (256 * c + 0))).bind fun t10 =>
 (callF o 58 [t10] (newB h (256 * c + 0) (t0:Value).cells.toList) (c + 1 + 1)).bind fun r0 =>
 (Z00 P .neq 27 r0.1 (.int .i64 0)).bind fun t13 =>
 Z08 t13
 (some ⟨.ret,[.tuple #[(.slice none 0 0),r0.1]],r0.2.1,(r0.2.2 + 1 + 1),[]⟩)
 ((ldN r0.2.1 1 (ptrTo (256 * c + 0))).bind fun t15 =>
 (callF o 62 [t15] r0.2.1 (r0.2.2 + 1 + 1)).bind fun r1 =>
 (o (ZbT none) [(ptrTo (256 * c + 0)),r1.1,(.slice none 0 0),(.int .i64 0)] r1.2.1 (r1.2.2 + 1 + 1) []).bind fun r2 =>
 cond (Z0o r2.e (.exit 0))
  ((Z09 r2.h r2.df).bind fun h3 =>
  some ⟨.ret,[.tuple #[r2.v 2,(.int .i64 0)]],h3,(r2.c + 1),[]⟩)
  (none))
 else none)
theorem Zoo (o:Orc H) (t0:Value) (h:H) (c:Nat):jx P o 53 none f30_c (Z0f (List.range 1) [t0]) h c [] (Kfn P Try.f30.results.toList) = ZqU o t0 h c:=by kernel_rfl
theorem f30_go {t0:Value} {h:FH} {c:Nat} {df:List Nat} {r:Rt FH} (e:ZqU G t0 h c = some r):G (.fn 30) [t0] h c df = some r:=Z0d (a:=Zon) bk_30 rfl (fun args h c=>by cases args <;> rfl) rfl ((Zoo G t0 h c).trans e)
noncomputable def Z8X (o:Orc H) (rd:Option Nat) (t1 t7 t8 t9:Value) (h:H) (c:Nat) (df:List Nat):Option (Rt H) :=
 (Z11 t7).bind fun t23 =>
 (Z00 P .lss 3 t9 t23).bind fun t24 =>
 Z08 t24
 ((ixS 1 t7 t9).bind fun t30 =>
 (ld1 h t30).bind fun t31 =>
 (Z00 P .quo 3 t9 (.int .i64 6)).bind fun t34 =>
 (Z00 P .rem 3 t9 (.int .i64 6)).bind fun t36 =>
 (callF o 65 [t1,t34,t36] h (c + 1 + 1)).bind fun r0 =>
 (ixS 1 t8 t31).bind fun t38 =>
 (stN r0.2.1 1 t38 r0.1).bind fun h2 =>
 (bif (Z0Y (Z2f t30) h r0.2.1 && true) then
 (Z00 P .add 3 t9 (.int .i64 1)).bind fun t26 =>
 some ⟨.normal,[t1,t7,t8,t26],h2,(r0.2.2 + 1),df⟩
 else none))
 (some ⟨(.exit 0),[t1,t7,t8,t9],h,(c + 1),df⟩)
theorem Z7B (o:Orc H) (rd:Option Nat) (t1 t7 t8 t9:Value) (h:H) (c:Nat) (df:List Nat):jx P o 40 rd Z8W (Z0f [1,7,8,9] [t1,t7,t8,t9]) h c df (Klp [1,7,8,9]) = Z8X o rd t1 t7 t8 t9 h c df:=by kernel_rfl
noncomputable def ZqT (o:Orc H) (t0 t1:Value) (h:H) (c:Nat):Option (Rt H) :=
 (bif (t0:Value).cells.toList.all Z0e then
 (ldN (newB h (256 * c + 0) (t0:Value).cells.toList) 1 (ptrTo (256 * c + 0))).bind fun t10 =>
 (callF o 28 [t10,t1] (newB h (256 * c + 0) (t0:Value).cells.toList) (c + 1 + 1)).bind fun r0 =>
 (Z00 P .neq 27 r0.1 (.int .i64 0)).bind fun t14 =>
 Z08 t14
 (some ⟨.ret,[.tuple #[(.slice none 0 0),r0.1]],r0.2.1,(r0.2.2 + 1 + 1),[]⟩)
 ((ldN r0.2.1 1 (ptrTo (256 * c + 0))).bind fun t16 =>
 (callF o 64 [t16] r0.2.1 (r0.2.2 + 1 + 1)).bind fun r1 =>
 (callF o 63 [r1.1] r1.2.1 (r1.2.2 + 1)).bind fun r2 =>
 (mkS 1 8 [(.int .i64 0)] r2.1 r2.1).bind fun r3 =>
 (o (ZbR none) [t1,r1.1,(.slice (some ⟨(256 * r1.2.2 + 2),0,none⟩) r3.2.1 r3.2.2),(.int .i64 0)] (newB r2.2.1 (256 * r1.2.2 + 2) r3.1) (r2.2.2 + 1) []).bind fun r4 =>
 cond (Z0o r4.e (.exit 0))
  ((Z09 r4.h r4.df).bind fun h5 =>
  some ⟨.ret,[.tuple #[r4.v 2,(.int .i64 0)]],h5,(r4.c + 1),[]⟩)
  (none))
 else none)
theorem Zom (o:Orc H) (t0 t1:Value) (h:H) (c:Nat):jx P o 40 none f31_c (Z0f (List.range 2) [t0,t1]) h c [] (Kfn P Try.f31.results.toList) = ZqT o t0 t1 h c:=by kernel_rfl
theorem f31_go {t0 t1:Value} {h:FH} {c:Nat} {df:List Nat} {r:Rt FH} (e:ZqT G t0 t1 h c = some r):G (.fn 31) [t0,t1] h c df = some r:=Z0d (a:=Zol) bk_31 rfl (fun args h c=>by cases args <;> rfl) rfl ((Zom G t0 t1 h c).trans e)
noncomputable def Z8V (o:Orc H) (rd:Option Nat) (t1 t2 t6 t8 t9:Value) (h:H) (c:Nat) (df:List Nat):Option (Rt H) :=
 (Z11 t6).bind fun t25 =>
 (Z00 P .lss 3 t9 t25).bind fun t26 =>
 Z08 t26
 ((ixS 1 t6 t9).bind fun t32 =>
 (ld1 h t32).bind fun t33 =>
 (Z00 P .add 3 t8 t33).bind fun t34 =>
 (Z00 P .add 3 t9 (.int .i64 1)).bind fun t28 =>
 some ⟨.normal,[t1,t2,t6,t34,t28],h,(c + 1 + 1 + 1),df⟩)
 (some ⟨(.exit 0),[t1,t2,t6,t8,t9],h,(c + 1),df⟩)
theorem Z7A (o:Orc H) (rd:Option Nat) (t1 t2 t6 t8 t9:Value) (h:H) (c:Nat) (df:List Nat):jx P o 95 rd Z8R (Z0f [1,2,6,8,9] [t1,t2,t6,t8,t9]) h c df (Klp [1,2,6,8,9]) = Z8V o rd t1 t2 t6 t8 t9 h c df:=by kernel_rfl
noncomputable def Z8T (o:Orc H) (rd:Option Nat) (t1 t2 t8 t10 t11:Value) (h:H) (c:Nat) (df:List Nat):Option (Rt H) :=
 (Z00 P .lss 3 t11 (.int .i64 4)).bind fun t43 =>
 Z08 t43
 ((Z05 t2 0).bind fun t46 =>
 (ld1 h t46).bind fun t47 =>
 (ixS 20 t47 t10).bind fun t50 =>
 (ixA 4 5 t50 t11).bind fun t51 =>
 (ldN h 5 t51).bind fun t52 =>
 (stN (newB h (256 * (c + 1) + 7) [(.int .i64 0),(.int .i64 0),(.int .i64 0),(.int .i64 0),(.int .i64 0)]) 5 (ptrTo (256 * (c + 1) + 7)) t52).bind fun h1 =>
 (Z05 (ptrTo (256 * (c + 1) + 7)) 0).bind fun t53 =>
 (ld1 h1 t53).bind fun t54 =>
 (Z00 P .lss 3 t54 (.int .i64 0)).bind fun t55 =>
 (gd t55 false h1 (c + 1 + 1 + 1) (Z05 (ptrTo (256 * (c + 1) + 7)) 0)).bind fun r2 =>
 (gd t55 false r2.2.1 r2.2.2 (ld1 r2.2.1 r2.1)).bind fun r3 =>
 (gd t55 false r3.2.1 r3.2.2 (some t10)).bind fun r4 =>
 (gd t55 false r4.2.1 r4.2.2 (Z00 P .gtr 3 r3.1 r4.1)).bind fun r5 =>
 (Z0x t55 (.bool true) r5.1).bind fun t61 =>
 (gd t61 false r5.2.1 r5.2.2 (Z05 (ptrTo (256 * (c + 1) + 7)) 0)).bind fun r6 =>
 (gd t61 false r6.2.1 r6.2.2 (ld1 r6.2.1 r6.1)).bind fun r7 =>
 (gd t61 false r7.2.1 r7.2.2 (some t10)).bind fun r8 =>
 (gd t61 false r8.2.1 r8.2.2 (Z00 P .eql 3 r7.1 r8.1)).bind fun r9 =>
 (gd t61 false r9.2.1 r9.2.2 (some r9.1)).bind fun r10 =>
 (gd r10.1 true r10.2.1 r10.2.2 (some t11)).bind fun r11 =>
 (gd r10.1 true r11.2.1 r11.2.2 (Z05 (ptrTo (256 * (c + 1) + 7)) 1)).bind fun r12 =>
 (gd r10.1 true r12.2.1 r12.2.2 (ixA 4 1 r12.1 r11.1)).bind fun r13 =>
 (gd r10.1 true r13.2.1 r13.2.2 (ld1 r13.2.1 r13.1)).bind fun r14 =>
 (gd r10.1 true r14.2.1 r14.2.2 (some t11)).bind fun r15 =>
 (gd r10.1 true r15.2.1 r15.2.2 (Z00 P .gtr 3 r14.1 r15.1)).bind fun r16 =>
 (gg t61 false r16.2.1 r16.2.2 (ZaE r16.2.1 r16.2.2 r10.1 r16.1 (.bool false))).bind fun r17 =>
 (Z0x t61 (.bool true) r17.1).bind fun t75 =>
 (Z08 t75
  ((callF o 66 [t1,t10,t11] r17.2.1 (r17.2.2 + 1)).bind fun r18 =>
  (Z00 P .sub 3 t8 r18.1).bind fun t81 =>
  some ⟨.normal,[t1,t2,t81,t10,t11],r18.2.1,r18.2.2,df⟩)
  (some ⟨.normal,[t1,t2,t8,t10,t11],r17.2.1,r17.2.2,df⟩):Option (Rt H)).bind fun r20 =>
 cond (Z0o r20.e .normal)
  ((Z00 P .add 3 (r20.v 4) (.int .i64 1)).bind fun t45 =>
  some ⟨.normal,[r20.v 0,r20.v 1,r20.v 2,r20.v 3,t45],r20.h,(r20.c + 1),r20.df⟩)
  (none))
 (some ⟨(.exit 4),[t1,t2,t8,t10,t11],h,(c + 1),df⟩)
theorem Z7y (o:Orc H) (rd:Option Nat) (t1 t2 t8 t10 t11:Value) (h:H) (c:Nat) (df:List Nat):jx P o 95 rd Z8P (Z0f [1,2,8,10,11] [t1,t2,t8,t10,t11]) h c df (Klp [1,2,8,10,11]) = Z8T o rd t1 t2 t8 t10 t11 h c df:=by kernel_rfl
noncomputable def Z8U (o:Orc H) (rd:Option Nat) (t1 t2 t8 t10:Value) (h:H) (c:Nat) (df:List Nat):Option (Rt H) :=
 (Z05 t2 0).bind fun t36 =>
 (ld1 h t36).bind fun t37 =>
 (Z11 t37).bind fun t38 =>
 (Z00 P .lss 3 t10 t38).bind fun t39 =>
 Z08 t39
 ((o (Z6o rd) [t1,t2,t8,t10,(.int .i64 0)] h (c + 1 + 1) df).bind fun r0 =>
 cond (Z0o r0.e (.exit 4))
  ((Z00 P .add 3 (r0.v 3) (.int .i64 1)).bind fun t41 =>
  some ⟨.normal,[r0.v 0,r0.v 1,r0.v 2,t41],r0.h,(r0.c + 1),r0.df⟩)
  (none))
 (some ⟨(.exit 2),[t1,t2,t8,t10],h,(c + 1),df⟩)
theorem Z7z (o:Orc H) (rd:Option Nat) (t1 t2 t8 t10:Value) (h:H) (c:Nat) (df:List Nat):jx P o 95 rd Z8Q (Z0f [1,2,8,10] [t1,t2,t8,t10]) h c df (Klp [1,2,8,10]) = Z8U o rd t1 t2 t8 t10 h c df:=by kernel_rfl
noncomputable def Z8S (o:Orc H) (rd:Option Nat) (t1 t8 t13:Value) (h:H) (c:Nat) (df:List Nat):Option (Rt H) :=
 (Z11 t1).bind fun t84 =>
 (Z00 P .lss 3 t13 t84).bind fun t85 =>
 Z08 t85
 ((ixS 1 t1 t13).bind fun t91 =>
 (ld1 h t91).bind fun t92 =>
 (Z00 P .add 3 t8 t92).bind fun t93 =>
 (Z00 P .add 3 t13 (.int .i64 1)).bind fun t87 =>
 some ⟨.normal,[t1,t93,t87],h,(c + 1 + 1 + 1),df⟩)
 (some ⟨(.exit 6),[t1,t8,t13],h,(c + 1),df⟩)
theorem Z7x (o:Orc H) (rd:Option Nat) (t1 t8 t13:Value) (h:H) (c:Nat) (df:List Nat):jx P o 95 rd Z8O (Z0f [1,8,13] [t1,t8,t13]) h c df (Klp [1,8,13]) = Z8S o rd t1 t8 t13 h c df:=by kernel_rfl
noncomputable def ZqS (o:Orc H) (t0 t1:Value) (h:H) (c:Nat):Option (Rt H) :=
 (bif (t0:Value).cells.toList.all Z0e then
 (ldN (newB h (256 * c + 0) (t0:Value).cells.toList) 1 (ptrTo (256 * c + 0))).bind fun t15 =>
 (callF o 31 [t15,t1] (newB h (256 * c + 0) (t0:Value).cells.toList) (c + 1 + 1)).bind fun r0 =>
 (Z1E r0.1 0).bind fun t18 =>
 (Z1E r0.1 1).bind fun t19 =>
 (Z00 P .neq 27 t19 (.int .i64 0)).bind fun t21 =>
 Z08 t21
 (some ⟨.ret,[.tuple #[(.int .i64 0),t19]],r0.2.1,(r0.2.2 + 1 + 1),[]⟩)
 ((o (ZbQ none) [t1,(ptrTo (256 * c + 0)),t18,(.int .i64 0),(.int .i64 0)] r0.2.1 (r0.2.2 + 1 + 1 + 1) []).bind fun r1 =>
 cond (Z0o r1.e (.exit 0))
  ((o (ZbP none) [r1.v 0,r1.v 1,r1.v 3,(.int .i64 0)] r1.h (r1.c + 1) r1.df).bind fun r2 =>
  cond (Z0o r2.e (.exit 2))
   ((o (ZbO none) [r2.v 0,r2.v 2,(.int .i64 0)] r2.h (r2.c + 1) r2.df).bind fun r3 =>
   cond (Z0o r3.e (.exit 6))
    ((Z09 r3.h r3.df).bind fun h4 =>
    some ⟨.ret,[.tuple #[r3.v 1,(.int .i64 0)]],h4,(r3.c + 1),[]⟩)
    (none))
   (none))
  (none))
 else none)
theorem Zok (o:Orc H) (t0 t1:Value) (h:H) (c:Nat):jx P o 95 none f32_c (Z0f (List.range 2) [t0,t1]) h c [] (Kfn P Try.f32.results.toList) = ZqS o t0 t1 h c:=by kernel_rfl
theorem f32_go {t0 t1:Value} {h:FH} {c:Nat} {df:List Nat} {r:Rt FH} (e:ZqS G t0 t1 h c = some r):G (.fn 32) [t0,t1] h c df = some (gcR h c [] r):=Z0d (a:=Zoj) bk_32 rfl (fun args h c=>by cases args <;> rfl) rfl ((Zok G t0 t1 h c).trans e)
noncomputable def Z8N (o:Orc H) (rd:Option Nat) (t0 t1 t5 t6:Value) (h:H) (c:Nat) (df:List Nat):Option (Rt H) :=
 (Z11 t0).bind fun t9 =>
 (Z00 P .lss 3 t6 t9).bind fun t10 =>
 Z08 t10
 ((ixS 1 t0 t6).bind fun t16 =>
 (ld1 h t16).bind fun t17 =>
 (ixS 1 t1 t6).bind fun t20 =>
 (ld1 h t20).bind fun t21 =>
 (Z00 P .mul 3 t17 t21).bind fun t22 =>
 (Z00 P .add 3 t5 t22).bind fun t23 =>
 (Z00 P .add 3 t6 (.int .i64 1)).bind fun t12 =>
 some ⟨.normal,[t0,t1,t23,t12],h,(c + 1 + 1 + 1),df⟩)
 (some ⟨(.exit 0),[t0,t1,t5,t6],h,(c + 1),df⟩)
theorem Z7w (o:Orc H) (rd:Option Nat) (t0 t1 t5 t6:Value) (h:H) (c:Nat) (df:List Nat):jx P o 25 rd Z8M (Z0f [0,1,5,6] [t0,t1,t5,t6]) h c df (Klp [0,1,5,6]) = Z8N o rd t0 t1 t5 t6 h c df:=by kernel_rfl
noncomputable def ZqR (o:Orc H) (t0 t1:Value) (h:H) (c:Nat):Option (Rt H) :=
 (o (ZbN none) [t0,t1,(.int .i64 0),(.int .i64 0)] h (c + 1 + 1 + 1) []).bind fun r0 =>
 cond (Z0o r0.e (.exit 0))
 ((Z09 r0.h r0.df).bind fun h1 =>
 some ⟨.ret,[r0.v 2],h1,(r0.c + 1),[]⟩)
 (none)
theorem Zoi (o:Orc H) (t0 t1:Value) (h:H) (c:Nat):jx P o 25 none f33_c (Z0f (List.range 2) [t0,t1]) h c [] (Kfn P Try.f33.results.toList) = ZqR o t0 t1 h c:=by kernel_rfl
theorem f33_go {t0 t1:Value} {h:FH} {c:Nat} {df:List Nat} {r:Rt FH} (e:ZqR G t0 t1 h c = some r):G (.fn 33) [t0,t1] h c df = some (gcR h c [] r):=Z0d (a:=Zoh) bk_33 rfl (fun args h c=>by cases args <;> rfl) rfl ((Zoi G t0 t1 h c).trans e)
noncomputable def Z8J (o:Orc H) (rd:Option Nat) (t2 t3 t4 t5 t7 t8 t9 t10 t11 t14:Value) (h:H) (c:Nat) (df:List Nat):Option (Rt H) :=
 (Z00 P .lss 3 t14 (.int .i64 4)).bind fun t92 =>
 Z08 t92
 ((Z00 P .add 3 t8 (.int .i64 1)).bind fun t97 =>
 (ixS 1 t4 t97).bind fun t98 =>
 (ld1 h t98).bind fun t99 =>
 (Zia t99 t14).bind fun t101 =>
 (Z00 P .lss 5 t101 (.int .u8 48)).bind fun t103 =>
 (gd t103 false h (c + 1 + 1 + 1) (some t101)).bind fun r0 =>
 (gd t103 false r0.2.1 r0.2.2 (Z00 P .gtr 5 r0.1 (.int .u8 57))).bind fun r1 =>
 (Z0x t103 (.bool true) r1.1).bind fun t107 =>
 Z08 t107
  ((Z4f [(.slice none 0 0)] []).bind fun t108 =>
  (stN r1.2.1 1 t2 t108).bind fun h3 =>
  some ⟨.ret,[t2,(.int .i64 4),t4,t5,t7,t8,t9,t10,t11,t14],h3,(r1.2.2 + 1),df⟩)
  ((Z00 P .sub 5 t101 (.int .u8 48)).bind fun t112 =>
  (cnvI .i64 t112).bind fun t113 =>
  (ixA 4 5 t10 t11).bind fun t114 =>
  (Z05 t114 1).bind fun t115 =>
  (ixA 4 1 t115 t14).bind fun t116 =>
  (stN r1.2.1 1 t116 t113).bind fun h6 =>
  (Z00 P .add 3 t14 (.int .i64 1)).bind fun t94 =>
  some ⟨.normal,[t2,t3,t4,t5,t7,t8,t9,t10,t11,t94],h6,(r1.2.2 + 1 + 1),df⟩))
 (some ⟨(.exit 4),[t2,t3,t4,t5,t7,t8,t9,t10,t11,t14],h,(c + 1),df⟩)
theorem Zd0 (o:Orc H) (rd:Option Nat) (t2 t3 t4 t5 t7 t8 t9 t10 t11 t14:Value) (h:H) (c:Nat) (df:List Nat):jx P o 135 rd Z3y (Z0f [2,3,4,5,7,8,9,10,11,14] [t2,t3,t4,t5,t7,t8,t9,t10,t11,t14]) h c df (Klp [2,3,4,5,7,8,9,10,11,14]) = Z8J o rd t2 t3 t4 t5 t7 t8 t9 t10 t11 t14 h c df:=by kernel_rfl
noncomputable def Z8K (o:Orc H) (rd:Option Nat) (t2 t3 t4 t5 t7 t8 t9 t10 t11:Value) (h:H) (c:Nat) (df:List Nat):Option (Rt H) :=
 (Z00 P .lss 3 t11 (.int .i64 4)).bind fun t42 =>
 Z08 t42
 (((Z11 t4).bind fun t47 =>
  (Z00 P .geq 3 t8 t47).bind fun t48 =>
  Z08 t48
   ((Z4f [(.slice none 0 0)] []).bind fun t49 =>
   (stN h 1 t2 t49).bind fun h1 =>
   some ⟨.ret,[t2,(.int .i64 4),t4,t5,t7,t8,t9,t10,t11],h1,(c + 1 + 1 + 1),df⟩)
   ((ixS 1 t4 t8).bind fun t52 =>
   (ld1 h t52).bind fun t53 =>
   (Z00 P .eql 9 t53 (.string (ByteArray.mk #[45]))).bind fun t54 =>
   Z08 t54
    ((ixA 4 5 t10 t11).bind fun t56 =>
    (Z05 t56 0).bind fun t57 =>
    (stN h 1 t57 (.int .i64 (-1))).bind fun h4 =>
    (Z00 P .add 3 t8 (.int .i64 1)).bind fun t59 =>
    some ⟨.normal,[t2,t3,t4,t5,t7,t59,t9,t10,t11],h4,(c + 1 + 1 + 1 + 1 + 1),df⟩)
    ((ixS 1 t4 t8).bind fun t63 =>
    (ld1 h t63).bind fun t64 =>
    (callF o 69 [t64] h (c + 1 + 1 + 1 + 1)).bind fun r6 =>
    (Z1E r6.1 0).bind fun t66 =>
    (Z1E r6.1 1).bind fun t67 =>
    (Z1A .not t67).bind fun t69 =>
    (gd t69 false r6.2.1 (r6.2.2 + 1) (some t8)).bind fun r7 =>
    (gd t69 false r7.2.1 r7.2.2 (Z00 P .add 3 r7.1 (.int .i64 1))).bind fun r8 =>
    (gd t69 false r8.2.1 r8.2.2 (some t4)).bind fun r9 =>
    (gg t69 false r9.2.1 r9.2.2 (((Z11 r9.1).bind fun v=>some (v,r9.2.1)).bind fun r=>some (r.1,r.2,r9.2.2))).bind fun r10 =>
    (gd t69 false r10.2.1 r10.2.2 (Z00 P .geq 3 r8.1 r10.1)).bind fun r11 =>
    (Z0x t69 (.bool true) r11.1).bind fun t76 =>
    (gd t76 false r11.2.1 r11.2.2 (some t4)).bind fun r12 =>
    (gd t76 false r12.2.1 r12.2.2 (some t8)).bind fun r13 =>
    (gd t76 false r13.2.1 r13.2.2 (Z00 P .add 3 r13.1 (.int .i64 1))).bind fun r14 =>
    (gd t76 false r14.2.1 r14.2.2 (ixS 1 r12.1 r14.1)).bind fun r15 =>
    (gd t76 false r15.2.1 r15.2.2 (ld1 r15.2.1 r15.1)).bind fun r16 =>
    (gg t76 false r16.2.1 r16.2.2 (((Zj4 P r16.2.1 9 r16.1).bind fun v=>some (v,r16.2.1)).bind fun r=>some (r.1,r.2,r16.2.2))).bind fun r17 =>
    (gd t76 false r17.2.1 r17.2.2 (Z00 P .neq 3 r17.1 (.int .i64 4))).bind fun r18 =>
    (Z0x t76 (.bool true) r18.1).bind fun t85 =>
    Z08 t85
     ((Z4f [(.slice none 0 0)] []).bind fun t86 =>
     (stN r18.2.1 1 t2 t86).bind fun h20 =>
     some ⟨.ret,[t2,(.int .i64 4),t4,t5,t7,t8,t9,t10,t11],h20,(r18.2.2 + 1),df⟩)
     ((ixA 4 5 t10 t11).bind fun t89 =>
     (Z05 t89 0).bind fun t90 =>
     (stN r18.2.1 1 t90 t66).bind fun h23 =>
     (o (ZiF rd) [t2,t3,t4,t5,t7,t8,t9,t10,t11,(.int .i64 0)] h23 (r18.2.2 + 1 + 1) df).bind fun r24 =>
     cond (Z0o r24.e (.exit 4))
      ((Z00 P .add 3 (r24.v 5) (.int .i64 2)).bind fun t118 =>
      some ⟨.normal,[r24.v 0,r24.v 1,r24.v 2,r24.v 3,r24.v 4,t118,r24.v 6,r24.v 7,r24.v 8],r24.h,(r24.c + 1),r24.df⟩)
      (cond (Z0o r24.e .ret)
       (some ⟨.ret,[r24.v 0,r24.v 1,r24.v 2,r24.v 3,r24.v 4,r24.v 5,r24.v 6,r24.v 7,r24.v 8],r24.h,r24.c,r24.df⟩)
       (none))))):Option (Rt H)).bind fun r26 =>
 cond (Z0o r26.e .ret)
  (some ⟨.ret,[r26.v 0,r26.v 1,r26.v 2,r26.v 3,r26.v 4,r26.v 5,r26.v 6,r26.v 7,r26.v 8],r26.h,r26.c,r26.df⟩)
  (cond (Z0o r26.e .normal)
   ((Z00 P .add 3 (r26.v 8) (.int .i64 1)).bind fun t44 =>
   some ⟨.normal,[r26.v 0,r26.v 1,r26.v 2,r26.v 3,r26.v 4,r26.v 5,r26.v 6,r26.v 7,t44],r26.h,(r26.c + 1),r26.df⟩)
   (none)))
 (some ⟨(.exit 2),[t2,t3,t4,t5,t7,t8,t9,t10,t11],h,(c + 1),df⟩)
theorem Zd1 (o:Orc H) (rd:Option Nat) (t2 t3 t4 t5 t7 t8 t9 t10 t11:Value) (h:H) (c:Nat) (df:List Nat):jx P o 135 rd Z3z (Z0f [2,3,4,5,7,8,9,10,11] [t2,t3,t4,t5,t7,t8,t9,t10,t11]) h c df (Klp [2,3,4,5,7,8,9,10,11]) = Z8K o rd t2 t3 t4 t5 t7 t8 t9 t10 t11 h c df:=by kernel_rfl
noncomputable def Z8L (o:Orc H) (rd:Option Nat) (t2 t3 t4 t5 t7 t8 t9:Value) (h:H) (c:Nat) (df:List Nat):Option (Rt H) :=
 (Z00 P .lss 3 t9 t5).bind fun t38 =>
 Z08 t38
 ((o (ZiG rd) [t2,t3,t4,t5,t7,t8,t9,(ptrTo (256 * (c + 1) + 0)),(.int .i64 0)] (newB h (256 * (c + 1) + 0) [(.int .i64 0),(.int .i64 0),(.int .i64 0),(.int .i64 0),(.int .i64 0),(.int .i64 0),(.int .i64 0),(.int .i64 0),(.int .i64 0),(.int .i64 0),(.int .i64 0),(.int .i64 0),(.int .i64 0),(.int .i64 0),(.int .i64 0),(.int .i64 0),(.int .i64 0),(.int .i64 0),(.int .i64 0),(.int .i64 0)]) (c + 1 + 1 + 1) df).bind fun r0 =>
 cond (Z0o r0.e (.exit 2))
  ((Z05 (r0.v 4) 0).bind fun t119 =>
  (ld1 r0.h t119).bind fun t120 =>
  (ldN r0.h 20 (r0.v 7)).bind fun t121 =>
  (Z48 [(.int .i64 0),(.int .i64 0),(.int .i64 0),(.int .i64 0),(.int .i64 0),(.int .i64 0),(.int .i64 0),(.int .i64 0),(.int .i64 0),(.int .i64 0),(.int .i64 0),(.int .i64 0),(.int .i64 0),(.int .i64 0),(.int .i64 0),(.int .i64 0),(.int .i64 0),(.int .i64 0),(.int .i64 0),(.int .i64 0)] [(0,20,t121)]).bind fun r1 =>
  (Zde (newB r0.h (256 * r0.c + 3) r1) (256 * r0.c + 4) 20 160 t120 (.slice (some ⟨(256 * r0.c + 3),0,none⟩) 1 1)).bind fun r2 =>
  (Z05 (r0.v 4) 0).bind fun t124 =>
  (stN r2.2 1 t124 r2.1).bind fun h4 =>
  (Z00 P .add 3 (r0.v 6) (.int .i64 1)).bind fun t40 =>
  some ⟨.normal,[r0.v 0,r0.v 1,r0.v 2,r0.v 3,r0.v 4,r0.v 5,t40],h4,(r0.c + 1 + 1),r0.df⟩)
  (cond (Z0o r0.e .ret)
   (some ⟨.ret,[r0.v 0,r0.v 1,r0.v 2,r0.v 3,r0.v 4,r0.v 5,r0.v 6],r0.h,r0.c,r0.df⟩)
   (none)))
 (some ⟨(.exit 0),[t2,t3,t4,t5,t7,t8,t9],h,(c + 1),df⟩)
theorem Zd2 (o:Orc H) (rd:Option Nat) (t2 t3 t4 t5 t7 t8 t9:Value) (h:H) (c:Nat) (df:List Nat):jx P o 135 rd Z3A (Z0f [2,3,4,5,7,8,9] [t2,t3,t4,t5,t7,t8,t9]) h c df (Klp [2,3,4,5,7,8,9]) = Z8L o rd t2 t3 t4 t5 t7 t8 t9 h c df:=by kernel_rfl
noncomputable def ZqQ (o:Orc H) (t0:Value) (h:H) (c:Nat):Option (Rt H) :=
 (Zj4 P (newB h (256 * c + 0) [(.slice none 0 0)]) 9 t0).bind fun t17 =>
 (Z00 P .gtr 3 t17 (.int .i64 200000)).bind fun t18 =>
 Z08 t18
 ((Z4f [(.slice none 0 0)] []).bind fun t19 =>
 (stN (newB h (256 * c + 0) [(.slice none 0 0)]) 1 (ptrTo (256 * c + 0)) t19).bind fun h1 =>
 (ldN h1 1 (ptrTo (256 * c + 0))).bind fun v2 =>
 some ⟨.ret,[.tuple #[v2,(.int .i64 2)]],h1,(c + 1 + 1 + 1),[]⟩)
 ((callF o 68 [t0] (newB h (256 * c + 0) [(.slice none 0 0)]) (c + 1 + 1 + 1)).bind fun r3 =>
 (Z11 r3.1).bind fun t23 =>
 (Z00 P .eql 3 t23 (.int .i64 0)).bind fun t24 =>
 Z08 t24
  ((Z4f [(.slice none 0 0)] []).bind fun t25 =>
  (stN r3.2.1 1 (ptrTo (256 * c + 0)) t25).bind fun h5 =>
  (ldN h5 1 (ptrTo (256 * c + 0))).bind fun v6 =>
  some ⟨.ret,[.tuple #[v6,(.int .i64 4)]],h5,(r3.2.2 + 1 + 1),[]⟩)
  ((ixS 1 r3.1 (.int .i64 0)).bind fun t28 =>
  (ld1 r3.2.1 t28).bind fun t29 =>
  (callF o 69 [t29] r3.2.1 (r3.2.2 + 1 + 1)).bind fun r7 =>
  (Z1E r7.1 0).bind fun t31 =>
  (Z1E r7.1 1).bind fun t32 =>
  (Z1A .not t32).bind fun t34 =>
  Z08 t34
   ((Z4f [(.slice none 0 0)] []).bind fun t35 =>
   (stN r7.2.1 1 (ptrTo (256 * c + 0)) t35).bind fun h9 =>
   (ldN h9 1 (ptrTo (256 * c + 0))).bind fun v10 =>
   some ⟨.ret,[.tuple #[v10,(.int .i64 4)]],h9,(r7.2.2 + 1 + 1),[]⟩)
   ((o (ZiH none) [(ptrTo (256 * c + 0)),(.int .i64 0),r3.1,t31,(ptrTo (256 * (r7.2.2 + 1) + 0)),(.int .i64 1),(.int .i64 0)] (newB r7.2.1 (256 * (r7.2.2 + 1) + 0) [(.slice none 0 0)]) (r7.2.2 + 1 + 1 + 1 + 1) []).bind fun r11 =>
   cond (Z0o r11.e (.exit 0))
    ((Z11 (r11.v 2)).bind fun t127 =>
    (Z00 P .neq 3 (r11.v 5) t127).bind fun t128 =>
    Z08 t128
     ((Z4f [(.slice none 0 0)] []).bind fun t129 =>
     (stN r11.h 1 (r11.v 0) t129).bind fun h15 =>
     (Z09 h15 r11.df).bind fun h16 =>
     (ldN h16 1 (r11.v 0)).bind fun v17 =>
     some ⟨.ret,[.tuple #[v17,(.int .i64 4)]],h16,(r11.c + 1 + 1),[]⟩)
     ((ldN r11.h 1 (r11.v 4)).bind fun t130 =>
     (callF o 13 [t130] r11.h (r11.c + 1 + 1)).bind fun r18 =>
     (Z00 P .neq 27 r18.1 (.int .i64 0)).bind fun t132 =>
     Z08 t132
      ((Z4f [(.slice none 0 0)] []).bind fun t133 =>
      (stN r18.2.1 1 (r11.v 0) t133).bind fun h20 =>
      (Z09 h20 r11.df).bind fun h21 =>
      (ldN h21 1 (r11.v 0)).bind fun v22 =>
      some ⟨.ret,[.tuple #[v22,(.int .i64 7)]],h21,(r18.2.2 + 1),[]⟩)
      ((ldN r18.2.1 1 (r11.v 4)).bind fun t134 =>
      (stN r18.2.1 1 (r11.v 0) t134).bind fun h24 =>
      (Z09 h24 r11.df).bind fun h25 =>
      (ldN h25 1 (r11.v 0)).bind fun v26 =>
      some ⟨.ret,[.tuple #[v26,(.int .i64 0)]],h25,(r18.2.2 + 1),[]⟩)))
    (cond (Z0o r11.e .ret)
     ((Z09 r11.h r11.df).bind fun h12 =>
     (ldN h12 1 (r11.v 0)).bind fun v13 =>
     some ⟨.ret,[.tuple #[v13,r11.v 1]],h12,r11.c,[]⟩)
     (none)))))
theorem Zog (o:Orc H) (t0:Value) (h:H) (c:Nat):jx P o 135 none f40_c (Z0f (List.range 1) [t0]) h c [] (Kfn P Try.f40.results.toList) = ZqQ o t0 h c:=by kernel_rfl
end Go.Proofs.Ytcnndelmnobigaa

namespace Go.Proofs.Ytcnndelmnobigaa
open Go Go.Ab Go.Proofs
variable {H:Type} [HeapC H]
noncomputable def Z1e (o:Orc H) (rd:Option Nat) (t1 t2 t3 t4:Value) (h:H) (c:Nat) (df:List Nat):Option (Rt H) :=
 (Z00 P .lss 3 t4 (.int .i64 4)).bind fun t6 =>
 Z08 t6
 ((ixA 4 1 t1 t4).bind fun t10 =>
 (ld1 h t10).bind fun t11 =>
 (Z00 P .lss 3 t11 (.int .i64 0)).bind fun t12 =>
 (gd t12 false h (c + 1 + 1) (some t4)).bind fun r0 =>
 (gd t12 false r0.2.1 r0.2.2 (ixA 4 1 t1 r0.1)).bind fun r1 =>
 (gd t12 false r1.2.1 r1.2.2 (ld1 r1.2.1 r1.1)).bind fun r2 =>
 (gd t12 false r2.2.1 r2.2.2 (Z00 P .gtr 3 r2.1 (.int .i64 3))).bind fun r3 =>
 (Z0x t12 (.bool true) r3.1).bind fun t18 =>
 (gd t18 false r3.2.1 r3.2.2 (some t4)).bind fun r4 =>
 (gd t18 false r4.2.1 r4.2.2 (ixA 4 1 t1 r4.1)).bind fun r5 =>
 (gd t18 false r5.2.1 r5.2.2 (ld1 r5.2.1 r5.1)).bind fun r6 =>
 (gd t18 false r6.2.1 r6.2.2 (ixA 4 1 t3 r6.1)).bind fun r7 =>
 (gd t18 false r7.2.1 r7.2.2 (ld1 r7.2.1 r7.1)).bind fun r8 =>
 (Z0x t18 (.bool true) r8.1).bind fun t25 =>
 Z08 t25
  (some ⟨.ret,[t1,(.bool false),t3,t4],r8.2.1,(r8.2.2 + 1),df⟩)
  ((ixA 4 1 t1 t4).bind fun t27 =>
  (ld1 r8.2.1 t27).bind fun t28 =>
  (ixA 4 1 t3 t28).bind fun t29 =>
  (stN r8.2.1 1 t29 (.bool true)).bind fun h11 =>
  (Z00 P .add 3 t4 (.int .i64 1)).bind fun t8 =>
  some ⟨.normal,[t1,t2,t3,t8],h11,(r8.2.2 + 1 + 1),df⟩))
 (some ⟨(.exit 0),[t1,t2,t3,t4],h,(c + 1),df⟩)
theorem Z5s (o:Orc H) (rd:Option Nat) (t1 t2 t3 t4:Value) (h:H) (c:Nat) (df:List Nat):jx P o 30 rd Z3x (Z0f [1,2,3,4] [t1,t2,t3,t4]) h c df (Klp [1,2,3,4]) = Z1e o rd t1 t2 t3 t4 h c df:=by kernel_rfl
noncomputable def ZkO (o:Orc H) (t0:Value) (h:H) (c:Nat):Option (Rt H) :=
 (bif (t0:Value).cells.toList.all Z0e then
 (o (Z4L none) [(ptrTo (256 * c + 0)),(.bool false),(ptrTo (256 * (c + 1) + 0)),(.int .i64 0)] (newB (newB h (256 * c + 0) (t0:Value).cells.toList) (256 * (c + 1) + 0) [(.bool false),(.bool false),(.bool false),(.bool false)]) (c + 1 + 1 + 1) []).bind fun r0 =>
 cond (Z0o r0.e (.exit 0))
 ((Z09 r0.h r0.df).bind fun h2 =>
 some ⟨.ret,[(.bool true)],h2,(r0.c + 1),[]⟩)
 (cond (Z0o r0.e .ret)
  ((Z09 r0.h r0.df).bind fun h1 =>
  some ⟨.ret,[r0.v 1],h1,r0.c,[]⟩)
  (none))
 else none)
theorem Zhu (o:Orc H) (t0:Value) (h:H) (c:Nat):jx P o 30 none f41_c (Z0f (List.range 1) [t0]) h c [] (Kfn P Try.f41.results.toList) = ZkO o t0 h c:=by kernel_rfl
theorem f41_go {t0:Value} {h:FH} {c:Nat} {df:List Nat} {r:Rt FH} (e:ZkO G t0 h c = some r):G (.fn 41) [t0] h c df = some (gcR h c [] r):=Z0d (a:=Zfi) bk_41 rfl (fun args h c=>by cases args <;> rfl) rfl ((Zhu G t0 h c).trans e)
theorem ZiE {rd:Option Nat} {t1 t2 t3 t4:Value} {h:FH} {c:Nat} {df:List Nat} {q r:Rt FH} (e:Z1e G rd t1 t2 t3 t4 h c df = some q) (hq:q.e = .normal) (k:G (Z4L rd) q.vs (gcR h c df q).h (gcR h c df q).c q.df = some r):G (Z4L rd) [t1,t2,t3,t4] h c df = some r:=Z0L ((Z5s G rd t1 t2 t3 t4 h c df).trans e) hq k
theorem Z6n {rd:Option Nat} {t1 t2 t3 t4:Value} {h:FH} {c:Nat} {df:List Nat} {q:Rt FH} (e:Z1e G rd t1 t2 t3 t4 h c df = some q) (hq:q.e ≠ .normal):G (Z4L rd) [t1,t2,t3,t4] h c df = some (gcR h c df q):=Z0M ((Z5s G rd t1 t2 t3 t4 h c df).trans e) hq
noncomputable def Z2r (o:Orc H) (rd:Option Nat) (t1 t2 t3 t4:Value) (h:H) (c:Nat) (df:List Nat):Option (Rt H) :=
 (Z00 P .lss 3 t4 (.int .i64 4)).bind fun t10 =>
 Z08 t10
 ((ixA 4 1 t1 t4).bind fun t14 =>
 (ld1 h t14).bind fun t15 =>
 (ixA 4 1 t3 t15).bind fun t17 =>
 (stN h 1 t17 t4).bind fun h1 =>
 (Z00 P .add 3 t4 (.int .i64 1)).bind fun t12 =>
 some ⟨.normal,[t1,t2,t3,t12],h1,(c + 1 + 1 + 1),df⟩)
 (some ⟨(.exit 0),[t1,t2,t3,t4],h,(c + 1),df⟩)
theorem Z5r (o:Orc H) (rd:Option Nat) (t1 t2 t3 t4:Value) (h:H) (c:Nat) (df:List Nat):jx P o 19 rd Z3w (Z0f [1,2,3,4] [t1,t2,t3,t4]) h c df (Klp [1,2,3,4]) = Z2r o rd t1 t2 t3 t4 h c df:=by kernel_rfl
noncomputable def ZkN (o:Orc H) (t0:Value) (h:H) (c:Nat):Option (Rt H) :=
 (bif (t0:Value).cells.toList.all Z0e then
 (ldN (newB (newB (newB h (256 * c + 0) (t0:Value).cells.toList) (256 * c + 1) [(.int .i64 0),(.int .i64 0),(.int .i64 0),(.int .i64 0)]) (256 * (c + 1) + 0) [(.int .i64 0),(.int .i64 0),(.int .i64 0),(.int .i64 0)]) 4 (ptrTo (256 * c + 0))).bind fun t5 =>
 (callF o 41 [t5] (newB (newB (newB h (256 * c + 0) (t0:Value).cells.toList) (256 * c + 1) [(.int .i64 0),(.int .i64 0),(.int .i64 0),(.int .i64 0)]) (256 * (c + 1) + 0) [(.int .i64 0),(.int .i64 0),(.int .i64 0),(.int .i64 0)]) (c + 1 + 1 + 1)).bind fun r0 =>
 (Z1A .not r0.1).bind fun t7 =>
 Z08 t7
 ((ldN r0.2.1 4 (ptrTo (256 * (c + 1) + 0))).bind fun t8 =>
 (stN r0.2.1 4 (ptrTo (256 * c + 1)) t8).bind fun h2 =>
 (ldN h2 4 (ptrTo (256 * c + 1))).bind fun v3 =>
 some ⟨.ret,[v3],h2,(r0.2.2 + 1),[]⟩)
 ((o (Z4K none) [(ptrTo (256 * c + 0)),(ptrTo (256 * c + 1)),(ptrTo (256 * (c + 1) + 0)),(.int .i64 0)] r0.2.1 (r0.2.2 + 1) []).bind fun r4 =>
 cond (Z0o r4.e (.exit 0))
  ((ldN r4.h 4 (r4.v 2)).bind fun t18 =>
  (stN r4.h 4 (r4.v 1) t18).bind fun h6 =>
  (Z09 h6 r4.df).bind fun h7 =>
  (ldN h7 4 (r4.v 1)).bind fun v8 =>
  some ⟨.ret,[v8],h7,(r4.c + 1),[]⟩)
  (none))
 else none)
theorem Zht (o:Orc H) (t0:Value) (h:H) (c:Nat):jx P o 19 none f42_c (Z0f (List.range 1) [t0]) h c [] (Kfn P Try.f42.results.toList) = ZkN o t0 h c:=by kernel_rfl
theorem f42_go {t0:Value} {h:FH} {c:Nat} {df:List Nat} {r:Rt FH} (e:ZkN G t0 h c = some r):G (.fn 42) [t0] h c df = some (gcR h c [] r):=Z0d (a:=Zfh) bk_42 rfl (fun args h c=>by cases args <;> rfl) rfl ((Zht G t0 h c).trans e)
theorem ZiD {rd:Option Nat} {t1 t2 t3 t4:Value} {h:FH} {c:Nat} {df:List Nat} {q r:Rt FH} (e:Z2r G rd t1 t2 t3 t4 h c df = some q) (hq:q.e = .normal) (k:G (Z4K rd) q.vs (gcR h c df q).h (gcR h c df q).c q.df = some r):G (Z4K rd) [t1,t2,t3,t4] h c df = some r:=Z0L ((Z5r G rd t1 t2 t3 t4 h c df).trans e) hq k
theorem ZiC {rd:Option Nat} {t1 t2 t3 t4:Value} {h:FH} {c:Nat} {df:List Nat} {q:Rt FH} (e:Z2r G rd t1 t2 t3 t4 h c df = some q) (hq:q.e ≠ .normal):G (Z4K rd) [t1,t2,t3,t4] h c df = some (gcR h c df q):=Z0M ((Z5r G rd t1 t2 t3 t4 h c df).trans e) hq
noncomputable def ZkM (o:Orc H) (t0:Value) (h:H) (c:Nat):Option (Rt H) :=
 (bif (t0:Value).cells.toList.all Z0e then
 (ldN (newB h (256 * c + 0) (t0:Value).cells.toList) 1 (ptrTo (256 * c + 0))).bind fun t4 =>
 (callF o 70 [t4] (newB h (256 * c + 0) (t0:Value).cells.toList) (c + 1 + 1)).bind fun r0 =>
 (Z00 P .neq 27 r0.1 (.int .i64 0)).bind fun t6 =>
 Z08 t6
 (some ⟨.ret,[(.int .i64 7)],r0.2.1,(r0.2.2 + 1),[]⟩)
 ((Z05 (ptrTo (256 * c + 0)) 0).bind fun t8 =>
 (ld1 r0.2.1 t8).bind fun t9 =>
 (Z11 t9).bind fun t10 =>
 (Z00 P .gtr 3 t10 (.int .i64 60)).bind fun t11 =>
 Z08 t11
  (some ⟨.ret,[(.int .i64 2)],r0.2.1,(r0.2.2 + 1 + 1),[]⟩)
  (some ⟨.ret,[(.int .i64 0)],r0.2.1,(r0.2.2 + 1 + 1),[]⟩))
 else none)
theorem Zhs (o:Orc H) (t0:Value) (h:H) (c:Nat):jx P o 12 none f43_c (Z0f (List.range 1) [t0]) h c [] (Kfn P Try.f43.results.toList) = ZkM o t0 h c:=by kernel_rfl
theorem f43_go {t0:Value} {h:FH} {c:Nat} {df:List Nat} {r:Rt FH} (e:ZkM G t0 h c = some r):G (.fn 43) [t0] h c df = some (gcR h c [] r):=Z0d (a:=Zff) bk_43 rfl (fun args h c=>by cases args <;> rfl) rfl ((Zhs G t0 h c).trans e)
noncomputable def Z2q (o:Orc H) (rd:Option Nat) (t6 t7 t8 t52:Value) (h:H) (c:Nat) (df:List Nat):Option (Rt H) :=
 (Z00 P .lss 3 t52 (.int .i64 4)).bind fun t53 =>
 Z08 t53
 ((Z05 t7 1).bind fun t56 =>
 (ld1 h t56).bind fun t57 =>
 (Z00 P .neq 3 t52 t57).bind fun t58 =>
 (gd t58 true h (c + 1 + 1 + 1) (some t52)).bind fun r0 =>
 (gd t58 true r0.2.1 r0.2.2 (Z05 t7 2)).bind fun r1 =>
 (gd t58 true r1.2.1 r1.2.2 (ld1 r1.2.1 r1.1)).bind fun r2 =>
 (gd t58 true r2.2.1 r2.2.2 (Z00 P .neq 3 r0.1 r2.1)).bind fun r3 =>
 (Z0x t58 r3.1 (.bool false)).bind fun t64 =>
 (Z08 t64
  ((ld1 r3.2.1 t6).bind fun t65 =>
  (Z0y t65).bind fun t66 =>
  (Z05 t66 0).bind fun t67 =>
  (Z05 t7 0).bind fun t68 =>
  (ld1 r3.2.1 t68).bind fun t69 =>
  (Z00 P .mul 3 (.int .i64 6) t69).bind fun t70 =>
  (Z05 t7 2).bind fun t71 =>
  (ld1 r3.2.1 t71).bind fun t72 =>
  (callF o 73 [t72,t52] r3.2.1 (r3.2.2 + 1)).bind fun r4 =>
  (Z00 P .add 3 t70 r4.1).bind fun t75 =>
  (Z05 t7 3).bind fun t76 =>
  (ld1 r4.2.1 t76).bind fun t77 =>
  (Z00 P .mul 3 (.int .i64 6) t77).bind fun t78 =>
  (Z05 t7 2).bind fun t79 =>
  (ld1 r4.2.1 t79).bind fun t80 =>
  (ixA 4 1 t8 t80).bind fun t81 =>
  (ld1 r4.2.1 t81).bind fun t82 =>
  (ixA 4 1 t8 t52).bind fun t84 =>
  (ld1 r4.2.1 t84).bind fun t85 =>
  (callF o 73 [t82,t85] r4.2.1 r4.2.2).bind fun r5 =>
  (Z00 P .add 3 t78 r5.1).bind fun t87 =>
  (callF o 72 [t67,t75,t87] r5.2.1 r5.2.2).bind fun r6 =>
  (bif (Z0Y (Z2f t6) r3.2.1 r4.2.1 && (Z0Y (Z2f t6) r4.2.1 r5.2.1 && (Z0Y (Z2f t68) r3.2.1 r4.2.1 && (Z0Y (Z2f t68) r4.2.1 r5.2.1 && (Z0Y (Z2f t76) r3.2.1 r4.2.1 && (Z0Y (Z2f t76) r4.2.1 r5.2.1 && (Z0Y (Z2f t79) r3.2.1 r4.2.1 && (Z0Y (Z2f t81) r3.2.1 r4.2.1 && (Z0Y (Z2f t84) r3.2.1 r4.2.1 && true))))))))) then
  some ⟨.normal,[t6,t7,t8,t52],r6.2.1,r6.2.2,df⟩
  else none))
  (some ⟨.normal,[t6,t7,t8,t52],r3.2.1,r3.2.2,df⟩):Option (Rt H)).bind fun r7 =>
 cond (Z0o r7.e .normal)
  ((Z00 P .add 3 (r7.v 3) (.int .i64 1)).bind fun t89 =>
  some ⟨.normal,[r7.v 0,r7.v 1,r7.v 2,t89],r7.h,(r7.c + 1),r7.df⟩)
  (none))
 (some ⟨(.exit 2),[t6,t7,t8,t52],h,(c + 1),df⟩)
theorem Z2c (o:Orc H) (rd:Option Nat) (t6 t7 t8 t52:Value) (h:H) (c:Nat) (df:List Nat):jx P o 92 rd Z3u (Z0f [6,7,8,52] [t6,t7,t8,t52]) h c df (Klp [6,7,8,52]) = Z2q o rd t6 t7 t8 t52 h c df:=by kernel_rfl
noncomputable def Z3v (o:Orc H) (l:Nat) (t25 t1 t5 t6:Value) (h:H) (c:Nat):Option (Rt H) :=
 (stN (newB h (256 * c + 0) [(.int .i64 0),(.int .i64 0),(.int .i64 0),(.int .i64 0),(.int .i64 0),(.int .i64 0)]) 6 (ptrTo (256 * c + 0)) t25).bind fun h1 =>
 (Z1D h1 l).bind fun h2 =>
 (ld1 h2 t5).bind fun t26 =>
 (Z0y t26).bind fun t27 =>
 (Z05 t27 0).bind fun t28 =>
 (Z05 (ptrTo (256 * c + 0)) 0).bind fun t29 =>
 (ld1 h2 t29).bind fun t30 =>
 (Z00 P .mul 3 (.int .i64 4) t30).bind fun t31 =>
 (Z05 (ptrTo (256 * c + 0)) 2).bind fun t32 =>
 (ld1 h2 t32).bind fun t33 =>
 (Z00 P .add 3 t31 t33).bind fun t34 =>
 (Z05 (ptrTo (256 * c + 0)) 3).bind fun t35 =>
 (ld1 h2 t35).bind fun t36 =>
 (Z00 P .mul 3 (.int .i64 4) t36).bind fun t37 =>
 (Z05 (ptrTo (256 * c + 0)) 5).bind fun t38 =>
 (ld1 h2 t38).bind fun t39 =>
 (Z00 P .add 3 t37 t39).bind fun t40 =>
 (callF o 72 [t28,t34,t40] h2 (c + 1 + 1)).bind fun r3 =>
 (Z05 t1 0).bind fun t42 =>
 (ld1 r3.2.1 t42).bind fun t43 =>
 (Z05 (ptrTo (256 * c + 0)) 0).bind fun t44 =>
 (ld1 r3.2.1 t44).bind fun t45 =>
 (Z05 (ptrTo (256 * c + 0)) 1).bind fun t46 =>
 (ld1 r3.2.1 t46).bind fun t47 =>
 (ixS 20 t43 t45).bind fun t48 =>
 (ixA 4 5 t48 t47).bind fun t49 =>
 (Z05 t49 1).bind fun t50 =>
 (ldN r3.2.1 4 t50).bind fun t51 =>
 (stN (newB r3.2.1 (256 * r3.2.2 + 10) [(.int .i64 0),(.int .i64 0),(.int .i64 0),(.int .i64 0)]) 4 (ptrTo (256 * r3.2.2 + 10)) t51).bind fun h5 =>
 (o (ZbM (some l)) [t6,(ptrTo (256 * c + 0)),(ptrTo (256 * r3.2.2 + 10)),(.int .i64 0)] h5 (r3.2.2 + 1 + 1) []).bind fun r6 =>
 cond (Z0o r6.e (.exit 2))
 ((Z0A r6.h l .ready none).bind fun h7 =>
 cond (List.isEmpty (r6.df:List Nat)) (some ⟨.ret,[.bool true],h7,r6.c,[]⟩) none)
 (none)
theorem Z7v (o:Orc H) (l:Nat) (t25 t1 t5 t6:Value) (h:H) (c:Nat):jx P o 92 (some l) Z1d (Z0f ([25] ++ [1,5,6]) [t25,t1,t5,t6]) h c [] (ZlU P o 92 l Z1c) = Z3v o l t25 t1 t5 t6 h c:=by kernel_rfl
noncomputable def ZkL (o:Orc H) (t0:Value) (h:H) (c:Nat):Option (Rt H) :=
 (bif (t0:Value).cells.toList.all Z0e then
 (Z05 (ptrTo (256 * c + 0)) 0).bind fun t10 =>
 (ld1 (newB h (256 * c + 0) (t0:Value).cells.toList) t10).bind fun t11 =>
 (Z11 t11).bind fun t12 =>
 (Z00 P .mul 3 (.int .i64 4) t12).bind fun t14 =>
 (callF o 71 [t14] (newB h (256 * c + 0) (t0:Value).cells.toList) (c + 1 + 1 + 1)).bind fun r0 =>
 (Z4f [(.slice none 0 0)] [(0,1,r0.1)]).bind fun t16 =>
 (bif (t16:Value).cells.toList.all Z0e then
 (Z00 P .mul 3 (.int .i64 6) t12).bind fun t19 =>
 (callF o 71 [t19] (newB r0.2.1 (256 * (c + 1 + 1) + 4) (t16:Value).cells.toList) r0.2.2).bind fun r1 =>
 (Z4f [(.slice none 0 0)] [(0,1,r1.1)]).bind fun t21 =>
 (bif (t21:Value).cells.toList.all Z0e then
 (stN (newB (newB (newB r1.2.1 (256 * (c + 1 + 1) + 9) (t21:Value).cells.toList) (256 * (c + 1 + 1) + 10) [(.pointer none)]) (256 * (c + 1 + 1) + 11) [(.pointer none)]) 1 (ptrTo (256 * (c + 1 + 1) + 10)) (ptrTo (256 * (c + 1 + 1) + 4))).bind fun h3 =>
 (stN h3 1 (ptrTo (256 * (c + 1 + 1) + 11)) (ptrTo (256 * (c + 1 + 1) + 9))).bind fun h5 =>
 (ldN h5 1 (ptrTo (256 * c + 0))).bind fun t23 =>
 (callF o 59 [t23] h5 (r1.2.2 + 1)).bind fun r6 =>
 (Z4n o 92 none [1,5,6] [] #[25] Z1d Z1c r6.1 [(ptrTo (256 * c + 0)),(ptrTo (256 * (c + 1 + 1) + 10)),(ptrTo (256 * (c + 1 + 1) + 11))] r6.2.1 r6.2.2 []).bind fun q7 =>
 cond (Z0o q7.1 .normal)
 ((ld1 q7.2.1 (ptrTo (256 * (c + 1 + 1) + 10))).bind fun t90 =>
 (ld1 q7.2.1 (ptrTo (256 * (c + 1 + 1) + 11))).bind fun t91 =>
 (Z09 q7.2.1 q7.2.2.2).bind fun h8 =>
 some ⟨.ret,[.tuple #[t90,t91]],h8,(q7.2.2.1 + 1),[]⟩)
 (none)
 else none)
 else none)
 else none)
theorem Zhr (o:Orc H) (t0:Value) (h:H) (c:Nat):jx P o 92 none f44_c (Z0f (List.range 1) [t0]) h c [] (Kfn P Try.f44.results.toList) = ZkL o t0 h c:=by kernel_rfl
theorem f44_go {t0:Value} {h:FH} {c:Nat} {df:List Nat} {r:Rt FH} (e:ZkL G t0 h c = some r):G (.fn 44) [t0] h c df = some r:=Z0d (a:=Zfe) bk_44 rfl (fun args h c=>by cases args <;> rfl) rfl ((Zhr G t0 h c).trans e)
theorem ZiB {t25 t1 t5 t6:Value} {l:Nat} {h:FH} {c:Nat} {df:List Nat} {r:Rt FH} (e:Z3v G l t25 t1 t5 t6 h c = some r):G (.rnd 92 [1,5,6] [] [25] l Z1d Z1c) [t25,t1,t5,t6] h c df = some r:=Z9C ((Z7v G l t25 t1 t5 t6 h c).trans e)
noncomputable def Z4J (o:Orc H) (rd:Option Nat) (t0 t3 t9 t10:Value) (h:H) (c:Nat) (df:List Nat):Option (Rt H) :=
 (Z00 P .lss 3 t10 t9).bind fun t11 =>
 Z08 t11
 ((callF o 46 [t0,t10] h (c + 1 + 1 + 1)).bind fun r0 =>
 (Z00 P .eql 3 r0.1 t10).bind fun t17 =>
 (Z08 t17
  ((Z48 [(.int .i64 0)] [(0,1,t10)]).bind fun r1 =>
  (Zde (newB r0.2.1 (256 * r0.2.2 + 2) r1) (256 * r0.2.2 + 3) 1 8 t3 (.slice (some ⟨(256 * r0.2.2 + 2),0,none⟩) 1 1)).bind fun r2 =>
  some ⟨.normal,[t0,r2.1,t9,t10],r2.2,(r0.2.2 + 1),df⟩)
  (some ⟨.normal,[t0,t3,t9,t10],r0.2.1,r0.2.2,df⟩):Option (Rt H)).bind fun r4 =>
 cond (Z0o r4.e .normal)
  ((Z00 P .add 3 (r4.v 3) (.int .i64 1)).bind fun t22 =>
  some ⟨.normal,[r4.v 0,r4.v 1,r4.v 2,t22],r4.h,(r4.c + 1),r4.df⟩)
  (none))
 (some ⟨(.exit 0),[t0,t3,t9,t10],h,(c + 1),df⟩)
theorem Z5q (o:Orc H) (rd:Option Nat) (t0 t3 t9 t10:Value) (h:H) (c:Nat) (df:List Nat):jx P o 24 rd Z3t (Z0f [0,3,9,10] [t0,t3,t9,t10]) h c df (Klp [0,3,9,10]) = Z4J o rd t0 t3 t9 t10 h c df:=by kernel_rfl
noncomputable def ZkK (o:Orc H) (t0:Value) (h:H) (c:Nat):Option (Rt H) :=
 (Z0y t0).bind fun t6 =>
 (Z05 t6 0).bind fun t7 =>
 (ld1 h t7).bind fun t8 =>
 (Z11 t8).bind fun t9 =>
 (o (ZbL none) [t0,(.slice none 0 0),t9,(.int .i64 0)] h (c + 1 + 1 + 1) []).bind fun r0 =>
 cond (Z0o r0.e (.exit 0))
 ((Z09 r0.h r0.df).bind fun h1 =>
 some ⟨.ret,[r0.v 1],h1,(r0.c + 1),[]⟩)
 (none)
theorem Zhq (o:Orc H) (t0:Value) (h:H) (c:Nat):jx P o 24 none f45_c (Z0f (List.range 1) [t0]) h c [] (Kfn P Try.f45.results.toList) = ZkK o t0 h c:=by kernel_rfl
theorem f45_go {t0:Value} {h:FH} {c:Nat} {df:List Nat} {r:Rt FH} (e:ZkK G t0 h c = some r):G (.fn 45) [t0] h c df = some r:=Z0d (a:=Zfd) bk_45 rfl (fun args h c=>by cases args <;> rfl) rfl ((Zhq G t0 h c).trans e)
noncomputable def Z6m (o:Orc H) (rd:Option Nat) (t0 t1:Value) (h:H) (c:Nat) (df:List Nat):Option (Rt H) :=
 (Z0y t0).bind fun t6 =>
 (Z05 t6 0).bind fun t7 =>
 (ld1 h t7).bind fun t8 =>
 (ixS 1 t8 t1).bind fun t10 =>
 (ld1 h t10).bind fun t11 =>
 (Z00 P .neq 3 t11 t1).bind fun t13 =>
 Z08 t13
 ((Z0y t0).bind fun t15 =>
 (Z05 t15 0).bind fun t16 =>
 (ld1 h t16).bind fun t17 =>
 (ixS 1 t17 t1).bind fun t19 =>
 (ld1 h t19).bind fun t20 =>
 some ⟨.normal,[t0,t20],h,(c + 1 + 1),df⟩)
 (some ⟨(.exit 0),[t0,t1],h,(c + 1),df⟩)
theorem Z7u (o:Orc H) (rd:Option Nat) (t0 t1:Value) (h:H) (c:Nat) (df:List Nat):jx P o 22 rd Z3s (Z0f [0,1] [t0,t1]) h c df (Klp [0,1]) = Z6m o rd t0 t1 h c df:=by kernel_rfl
noncomputable def ZkJ (o:Orc H) (t0 t1:Value) (h:H) (c:Nat):Option (Rt H) :=
 (o (ZbK none) [t0,t1] h (c + 1) []).bind fun r0 =>
 cond (Z0o r0.e (.exit 0))
 ((Z09 r0.h r0.df).bind fun h1 =>
 some ⟨.ret,[r0.v 1],h1,(r0.c + 1),[]⟩)
 (none)
theorem Zhp (o:Orc H) (t0 t1:Value) (h:H) (c:Nat):jx P o 22 none f46_c (Z0f (List.range 2) [t0,t1]) h c [] (Kfn P Try.f46.results.toList) = ZkJ o t0 t1 h c:=by kernel_rfl
theorem f46_go {t0 t1:Value} {h:FH} {c:Nat} {df:List Nat} {r:Rt FH} (e:ZkJ G t0 t1 h c = some r):G (.fn 46) [t0,t1] h c df = some (gcR h c [] r):=Z0d (a:=Zfc) bk_46 rfl (fun args h c=>by cases args <;> rfl) rfl ((Zhp G t0 t1 h c).trans e)
noncomputable def Z4H (o:Orc H) (rd:Option Nat) (t2 t4 t7 t15 t16 t17 t35 t36:Value) (h:H) (c:Nat) (df:List Nat):Option (Rt H) :=
 (Z00 P .lss 3 t36 t35).bind fun t37 =>
 Z08 t37
 ((ld1 h t7).bind fun t39 =>
 (Z00 P .mul 3 (.int .i64 7) t36).bind fun t41 =>
 (Z00 P .add 3 t41 (.int .i64 4)).bind fun t42 =>
 (Z00 P .mul 3 (.int .i64 7) t36).bind fun t44 =>
 (Z00 P .add 3 t44 (.int .i64 7)).bind fun t45 =>
 (slS h 1 t39 (some t42) (some t45) none).bind fun t46 =>
 (callF o 56 [t46] h (c + 1 + 1 + 1)).bind fun r0 =>
 (Z1A .not r0.1).bind fun t48 =>
 Z08 t48
  ((stN r0.2.1 1 t4 (.int .i64 130)).bind fun h2 =>
  some ⟨.ret,[t2,t4,t7,t15,t16,t17,t35,t36],h2,(r0.2.2 + 1),df⟩)
  ((Z00 P .add 3 t36 (.int .i64 1)).bind fun t49 =>
  some ⟨.normal,[t2,t4,t7,t15,t16,t17,t35,t49],r0.2.1,(r0.2.2 + 1),df⟩))
 (some ⟨(.exit 2),[t2,t4,t7,t15,t16,t17,t35,t36],h,(c + 1),df⟩)
theorem Z5o (o:Orc H) (rd:Option Nat) (t2 t4 t7 t15 t16 t17 t35 t36:Value) (h:H) (c:Nat) (df:List Nat):jx P o 71 rd Z3p (Z0f [2,4,7,15,16,17,35,36] [t2,t4,t7,t15,t16,t17,t35,t36]) h c df (Klp [2,4,7,15,16,17,35,36]) = Z4H o rd t2 t4 t7 t15 t16 t17 t35 t36 h c df:=by kernel_rfl
noncomputable def Z3r (o:Orc H) (l:Nat) (t52 t4 t7:Value) (h:H) (c:Nat):Option (Rt H) :=
 (stN (newB h (256 * c + 0) [(.int .i64 0),(.int .i64 0),(.int .i64 0),(.int .i64 0),(.int .i64 0),(.int .i64 0)]) 6 (ptrTo (256 * c + 0)) t52).bind fun h1 =>
 (Z1D h1 l).bind fun h2 =>
 (ld1 h2 t7).bind fun t53 =>
 (Z05 (ptrTo (256 * c + 0)) 0).bind fun t54 =>
 (ld1 h2 t54).bind fun t55 =>
 (Z05 (ptrTo (256 * c + 0)) 1).bind fun t56 =>
 (ld1 h2 t56).bind fun t57 =>
 (Z05 (ptrTo (256 * c + 0)) 2).bind fun t58 =>
 (ld1 h2 t58).bind fun t59 =>
 (callF o 50 [t53,t55,t57,t59] h2 (c + 1 + 1)).bind fun r3 =>
 (ld1 r3.2.1 t7).bind fun t61 =>
 (Z05 (ptrTo (256 * c + 0)) 3).bind fun t62 =>
 (ld1 r3.2.1 t62).bind fun t63 =>
 (Z05 (ptrTo (256 * c + 0)) 4).bind fun t64 =>
 (ld1 r3.2.1 t64).bind fun t65 =>
 (Z05 (ptrTo (256 * c + 0)) 5).bind fun t66 =>
 (ld1 r3.2.1 t66).bind fun t67 =>
 (callF o 50 [t61,t63,t65,t67] r3.2.1 r3.2.2).bind fun r4 =>
 (Z00 P .neq 3 r3.1 r4.1).bind fun t69 =>
 (bif (Z0Y (Z2f t7) h2 r3.2.1 && (Z0Y (Z2f t62) h2 r3.2.1 && (Z0Y (Z2f t64) h2 r3.2.1 && (Z0Y (Z2f t66) h2 r3.2.1 && true)))) then
 Z08 t69
 ((stN r4.2.1 1 t4 (.int .i64 130)).bind fun h6 =>
 (Z0A h6 l .done (some .ret)).bind fun h7 =>
 cond (List.isEmpty ([]:List Nat)) (some ⟨.ret,[.bool false],h7,(r4.2.2 + 1),[]⟩) none)
 ((Z0A r4.2.1 l .ready none).bind fun h8 =>
 cond (List.isEmpty ([]:List Nat)) (some ⟨.ret,[.bool true],h8,r4.2.2,[]⟩) none)
 else none)
theorem Z7t (o:Orc H) (l:Nat) (t52 t4 t7:Value) (h:H) (c:Nat):jx P o 71 (some l) Z1b (Z0f ([52] ++ [4,7]) [t52,t4,t7]) h c [] (ZlU P o 71 l Z1a) = Z3r o l t52 t4 t7 h c:=by kernel_rfl
noncomputable def Z4I (o:Orc H) (rd:Option Nat) (t2 t4 t15 t16 t17:Value) (h:H) (c:Nat) (df:List Nat):Option (Rt H) :=
 (Z00 P .lss 3 t17 t16).bind fun t18 =>
 Z08 t18
 ((ixS 1 t15 t17).bind fun t19 =>
 (ld1 h t19).bind fun t20 =>
 (stN (newB h (256 * (c + 1) + 2) [(.slice none 0 0)]) 1 (ptrTo (256 * (c + 1) + 2)) t20).bind fun h1 =>
 (ld1 h1 (ptrTo (256 * (c + 1) + 2))).bind fun t21 =>
 (Z11 t21).bind fun t22 =>
 (Z05 t2 0).bind fun t23 =>
 (ld1 h1 t23).bind fun t24 =>
 (Z11 t24).bind fun t25 =>
 (Z00 P .mul 3 (.int .i64 7) t25).bind fun t26 =>
 (Z00 P .neq 3 t22 t26).bind fun t27 =>
 (gd t27 false h1 (c + 1 + 1 + 1) (ld1 h1 (ptrTo (256 * (c + 1) + 2)))).bind fun r2 =>
 (gg t27 false r2.2.1 r2.2.2 (callF o 55 [r2.1] r2.2.1 r2.2.2)).bind fun r3 =>
 (gd t27 false r3.2.1 r3.2.2 (Z1A .not r3.1)).bind fun r4 =>
 (Z0x t27 (.bool true) r4.1).bind fun t32 =>
 Z08 t32
  ((stN r4.2.1 1 t4 (.int .i64 130)).bind fun h6 =>
  some ⟨.ret,[t2,t4,t15,t16,t17],h6,(r4.2.2 + 1),df⟩)
  ((Z05 t2 0).bind fun t33 =>
  (ld1 r4.2.1 t33).bind fun t34 =>
  (Z11 t34).bind fun t35 =>
  (o (ZbJ rd) [t2,t4,(ptrTo (256 * (c + 1) + 2)),t15,t16,t17,t35,(.int .i64 0)] r4.2.1 (r4.2.2 + 1) df).bind fun r7 =>
  cond (Z0o r7.e (.exit 2))
   ((ldN r7.h 1 (r7.v 0)).bind fun t50 =>
   (callF o 59 [t50] r7.h (r7.c + 1)).bind fun r8 =>
   (Z4n o 71 rd [4,7] [] #[52] Z1b Z1a r8.1 [r7.v 1,r7.v 2] r8.2.1 r8.2.2 r7.df).bind fun q9 =>
   cond (Z0o q9.1 .normal)
    ((Z00 P .add 3 (r7.v 5) (.int .i64 1)).bind fun t70 =>
    some ⟨.normal,[r7.v 0,r7.v 1,r7.v 3,r7.v 4,t70],q9.2.1,(q9.2.2.1 + 1),q9.2.2.2⟩)
    (cond (Z0o q9.1 .ret)
     (some ⟨.ret,[r7.v 0,r7.v 1,r7.v 3,r7.v 4,r7.v 5],q9.2.1,q9.2.2.1,q9.2.2.2⟩)
     (none)))
   (cond (Z0o r7.e .ret)
    (some ⟨.ret,[r7.v 0,r7.v 1,r7.v 3,r7.v 4,r7.v 5],r7.h,r7.c,r7.df⟩)
    (none))))
 (some ⟨(.exit 0),[t2,t4,t15,t16,t17],h,(c + 1),df⟩)
theorem Z5p (o:Orc H) (rd:Option Nat) (t2 t4 t15 t16 t17:Value) (h:H) (c:Nat) (df:List Nat):jx P o 71 rd Z3q (Z0f [2,4,15,16,17] [t2,t4,t15,t16,t17]) h c df (Klp [2,4,15,16,17]) = Z4I o rd t2 t4 t15 t16 t17 h c df:=by kernel_rfl
noncomputable def ZkH (o:Orc H) (t0 t1:Value) (h:H) (c:Nat):Option (Rt H) :=
 (bif (t0:Value).cells.toList.all Z0e then
 (ldN (newB (newB h (256 * c + 0) (t0:Value).cells.toList) (256 * c + 1) [(.int .i64 0)]) 1 (ptrTo (256 * c + 0))).bind fun t10 =>
 (callF o 43 [t10] (newB (newB h (256 * c + 0) (t0:Value).cells.toList) (256 * c + 1) [(.int .i64 0)]) (c + 1 + 1)).bind fun r0 =>
 (Z00 P .neq 27 r0.1 (.int .i64 0)).bind fun t13 =>
 Z08 t13
 ((stN r0.2.1 1 (ptrTo (256 * c + 1)) r0.1).bind fun h2 =>
 (ld1 h2 (ptrTo (256 * c + 1))).bind fun v3 =>
 some ⟨.ret,[v3],h2,(r0.2.2 + 1 + 1),[]⟩)
 ((Z11 t1).bind fun t16 =>
 (o (Z8I none) [(ptrTo (256 * c + 0)),(ptrTo (256 * c + 1)),t1,t16,(.int .i64 0)] r0.2.1 (r0.2.2 + 1 + 1) []).bind fun r4 =>
 cond (Z0o r4.e (.exit 0))
  ((stN r4.h 1 (r4.v 1) (.int .i64 0)).bind fun h8 =>
  (Z09 h8 r4.df).bind fun h9 =>
  (ld1 h9 (r4.v 1)).bind fun v10 =>
  some ⟨.ret,[v10],h9,(r4.c + 1),[]⟩)
  (cond (Z0o r4.e .ret)
   ((Z09 r4.h r4.df).bind fun h5 =>
   (ld1 h5 (r4.v 1)).bind fun v6 =>
   some ⟨.ret,[v6],h5,r4.c,[]⟩)
   (none)))
 else none)
theorem Zho (o:Orc H) (t0 t1:Value) (h:H) (c:Nat):jx P o 71 none f47_c (Z0f (List.range 2) [t0,t1]) h c [] (Kfn P Try.f47.results.toList) = ZkH o t0 t1 h c:=by kernel_rfl
theorem f47_go {t0 t1:Value} {h:FH} {c:Nat} {df:List Nat} {r:Rt FH} (e:ZkH G t0 t1 h c = some r):G (.fn 47) [t0,t1] h c df = some (gcR h c [] r):=Z0d (a:=Zfb) bk_47 rfl (fun args h c=>by cases args <;> rfl) rfl ((Zho G t0 t1 h c).trans e)
theorem ZiA {t52 t4 t7:Value} {l:Nat} {h:FH} {c:Nat} {df:List Nat} {r:Rt FH} (e:Z3r G l t52 t4 t7 h c = some r):G (.rnd 71 [4,7] [] [52] l Z1b Z1a) [t52,t4,t7] h c df = some r:=Z9C ((Z7t G l t52 t4 t7 h c).trans e)
noncomputable def Z4G (o:Orc H) (rd:Option Nat) (t3 t6 t7 t8:Value) (h:H) (c:Nat) (df:List Nat):Option (Rt H) :=
 (Z00 P .lss 3 t8 t7).bind fun t9 =>
 Z08 t9
 ((ixS 1 t6 t8).bind fun t10 =>
 (ld1 h t10).bind fun t11 =>
 (Z00 P .add 3 t3 t11).bind fun t14 =>
 (Z00 P .add 3 t8 (.int .i64 1)).bind fun t15 =>
 some ⟨.normal,[t14,t6,t7,t15],h,(c + 1 + 1 + 1 + 1),df⟩)
 (some ⟨(.exit 0),[t3,t6,t7,t8],h,(c + 1),df⟩)
theorem Z5n (o:Orc H) (rd:Option Nat) (t3 t6 t7 t8:Value) (h:H) (c:Nat) (df:List Nat):jx P o 17 rd Z3o (Z0f [3,6,7,8] [t3,t6,t7,t8]) h c df (Klp [3,6,7,8]) = Z4G o rd t3 t6 t7 t8 h c df:=by kernel_rfl
noncomputable def ZkG (o:Orc H) (t0:Value) (h:H) (c:Nat):Option (Rt H) :=
 (Z11 t0).bind fun t7 =>
 (o (ZbI none) [(.int .i64 0),t0,t7,(.int .i64 0)] h (c + 1 + 1 + 1) []).bind fun r0 =>
 cond (Z0o r0.e (.exit 0))
 ((Z09 r0.h r0.df).bind fun h1 =>
 some ⟨.ret,[r0.v 0],h1,(r0.c + 1),[]⟩)
 (none)
theorem Zhn (o:Orc H) (t0:Value) (h:H) (c:Nat):jx P o 17 none f48_c (Z0f (List.range 1) [t0]) h c [] (Kfn P Try.f48.results.toList) = ZkG o t0 h c:=by kernel_rfl
theorem f48_go {t0:Value} {h:FH} {c:Nat} {df:List Nat} {r:Rt FH} (e:ZkG G t0 h c = some r):G (.fn 48) [t0] h c df = some (gcR h c [] r):=Z0d (a:=Zfa) bk_48 rfl (fun args h c=>by cases args <;> rfl) rfl ((Zhn G t0 h c).trans e)
noncomputable def Z4F (o:Orc H) (rd:Option Nat) (t1 t7 t19 t20 t21:Value) (h:H) (c:Nat) (df:List Nat):Option (Rt H) :=
 (Z00 P .lss 3 t21 t20).bind fun t22 =>
 Z08 t22
 ((ixS 1 t19 t21).bind fun t23 =>
 (ld1 h t23).bind fun t24 =>
 (Z00 P .quo 3 t24 (.int .i64 6)).bind fun t28 =>
 (Z00 P .rem 3 t24 (.int .i64 6)).bind fun t30 =>
 (callF o 74 [t1,t28,t30] h (c + 1 + 1 + 1)).bind fun r0 =>
 (Z48 [(.int .i64 0)] [(0,1,r0.1)]).bind fun r1 =>
 (Zde (newB r0.2.1 (256 * (c + 1 + 1) + 7) r1) (256 * (c + 1 + 1) + 8) 1 8 t7 (.slice (some ⟨(256 * (c + 1 + 1) + 7),0,none⟩) 1 1)).bind fun r2 =>
 (Z00 P .add 3 t21 (.int .i64 1)).bind fun t34 =>
 some ⟨.normal,[t1,r2.1,t19,t20,t34],r2.2,(r0.2.2 + 1),df⟩)
 (some ⟨(.exit 0),[t1,t7,t19,t20,t21],h,(c + 1),df⟩)
theorem Z5m (o:Orc H) (rd:Option Nat) (t1 t7 t19 t20 t21:Value) (h:H) (c:Nat) (df:List Nat):jx P o 36 rd Z3n (Z0f [1,7,19,20,21] [t1,t7,t19,t20,t21]) h c df (Klp [1,7,19,20,21]) = Z4F o rd t1 t7 t19 t20 t21 h c df:=by kernel_rfl
noncomputable def ZkF (o:Orc H) (t0 t1:Value) (h:H) (c:Nat):Option (Rt H) :=
 (bif (t0:Value).cells.toList.all Z0e then
 (ldN (newB h (256 * c + 0) (t0:Value).cells.toList) 1 (ptrTo (256 * c + 0))).bind fun t11 =>
 (callF o 44 [t11] (newB h (256 * c + 0) (t0:Value).cells.toList) (c + 1 + 1)).bind fun r0 =>
 (Z1E r0.1 0).bind fun t13 =>
 (Z1E r0.1 1).bind fun t14 =>
 (Z48 [] []).bind fun r1 =>
 (Z0y t14).bind fun t17 =>
 (Z05 t17 0).bind fun t18 =>
 (callF o 45 [t18] (newB r0.2.1 (256 * r0.2.2 + 0) r1) (r0.2.2 + 1 + 1)).bind fun r2 =>
 (Z11 r2.1).bind fun t20 =>
 (o (ZbH none) [t1,(.slice (some ⟨(256 * r0.2.2 + 0),0,none⟩) 0 0),r2.1,t20,(.int .i64 0)] r2.2.1 r2.2.2 []).bind fun r3 =>
 cond (Z0o r3.e (.exit 0))
 ((Z09 r3.h r3.df).bind fun h4 =>
 some ⟨.ret,[r3.v 1],h4,(r3.c + 1),[]⟩)
 (none)
 else none)
theorem Zhm (o:Orc H) (t0 t1:Value) (h:H) (c:Nat):jx P o 36 none f49_c (Z0f (List.range 2) [t0,t1]) h c [] (Kfn P Try.f49.results.toList) = ZkF o t0 t1 h c:=by kernel_rfl
theorem f49_go {t0 t1:Value} {h:FH} {c:Nat} {df:List Nat} {r:Rt FH} (e:ZkF G t0 t1 h c = some r):G (.fn 49) [t0,t1] h c df = some r:=Z0d (a:=Zf9) bk_49 rfl (fun args h c=>by cases args <;> rfl) rfl ((Zhm G t0 t1 h c).trans e)
noncomputable def ZkE (o:Orc H) (t0 t1 t2 t3:Value) (h:H) (c:Nat):Option (Rt H) :=
 (Z00 P .mul 3 (.int .i64 7) t1).bind fun t11 =>
 (Z00 P .add 3 t11 t3).bind fun t13 =>
 (ixS 1 t0 t13).bind fun t14 =>
 (ld1 h t14).bind fun t15 =>
 (Z00 P .mul 3 (.int .i64 7) t1).bind fun t18 =>
 (Z00 P .add 3 t18 (.int .i64 4)).bind fun t19 =>
 (callF o 60 [] h (c + 1 + 1)).bind fun r0 =>
 (ixV 4 true 4 r0.1 t3).bind fun t22 =>
 (ixV 4 false 1 t22 t2).bind fun t24 =>
 (Z00 P .add 3 t19 t24).bind fun t25 =>
 (ixS 1 t0 t25).bind fun t26 =>
 (ld1 r0.2.1 t26).bind fun t27 =>
 (Z00 P .add 3 t15 t27).bind fun t28 =>
 (bif (Z0Y (Z2f t14) h r0.2.1 && true) then
 some ⟨.ret,[t28],r0.2.1,r0.2.2,[]⟩
 else none)
theorem Zhl (o:Orc H) (t0 t1 t2 t3:Value) (h:H) (c:Nat):jx P o 29 none f50_c (Z0f (List.range 4) [t0,t1,t2,t3]) h c [] (Kfn P Try.f50.results.toList) = ZkE o t0 t1 t2 t3 h c:=by kernel_rfl
theorem f50_go {t0 t1 t2 t3:Value} {h:FH} {c:Nat} {df:List Nat} {r:Rt FH} (e:ZkE G t0 t1 t2 t3 h c = some r):G (.fn 50) [t0,t1,t2,t3] h c df = some (gcR h c [] r):=Z0d (a:=Zf8) bk_50 rfl (fun args h c=>by cases args <;> rfl) rfl ((Zhl G t0 t1 t2 t3 h c).trans e)
noncomputable def ZqO (o:Orc H) (t0:Value) (h:H) (c:Nat):Option (Rt H) :=
 (Z00 P .eql 34 t0 (.slice none 0 0)).bind fun t4 =>
 Z08 t4
 (some ⟨.ret,[(.slice none 0 0)],h,(c + 1 + 1 + 1),[]⟩)
 ((Z48 [] []).bind fun r0 =>
 (Zde (newB h (256 * (c + 1 + 1) + 0) r0) (256 * (c + 1 + 1) + 2) 1 8 (.slice (some ⟨(256 * (c + 1 + 1) + 0),0,none⟩) 0 0) t0).bind fun r1 =>
 some ⟨.ret,[r1.1],r1.2,(c + 1 + 1 + 1),[]⟩)
theorem Zof (o:Orc H) (t0:Value) (h:H) (c:Nat):jx P o 8 none f53_c (Z0f (List.range 1) [t0]) h c [] (Kfn P Try.f53.results.toList) = ZqO o t0 h c:=by kernel_rfl
noncomputable def ZkC (o:Orc H) (t0:Value) (h:H) (c:Nat):Option (Rt H) :=
 (callF o 75 [t0,(.func (.func 76) #[] #[])] h (c + 1 + 1)).bind fun r0 =>
 (Z1A .not r0.1).bind fun t5 =>
 some ⟨.ret,[t5],r0.2.1,r0.2.2,[]⟩
theorem Zhk (o:Orc H) (t0:Value) (h:H) (c:Nat):jx P o 6 none f55_c (Z0f (List.range 1) [t0]) h c [] (Kfn P Try.f55.results.toList) = ZkC o t0 h c:=by kernel_rfl
theorem f55_go {t0:Value} {h:FH} {c:Nat} {df:List Nat} {r:Rt FH} (e:ZkC G t0 h c = some r):G (.fn 55) [t0] h c df = some (gcR h c [] r):=Z0d (a:=Zf7) bk_55 rfl (fun args h c=>by cases args <;> rfl) rfl ((Zhk G t0 h c).trans e)
end Go.Proofs.Ytcnndelmnobigaa
