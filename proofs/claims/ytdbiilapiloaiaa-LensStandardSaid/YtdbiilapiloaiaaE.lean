/- The tables of the shallow functions, for evaluation. Printed by a program. -/
import Derived.Test.YtdbiilapiloaiaaS0
import Derived.Test.YtdbiilapiloaiaaS1
import Derived.Test.YtdbiilapiloaiaaS2
import Derived.Test.YtdbiilapiloaiaaS3
import Derived.Test.YtdbiilapiloaiaaS4
import Derived.Test.YtdbiilapiloaiaaS5
import Derived.Test.YtdbiilapiloaiaaS6
import Derived.Test.YtdbiilapiloaiaaS7
set_option linter.all false
namespace Go.Proofs.Ytdbiilapiloaiaa
open Go Go.Ab Go.Proofs
set_option maxRecDepth 100000
set_option linter.unusedVariables false
variable {H : Type} [HeapC H]
noncomputable def K : LB := { loop := fun j => BT.look ((.node 77000 ([0, 2, 3], f77_c77000, 28) (.node 61000 ([0, 2, 3, 4, 5], f61_c61000, 51) (.node 32001 ([1, 2, 3, 4, 5], f32_c32001, 83) (.node 28002 ([2, 3, 4, 5, 7, 8, 9, 10, 11, 14], f28_c28002, 135) (.node 28000 ([2, 3, 4, 5, 7, 8, 9], f28_c28000, 135) (.node 17000 ([2, 3, 4, 5], f17_c17000, 31) .leaf .leaf) (.node 28001 ([2, 3, 4, 5, 7, 8, 9, 10, 11], f28_c28001, 135) .leaf .leaf)) (.node 32000 ([1, 2, 3, 4], f32_c32000, 83) (.node 30000 ([1, 2, 10, 11, 12], f30_c30000, 27) .leaf .leaf) .leaf)) (.node 53000 ([2, 4, 5, 6], f53_c53000, 19) (.node 42000 ([3, 8, 9, 10], f42_c42000, 21) (.node 37000 ([1, 2, 3, 8, 9, 10], f37_c37000, 23) .leaf .leaf) (.node 52000 ([0, 1, 4, 5], f52_c52000, 26) .leaf .leaf)) (.node 60000 ([0, 3, 4, 5], f60_c60000, 43) (.node 59000 ([1, 2, 3, 4], f59_c59000, 19) .leaf .leaf) .leaf))) (.node 75000 ([2, 3, 4, 5, 13, 14, 15], f75_c75000, 76) (.node 72000 ([2, 3, 6, 7], f72_c72000, 23) (.node 63000 ([0, 4, 5, 6, 10, 11], f63_c63000, 58) (.node 62000 ([0, 4, 5], f62_c62000, 16) .leaf .leaf) (.node 64000 ([1, 2, 3, 4], f64_c64000, 30) .leaf .leaf)) (.node 74000 ([2, 6, 7, 8], f74_c74000, 18) (.node 73000 ([2, 3, 6, 7], f73_c73000, 16) .leaf .leaf) .leaf)) (.node 76000 ([0, 1, 3, 8, 9], f76_c76000, 45) (.node 75002 ([2, 3, 4, 5, 7, 8, 10, 13, 14, 15, 25, 26, 27, 31], f75_c75002, 76) (.node 75001 ([2, 3, 4, 5, 7, 8, 13, 14, 15, 25, 26, 27], f75_c75001, 76) .leaf .leaf) .leaf) (.node 76002 ([0, 1, 5, 6, 7, 14, 15], f76_c76002, 45) (.node 76001 ([0, 1, 14, 15], f76_c76001, 45) .leaf .leaf) .leaf)))) (.node 105000 ([0, 1, 4, 5, 12], f105_c105000, 99) (.node 101000 ([2, 3, 4, 10], f101_c101000, 62) (.node 87000 ([1, 5, 15, 16, 17], f87_c87000, 49) (.node 86000 ([0, 1, 8, 9], f86_c86000, 30) (.node 78000 ([0, 1, 4, 12, 13], f78_c78000, 26) .leaf .leaf) (.node 86001 ([0, 1, 3, 8, 9, 16, 17], f86_c86001, 30) .leaf .leaf)) (.node 100000 ([0, 1, 2, 6, 11, 12, 13], f100_c100000, 39) (.node 97000 ([3, 8, 9, 10, 11], f97_c97000, 67) .leaf .leaf) .leaf)) (.node 102002 ([1, 4, 6, 8, 9, 26, 27], f102_c102002, 85) (.node 102000 ([1, 4, 17, 18], f102_c102000, 85) (.node 101001 ([2, 3, 4, 5, 10, 31], f101_c101001, 62) .leaf .leaf) (.node 102001 ([1, 4, 6, 26, 27], f102_c102001, 85) .leaf .leaf)) (.node 103000 ([0, 4], f103_c103000, 27) (.node 102003 ([1, 4, 6, 8, 9, 26, 27, 54, 55], f102_c102003, 85) .leaf .leaf) .leaf))) (.node 109001 ([0, 10, 13], f109_c109001, 220) (.node 108000 ([0, 1, 2, 3, 8], f108_c108000, 53) (.node 106001 ([0, 1, 2, 6], f106_c106001, 63) (.node 106000 ([0, 1, 2, 6, 7, 8], f106_c106000, 63) .leaf .leaf) (.node 106002 ([0, 1, 2, 6, 7, 8], f106_c106002, 63) .leaf .leaf)) (.node 109000 ([0, 1, 4, 10, 11], f109_c109000, 220) (.node 108001 ([0, 1, 2, 3, 8, 9], f108_c108001, 53) .leaf .leaf) .leaf)) (.node 109004 ([0, 1, 2, 3, 4, 18, 19, 20, 21, 22], f109_c109004, 220) (.node 109003 ([0, 14, 17], f109_c109003, 220) (.node 109002 ([0, 2, 4, 14, 15], f109_c109002, 220) .leaf .leaf) .leaf) (.node 112000 ([0, 1, 2, 3, 10], f112_c112000, 38) (.node 111000 ([0, 2, 4, 10, 11], f111_c111000, 58) .leaf .leaf) .leaf))))) : BT (List Nat × ACode × Nat)) j, rng := fun nt ps => lookR nt ps [(60, [43], ([2, 3, 5], f24_a24000, f24_c24000)), (71, [13, 14], ([1, 2, 3], f48_a48000, f48_c48000)), (49, [30], ([1, 5, 6, 7], f87_a87001, f87_c87001))] }
theorem kl_17000 : K.loop 17000 = some ([2, 3, 4, 5], f17_c17000, 31) := by kernel_rfl
theorem kl_28000 : K.loop 28000 = some ([2, 3, 4, 5, 7, 8, 9], f28_c28000, 135) := by kernel_rfl
theorem kl_28001 : K.loop 28001 = some ([2, 3, 4, 5, 7, 8, 9, 10, 11], f28_c28001, 135) := by kernel_rfl
theorem kl_28002 : K.loop 28002 = some ([2, 3, 4, 5, 7, 8, 9, 10, 11, 14], f28_c28002, 135) := by kernel_rfl
theorem kl_30000 : K.loop 30000 = some ([1, 2, 10, 11, 12], f30_c30000, 27) := by kernel_rfl
theorem kl_32000 : K.loop 32000 = some ([1, 2, 3, 4], f32_c32000, 83) := by kernel_rfl
theorem kl_32001 : K.loop 32001 = some ([1, 2, 3, 4, 5], f32_c32001, 83) := by kernel_rfl
theorem kl_37000 : K.loop 37000 = some ([1, 2, 3, 8, 9, 10], f37_c37000, 23) := by kernel_rfl
theorem kl_42000 : K.loop 42000 = some ([3, 8, 9, 10], f42_c42000, 21) := by kernel_rfl
theorem kl_52000 : K.loop 52000 = some ([0, 1, 4, 5], f52_c52000, 26) := by kernel_rfl
theorem kl_53000 : K.loop 53000 = some ([2, 4, 5, 6], f53_c53000, 19) := by kernel_rfl
theorem kl_59000 : K.loop 59000 = some ([1, 2, 3, 4], f59_c59000, 19) := by kernel_rfl
theorem kl_60000 : K.loop 60000 = some ([0, 3, 4, 5], f60_c60000, 43) := by kernel_rfl
theorem kl_61000 : K.loop 61000 = some ([0, 2, 3, 4, 5], f61_c61000, 51) := by kernel_rfl
theorem kl_62000 : K.loop 62000 = some ([0, 4, 5], f62_c62000, 16) := by kernel_rfl
theorem kl_63000 : K.loop 63000 = some ([0, 4, 5, 6, 10, 11], f63_c63000, 58) := by kernel_rfl
theorem kl_64000 : K.loop 64000 = some ([1, 2, 3, 4], f64_c64000, 30) := by kernel_rfl
theorem kl_72000 : K.loop 72000 = some ([2, 3, 6, 7], f72_c72000, 23) := by kernel_rfl
theorem kl_73000 : K.loop 73000 = some ([2, 3, 6, 7], f73_c73000, 16) := by kernel_rfl
theorem kl_74000 : K.loop 74000 = some ([2, 6, 7, 8], f74_c74000, 18) := by kernel_rfl
theorem kl_75000 : K.loop 75000 = some ([2, 3, 4, 5, 13, 14, 15], f75_c75000, 76) := by kernel_rfl
theorem kl_75001 : K.loop 75001 = some ([2, 3, 4, 5, 7, 8, 13, 14, 15, 25, 26, 27], f75_c75001, 76) := by kernel_rfl
theorem kl_75002 : K.loop 75002 = some ([2, 3, 4, 5, 7, 8, 10, 13, 14, 15, 25, 26, 27, 31], f75_c75002, 76) := by kernel_rfl
theorem kl_76000 : K.loop 76000 = some ([0, 1, 3, 8, 9], f76_c76000, 45) := by kernel_rfl
theorem kl_76001 : K.loop 76001 = some ([0, 1, 14, 15], f76_c76001, 45) := by kernel_rfl
theorem kl_76002 : K.loop 76002 = some ([0, 1, 5, 6, 7, 14, 15], f76_c76002, 45) := by kernel_rfl
theorem kl_77000 : K.loop 77000 = some ([0, 2, 3], f77_c77000, 28) := by kernel_rfl
theorem kl_78000 : K.loop 78000 = some ([0, 1, 4, 12, 13], f78_c78000, 26) := by kernel_rfl
theorem kl_86000 : K.loop 86000 = some ([0, 1, 8, 9], f86_c86000, 30) := by kernel_rfl
theorem kl_86001 : K.loop 86001 = some ([0, 1, 3, 8, 9, 16, 17], f86_c86001, 30) := by kernel_rfl
theorem kl_87000 : K.loop 87000 = some ([1, 5, 15, 16, 17], f87_c87000, 49) := by kernel_rfl
theorem kl_97000 : K.loop 97000 = some ([3, 8, 9, 10, 11], f97_c97000, 67) := by kernel_rfl
theorem kl_100000 : K.loop 100000 = some ([0, 1, 2, 6, 11, 12, 13], f100_c100000, 39) := by kernel_rfl
theorem kl_101000 : K.loop 101000 = some ([2, 3, 4, 10], f101_c101000, 62) := by kernel_rfl
theorem kl_101001 : K.loop 101001 = some ([2, 3, 4, 5, 10, 31], f101_c101001, 62) := by kernel_rfl
theorem kl_102000 : K.loop 102000 = some ([1, 4, 17, 18], f102_c102000, 85) := by kernel_rfl
theorem kl_102001 : K.loop 102001 = some ([1, 4, 6, 26, 27], f102_c102001, 85) := by kernel_rfl
theorem kl_102002 : K.loop 102002 = some ([1, 4, 6, 8, 9, 26, 27], f102_c102002, 85) := by kernel_rfl
theorem kl_102003 : K.loop 102003 = some ([1, 4, 6, 8, 9, 26, 27, 54, 55], f102_c102003, 85) := by kernel_rfl
theorem kl_103000 : K.loop 103000 = some ([0, 4], f103_c103000, 27) := by kernel_rfl
theorem kl_105000 : K.loop 105000 = some ([0, 1, 4, 5, 12], f105_c105000, 99) := by kernel_rfl
theorem kl_106000 : K.loop 106000 = some ([0, 1, 2, 6, 7, 8], f106_c106000, 63) := by kernel_rfl
theorem kl_106001 : K.loop 106001 = some ([0, 1, 2, 6], f106_c106001, 63) := by kernel_rfl
theorem kl_106002 : K.loop 106002 = some ([0, 1, 2, 6, 7, 8], f106_c106002, 63) := by kernel_rfl
theorem kl_108000 : K.loop 108000 = some ([0, 1, 2, 3, 8], f108_c108000, 53) := by kernel_rfl
theorem kl_108001 : K.loop 108001 = some ([0, 1, 2, 3, 8, 9], f108_c108001, 53) := by kernel_rfl
theorem kl_109000 : K.loop 109000 = some ([0, 1, 4, 10, 11], f109_c109000, 220) := by kernel_rfl
theorem kl_109001 : K.loop 109001 = some ([0, 10, 13], f109_c109001, 220) := by kernel_rfl
theorem kl_109002 : K.loop 109002 = some ([0, 2, 4, 14, 15], f109_c109002, 220) := by kernel_rfl
theorem kl_109003 : K.loop 109003 = some ([0, 14, 17], f109_c109003, 220) := by kernel_rfl
theorem kl_109004 : K.loop 109004 = some ([0, 1, 2, 3, 4, 18, 19, 20, 21, 22], f109_c109004, 220) := by kernel_rfl
theorem kl_111000 : K.loop 111000 = some ([0, 2, 4, 10, 11], f111_c111000, 58) := by kernel_rfl
theorem kl_112000 : K.loop 112000 = some ([0, 1, 2, 3, 10], f112_c112000, 38) := by kernel_rfl
theorem kr_24000 : K.rng 60 [43] = some ([2, 3, 5], f24_a24000, f24_c24000) := by kernel_rfl
theorem kr_48000 : K.rng 71 [13, 14] = some ([1, 2, 3], f48_a48000, f48_c48000) := by kernel_rfl
theorem kr_87001 : K.rng 49 [30] = some ([1, 5, 6, 7], f87_a87001, f87_c87001) := by kernel_rfl
theorem ck_4 : CodeOK K f4_f.nt f4_f.code := (And.intro trivial (And.intro (And.intro trivial (And.intro (And.intro trivial trivial) trivial)) (And.intro (And.intro trivial (And.intro (And.intro trivial trivial) trivial)) (And.intro trivial (And.intro (And.intro trivial (And.intro (And.intro trivial trivial) trivial)) (And.intro trivial (And.intro trivial (And.intro (And.intro trivial (And.intro (And.intro trivial trivial) trivial)) (And.intro trivial (And.intro (And.intro trivial (And.intro (And.intro trivial trivial) trivial)) (And.intro trivial (And.intro trivial trivial))))))))))))
theorem fe_4 : FE (H := H) P bk K 4 (fun o vs h c => match vs with | [t0, t1, t2] => f4_S o t0 t1 t2 h c | _ => none) := by
  refine ⟨f4_f, bk_4, rfl, ck_4, fun o vs h c r e => ?_⟩
  dsimp only at e
  split at e
  · exact ⟨rfl, (f4_S_eq o _ _ _ h c).trans e⟩
  · cases e
theorem ck_8 : CodeOK K f8_f.nt f8_f.code := (And.intro trivial (And.intro trivial (And.intro trivial (And.intro (And.intro trivial (And.intro (And.intro trivial trivial) trivial)) (And.intro trivial (And.intro trivial (And.intro trivial (And.intro trivial (And.intro trivial trivial)))))))))
theorem fe_8 : FE (H := H) P bk K 8 (fun o vs h c => match vs with | [] => f8_S o h c | _ => none) := by
  refine ⟨f8_f, bk_8, rfl, ck_8, fun o vs h c r e => ?_⟩
  dsimp only at e
  split at e
  · exact ⟨rfl, (f8_S_eq o h c).trans e⟩
  · cases e
theorem ck_10 : CodeOK K f10_f.nt f10_f.code := (And.intro trivial (And.intro (And.intro trivial (And.intro (And.intro trivial trivial) trivial)) (And.intro trivial trivial)))
theorem fe_10 : FE (H := H) P bk K 10 (fun o vs h c => match vs with | [t0] => f10_S o t0 h c | _ => none) := by
  refine ⟨f10_f, bk_10, rfl, ck_10, fun o vs h c r e => ?_⟩
  dsimp only at e
  split at e
  · exact ⟨rfl, (f10_S_eq o _ h c).trans e⟩
  · cases e
theorem ck_13 : CodeOK K f13_f.nt f13_f.code := (And.intro trivial (And.intro (And.intro trivial (And.intro (And.intro trivial trivial) trivial)) (And.intro trivial (And.intro (And.intro trivial (And.intro (And.intro trivial trivial) trivial)) (And.intro trivial trivial)))))
theorem fe_13 : FE (H := H) P bk K 13 (fun o vs h c => match vs with | [t0] => f13_S o t0 h c | _ => none) := by
  refine ⟨f13_f, bk_13, rfl, ck_13, fun o vs h c r e => ?_⟩
  dsimp only at e
  split at e
  · exact ⟨rfl, (f13_S_eq o _ h c).trans e⟩
  · cases e
theorem ck_14 : CodeOK K f14_f.nt f14_f.code := (And.intro trivial (And.intro (And.intro trivial (And.intro (And.intro trivial trivial) trivial)) (And.intro (And.intro trivial (And.intro trivial (And.intro (And.intro trivial trivial) trivial))) (And.intro trivial trivial))))
theorem fe_14 : FE (H := H) P bk K 14 (fun o vs h c => match vs with | [t0, t1] => f14_S o t0 t1 h c | _ => none) := by
  refine ⟨f14_f, bk_14, rfl, ck_14, fun o vs h c r e => ?_⟩
  dsimp only at e
  split at e
  · exact ⟨rfl, (f14_S_eq o _ _ h c).trans e⟩
  · cases e
theorem kc_17000 : CodeOK K 31 f17_c17000 := (And.intro (And.intro trivial (And.intro trivial trivial)) (And.intro (And.intro trivial (And.intro (And.intro trivial trivial) trivial)) trivial))
theorem le_17000 : LE (H := H) P K 17000 (fun o rd vs h c df => match vs with | [t2, t3, t4, t5] => f17_L17000 o rd t2 t3 t4 t5 h c df | _ => none) := by
  intro lin b nt hk
  rw [kl_17000] at hk
  cases hk
  refine ⟨kc_17000, fun o rd vs h c df q e => ?_⟩
  dsimp only at e
  split at e
  · exact (f17_L17000_eq o rd _ _ _ _ h c df).trans e
  · cases e
theorem ck_17 : CodeOK K f17_f.nt f17_f.code := (And.intro trivial (And.intro (And.intro trivial (And.intro (And.intro trivial trivial) trivial)) (And.intro (And.intro trivial (And.intro rfl kl_17000)) (And.intro trivial trivial))))
theorem fe_17 : FE (H := H) P bk K 17 (fun o vs h c => match vs with | [t0, t1] => f17_S o t0 t1 h c | _ => none) := by
  refine ⟨f17_f, bk_17, rfl, ck_17, fun o vs h c r e => ?_⟩
  dsimp only at e
  split at e
  · exact ⟨rfl, (f17_S_eq o _ _ h c).trans e⟩
  · cases e
theorem ck_20 : CodeOK K f20_f.nt f20_f.code := (And.intro trivial (And.intro (And.intro trivial (And.intro (And.intro trivial trivial) trivial)) (And.intro trivial (And.intro trivial trivial))))
theorem fe_20 : FE (H := H) P bk K 20 (fun o vs h c => match vs with | [t0] => f20_S o t0 h c | _ => none) := by
  refine ⟨f20_f, bk_20, rfl, ck_20, fun o vs h c r e => ?_⟩
  dsimp only at e
  split at e
  · exact ⟨rfl, (f20_S_eq o _ h c).trans e⟩
  · cases e
theorem ka_24000 : CodeOK K 60 f24_a24000 := trivial
theorem kc_24000 : CodeOK K 60 f24_c24000 := (And.intro trivial (And.intro trivial (And.intro (And.intro trivial trivial) trivial)))
theorem re_24000 : RE (H := H) P K 60 [43] (fun o l vs h c => match vs with | [t43, t2, t3, t5] => f24_R24000 o l t43 t2 t3 t5 h c | _ => none) := by
  intro lin a b hk
  rw [kr_24000] at hk
  cases hk
  refine ⟨ka_24000, kc_24000, fun o l vs h c r e => ?_⟩
  dsimp only at e
  split at e
  · exact (f24_R24000_eq o l _ _ _ _ h c).trans e
  · cases e
theorem ck_24 : CodeOK K f24_f.nt f24_f.code := (And.intro trivial (And.intro (And.intro trivial (And.intro trivial (And.intro (And.intro trivial trivial) trivial))) (And.intro (And.intro trivial (And.intro (And.intro trivial trivial) trivial)) (And.intro (And.intro trivial (And.intro (And.intro trivial trivial) trivial)) (And.intro trivial (And.intro (And.intro trivial (And.intro (And.intro trivial trivial) trivial)) (And.intro (And.intro trivial (And.intro rfl kr_24000)) (And.intro trivial trivial))))))))
theorem fe_24 : FE (H := H) P bk K 24 (fun o vs h c => match vs with | [t0] => f24_S o t0 h c | _ => none) := by
  refine ⟨f24_f, bk_24, rfl, ck_24, fun o vs h c r e => ?_⟩
  dsimp only at e
  split at e
  · exact ⟨rfl, (f24_S_eq o _ h c).trans e⟩
  · cases e
theorem ck_25 : CodeOK K f25_f.nt f25_f.code := (And.intro trivial (And.intro trivial trivial))
theorem fe_25 : FE (H := H) P bk K 25 (fun o vs h c => match vs with | [t0, t1] => f25_S o t0 t1 h c | _ => none) := by
  refine ⟨f25_f, bk_25, rfl, ck_25, fun o vs h c r e => ?_⟩
  dsimp only at e
  split at e
  · exact ⟨rfl, (f25_S_eq o _ _ h c).trans e⟩
  · cases e
theorem kc_28002 : CodeOK K 135 f28_c28002 := (And.intro (And.intro trivial (And.intro trivial trivial)) (And.intro (And.intro trivial (And.intro (And.intro trivial (And.intro (And.intro trivial trivial) trivial)) trivial)) trivial))
theorem le_28002 : LE (H := H) P K 28002 (fun o rd vs h c df => match vs with | [t2, t3, t4, t5, t7, t8, t9, t10, t11, t14] => f28_L28002 o rd t2 t3 t4 t5 t7 t8 t9 t10 t11 t14 h c df | _ => none) := by
  intro lin b nt hk
  rw [kl_28002] at hk
  cases hk
  refine ⟨kc_28002, fun o rd vs h c df q e => ?_⟩
  dsimp only at e
  split at e
  · exact (f28_L28002_eq o rd _ _ _ _ _ _ _ _ _ _ h c df).trans e
  · cases e
theorem kc_28001 : CodeOK K 135 f28_c28001 := (And.intro (And.intro trivial (And.intro trivial trivial)) (And.intro (And.intro (And.intro trivial (And.intro (And.intro trivial trivial) trivial)) (And.intro (And.intro trivial (And.intro (And.intro trivial (And.intro trivial trivial)) trivial)) (And.intro trivial (And.intro (And.intro trivial (And.intro (And.intro trivial trivial) trivial)) (And.intro trivial (And.intro (And.intro trivial (And.intro rfl kl_28002)) trivial)))))) trivial))
theorem le_28001 : LE (H := H) P K 28001 (fun o rd vs h c df => match vs with | [t2, t3, t4, t5, t7, t8, t9, t10, t11] => f28_L28001 o rd t2 t3 t4 t5 t7 t8 t9 t10 t11 h c df | _ => none) := by
  intro lin b nt hk
  rw [kl_28001] at hk
  cases hk
  refine ⟨kc_28001, fun o rd vs h c df q e => ?_⟩
  dsimp only at e
  split at e
  · exact (f28_L28001_eq o rd _ _ _ _ _ _ _ _ _ h c df).trans e
  · cases e
theorem kc_28000 : CodeOK K 135 f28_c28000 := (And.intro (And.intro trivial (And.intro trivial trivial)) (And.intro (And.intro trivial (And.intro (And.intro trivial (And.intro rfl kl_28001)) trivial)) trivial))
theorem le_28000 : LE (H := H) P K 28000 (fun o rd vs h c df => match vs with | [t2, t3, t4, t5, t7, t8, t9] => f28_L28000 o rd t2 t3 t4 t5 t7 t8 t9 h c df | _ => none) := by
  intro lin b nt hk
  rw [kl_28000] at hk
  cases hk
  refine ⟨kc_28000, fun o rd vs h c df q e => ?_⟩
  dsimp only at e
  split at e
  · exact (f28_L28000_eq o rd _ _ _ _ _ _ _ h c df).trans e
  · cases e
theorem ck_28 : CodeOK K f28_f.nt f28_f.code := (And.intro trivial (And.intro (And.intro trivial (And.intro (And.intro trivial trivial) trivial)) (And.intro trivial (And.intro (And.intro trivial (And.intro (And.intro trivial trivial) trivial)) (And.intro trivial (And.intro (And.intro trivial (And.intro (And.intro trivial trivial) trivial)) (And.intro trivial (And.intro trivial (And.intro (And.intro trivial (And.intro rfl kl_28000)) (And.intro (And.intro trivial (And.intro (And.intro trivial trivial) trivial)) (And.intro (And.intro trivial (And.intro (And.intro trivial trivial) trivial)) (And.intro trivial trivial))))))))))))
theorem fe_28 : FE (H := H) P bk K 28 (fun o vs h c => match vs with | [t0] => f28_S o t0 h c | _ => none) := by
  refine ⟨f28_f, bk_28, rfl, ck_28, fun o vs h c r e => ?_⟩
  dsimp only at e
  split at e
  · exact ⟨rfl, (f28_S_eq o _ h c).trans e⟩
  · cases e
theorem ck_29 : CodeOK K f29_f.nt f29_f.code := (And.intro trivial (And.intro trivial (And.intro trivial trivial)))
theorem fe_29 : FE (H := H) P bk K 29 (fun o vs h c => match vs with | [t0, t1, t2, t3] => f29_S o t0 t1 t2 t3 h c | _ => none) := by
  refine ⟨f29_f, bk_29, rfl, ck_29, fun o vs h c r e => ?_⟩
  dsimp only at e
  split at e
  · exact ⟨rfl, (f29_S_eq o _ _ _ _ h c).trans e⟩
  · cases e
theorem kc_30000 : CodeOK K 27 f30_c30000 := (And.intro trivial (And.intro (And.intro trivial trivial) (And.intro (And.intro trivial (And.intro trivial (And.intro (And.intro trivial trivial) trivial))) trivial)))
theorem le_30000 : LE (H := H) P K 30000 (fun o rd vs h c df => match vs with | [t1, t2, t10, t11, t12] => f30_L30000 o rd t1 t2 t10 t11 t12 h c df | _ => none) := by
  intro lin b nt hk
  rw [kl_30000] at hk
  cases hk
  refine ⟨kc_30000, fun o rd vs h c df q e => ?_⟩
  dsimp only at e
  split at e
  · exact (f30_L30000_eq o rd _ _ _ _ _ h c df).trans e
  · cases e
theorem ck_30 : CodeOK K f30_f.nt f30_f.code := (And.intro trivial (And.intro (And.intro trivial (And.intro rfl kl_30000)) (And.intro trivial trivial)))
theorem fe_30 : FE (H := H) P bk K 30 (fun o vs h c => match vs with | [t0] => f30_S o t0 h c | _ => none) := by
  refine ⟨f30_f, bk_30, rfl, ck_30, fun o vs h c r e => ?_⟩
  dsimp only at e
  split at e
  · exact ⟨rfl, (f30_S_eq o _ h c).trans e⟩
  · cases e
theorem ck_31 : CodeOK K f31_f.nt f31_f.code := (And.intro trivial (And.intro trivial (And.intro trivial (And.intro trivial (And.intro trivial trivial)))))
theorem fe_31 : FE (H := H) P bk K 31 (fun o vs h c => match vs with | [t0] => f31_S o t0 h c | _ => none) := by
  refine ⟨f31_f, bk_31, rfl, ck_31, fun o vs h c r e => ?_⟩
  dsimp only at e
  split at e
  · exact ⟨rfl, (f31_S_eq o _ h c).trans e⟩
  · cases e
theorem kc_32001 : CodeOK K 83 f32_c32001 := (And.intro (And.intro trivial (And.intro trivial trivial)) (And.intro (And.intro trivial (And.intro (And.intro trivial (And.intro trivial trivial)) (And.intro (And.intro trivial (And.intro (And.intro trivial trivial) trivial)) (And.intro trivial (And.intro (And.intro trivial trivial) trivial))))) trivial))
theorem le_32001 : LE (H := H) P K 32001 (fun o rd vs h c df => match vs with | [t1, t2, t3, t4, t5] => f32_L32001 o rd t1 t2 t3 t4 t5 h c df | _ => none) := by
  intro lin b nt hk
  rw [kl_32001] at hk
  cases hk
  refine ⟨kc_32001, fun o rd vs h c df q e => ?_⟩
  dsimp only at e
  split at e
  · exact (f32_L32001_eq o rd _ _ _ _ _ h c df).trans e
  · cases e
theorem kc_32000 : CodeOK K 83 f32_c32000 := (And.intro (And.intro trivial (And.intro trivial trivial)) (And.intro (And.intro trivial (And.intro rfl kl_32001)) trivial))
theorem le_32000 : LE (H := H) P K 32000 (fun o rd vs h c df => match vs with | [t1, t2, t3, t4] => f32_L32000 o rd t1 t2 t3 t4 h c df | _ => none) := by
  intro lin b nt hk
  rw [kl_32000] at hk
  cases hk
  refine ⟨kc_32000, fun o rd vs h c df q e => ?_⟩
  dsimp only at e
  split at e
  · exact (f32_L32000_eq o rd _ _ _ _ h c df).trans e
  · cases e
theorem ck_32 : CodeOK K f32_f.nt f32_f.code := (And.intro trivial (And.intro trivial (And.intro (And.intro trivial (And.intro (And.intro trivial trivial) trivial)) (And.intro (And.intro trivial (And.intro rfl kl_32000)) (And.intro trivial trivial)))))
theorem fe_32 : FE (H := H) P bk K 32 (fun o vs h c => match vs with | [t0] => f32_S o t0 h c | _ => none) := by
  refine ⟨f32_f, bk_32, rfl, ck_32, fun o vs h c r e => ?_⟩
  dsimp only at e
  split at e
  · exact ⟨rfl, (f32_S_eq o _ h c).trans e⟩
  · cases e
theorem kc_37000 : CodeOK K 23 f37_c37000 := (And.intro trivial (And.intro (And.intro trivial trivial) (And.intro (And.intro trivial trivial) trivial)))
theorem le_37000 : LE (H := H) P K 37000 (fun o rd vs h c df => match vs with | [t1, t2, t3, t8, t9, t10] => f37_L37000 o rd t1 t2 t3 t8 t9 t10 h c df | _ => none) := by
  intro lin b nt hk
  rw [kl_37000] at hk
  cases hk
  refine ⟨kc_37000, fun o rd vs h c df q e => ?_⟩
  dsimp only at e
  split at e
  · exact (f37_L37000_eq o rd _ _ _ _ _ _ h c df).trans e
  · cases e
theorem ck_37 : CodeOK K f37_f.nt f37_f.code := (And.intro trivial (And.intro trivial (And.intro (And.intro trivial (And.intro rfl kl_37000)) (And.intro trivial trivial))))
theorem fe_37 : FE (H := H) P bk K 37 (fun o vs h c => match vs with | [t0] => f37_S o t0 h c | _ => none) := by
  refine ⟨f37_f, bk_37, rfl, ck_37, fun o vs h c r e => ?_⟩
  dsimp only at e
  split at e
  · exact ⟨rfl, (f37_S_eq o _ h c).trans e⟩
  · cases e
theorem ck_38 : CodeOK K f38_f.nt f38_f.code := (And.intro trivial (And.intro trivial (And.intro trivial (And.intro trivial trivial))))
theorem fe_38 : FE (H := H) P bk K 38 (fun o vs h c => match vs with | [t0] => f38_S o t0 h c | _ => none) := by
  refine ⟨f38_f, bk_38, rfl, ck_38, fun o vs h c r e => ?_⟩
  dsimp only at e
  split at e
  · exact ⟨rfl, (f38_S_eq o _ h c).trans e⟩
  · cases e
theorem ck_39 : CodeOK K f39_f.nt f39_f.code := (And.intro trivial (And.intro (And.intro trivial (And.intro (And.intro (And.intro trivial (And.intro (And.intro trivial trivial) trivial)) (And.intro trivial trivial)) trivial)) (And.intro trivial (And.intro trivial trivial))))
theorem fe_39 : FE (H := H) P bk K 39 (fun o vs h c => match vs with | [t0, t1] => f39_S o t0 t1 h c | _ => none) := by
  refine ⟨f39_f, bk_39, rfl, ck_39, fun o vs h c r e => ?_⟩
  dsimp only at e
  split at e
  · exact ⟨rfl, (f39_S_eq o _ _ h c).trans e⟩
  · cases e
theorem ck_40 : CodeOK K f40_f.nt f40_f.code := (And.intro trivial (And.intro (And.intro trivial (And.intro (And.intro trivial trivial) trivial)) (And.intro trivial (And.intro trivial (And.intro trivial (And.intro trivial trivial))))))
theorem fe_40 : FE (H := H) P bk K 40 (fun o vs h c => match vs with | [t0, t1] => f40_S o t0 t1 h c | _ => none) := by
  refine ⟨f40_f, bk_40, rfl, ck_40, fun o vs h c r e => ?_⟩
  dsimp only at e
  split at e
  · exact ⟨rfl, (f40_S_eq o _ _ h c).trans e⟩
  · cases e
theorem kc_42000 : CodeOK K 21 f42_c42000 := (And.intro trivial (And.intro (And.intro trivial trivial) (And.intro (And.intro trivial (And.intro trivial trivial)) trivial)))
theorem le_42000 : LE (H := H) P K 42000 (fun o rd vs h c df => match vs with | [t3, t8, t9, t10] => f42_L42000 o rd t3 t8 t9 t10 h c df | _ => none) := by
  intro lin b nt hk
  rw [kl_42000] at hk
  cases hk
  refine ⟨kc_42000, fun o rd vs h c df q e => ?_⟩
  dsimp only at e
  split at e
  · exact (f42_L42000_eq o rd _ _ _ _ h c df).trans e
  · cases e
theorem ck_42 : CodeOK K f42_f.nt f42_f.code := (And.intro trivial (And.intro trivial (And.intro (And.intro trivial (And.intro rfl kl_42000)) (And.intro trivial trivial))))
theorem fe_42 : FE (H := H) P bk K 42 (fun o vs h c => match vs with | [t0] => f42_S o t0 h c | _ => none) := by
  refine ⟨f42_f, bk_42, rfl, ck_42, fun o vs h c r e => ?_⟩
  dsimp only at e
  split at e
  · exact ⟨rfl, (f42_S_eq o _ h c).trans e⟩
  · cases e
theorem ka_48000 : CodeOK K 71 f48_a48000 := (And.intro trivial trivial)
theorem kc_48000 : CodeOK K 71 f48_c48000 := (And.intro (And.intro trivial (And.intro trivial trivial)) (And.intro (And.intro trivial (And.intro (And.intro trivial trivial) trivial)) (And.intro trivial (And.intro (And.intro trivial trivial) trivial))))
theorem re_48000 : RE (H := H) P K 71 [13, 14] (fun o l vs h c => match vs with | [t13, t14, t1, t2, t3] => f48_R48000 o l t13 t14 t1 t2 t3 h c | _ => none) := by
  intro lin a b hk
  rw [kr_48000] at hk
  cases hk
  refine ⟨ka_48000, kc_48000, fun o l vs h c r e => ?_⟩
  dsimp only at e
  split at e
  · exact (f48_R48000_eq o l _ _ _ _ _ h c).trans e
  · cases e
theorem ck_48 : CodeOK K f48_f.nt f48_f.code := (And.intro trivial (And.intro (And.intro trivial (And.intro (And.intro trivial trivial) trivial)) (And.intro trivial (And.intro (And.intro trivial (And.intro rfl kr_48000)) (And.intro trivial trivial)))))
theorem fe_48 : FE (H := H) P bk K 48 (fun o vs h c => match vs with | [t0] => f48_S o t0 h c | _ => none) := by
  refine ⟨f48_f, bk_48, rfl, ck_48, fun o vs h c r e => ?_⟩
  dsimp only at e
  split at e
  · exact ⟨rfl, (f48_S_eq o _ h c).trans e⟩
  · cases e
theorem ck_49 : CodeOK K f49_f.nt f49_f.code := (And.intro trivial (And.intro (And.intro trivial (And.intro trivial (And.intro (And.intro trivial trivial) trivial))) (And.intro trivial (And.intro trivial trivial))))
theorem fe_49 : FE (H := H) P bk K 49 (fun o vs h c => match vs with | [t0] => f49_S o t0 h c | _ => none) := by
  refine ⟨f49_f, bk_49, rfl, ck_49, fun o vs h c r e => ?_⟩
  dsimp only at e
  split at e
  · exact ⟨rfl, (f49_S_eq o _ h c).trans e⟩
  · cases e
theorem ck_50 : CodeOK K f50_f.nt f50_f.code := (And.intro trivial (And.intro trivial trivial))
theorem fe_50 : FE (H := H) P bk K 50 (fun o vs h c => match vs with | [t0] => f50_S o t0 h c | _ => none) := by
  refine ⟨f50_f, bk_50, rfl, ck_50, fun o vs h c r e => ?_⟩
  dsimp only at e
  split at e
  · exact ⟨rfl, (f50_S_eq o _ h c).trans e⟩
  · cases e
theorem ck_51 : CodeOK K f51_f.nt f51_f.code := (And.intro trivial (And.intro trivial trivial))
theorem fe_51 : FE (H := H) P bk K 51 (fun o vs h c => match vs with | [t0, t1] => f51_S o t0 t1 h c | _ => none) := by
  refine ⟨f51_f, bk_51, rfl, ck_51, fun o vs h c r e => ?_⟩
  dsimp only at e
  split at e
  · exact ⟨rfl, (f51_S_eq o _ _ h c).trans e⟩
  · cases e
theorem kc_52000 : CodeOK K 26 f52_c52000 := (And.intro (And.intro trivial (And.intro trivial trivial)) (And.intro (And.intro trivial (And.intro (And.intro trivial trivial) trivial)) trivial))
theorem le_52000 : LE (H := H) P K 52000 (fun o rd vs h c df => match vs with | [t0, t1, t4, t5] => f52_L52000 o rd t0 t1 t4 t5 h c df | _ => none) := by
  intro lin b nt hk
  rw [kl_52000] at hk
  cases hk
  refine ⟨kc_52000, fun o rd vs h c df q e => ?_⟩
  dsimp only at e
  split at e
  · exact (f52_L52000_eq o rd _ _ _ _ h c df).trans e
  · cases e
theorem ck_52 : CodeOK K f52_f.nt f52_f.code := (And.intro trivial (And.intro (And.intro trivial (And.intro (And.intro trivial trivial) trivial)) (And.intro (And.intro trivial (And.intro rfl kl_52000)) (And.intro trivial trivial))))
theorem fe_52 : FE (H := H) P bk K 52 (fun o vs h c => match vs with | [t0, t1] => f52_S o t0 t1 h c | _ => none) := by
  refine ⟨f52_f, bk_52, rfl, ck_52, fun o vs h c r e => ?_⟩
  dsimp only at e
  split at e
  · exact ⟨rfl, (f52_S_eq o _ _ h c).trans e⟩
  · cases e
theorem kc_53000 : CodeOK K 19 f53_c53000 := (And.intro trivial (And.intro (And.intro trivial trivial) (And.intro trivial trivial)))
theorem le_53000 : LE (H := H) P K 53000 (fun o rd vs h c df => match vs with | [t2, t4, t5, t6] => f53_L53000 o rd t2 t4 t5 t6 h c df | _ => none) := by
  intro lin b nt hk
  rw [kl_53000] at hk
  cases hk
  refine ⟨kc_53000, fun o rd vs h c df q e => ?_⟩
  dsimp only at e
  split at e
  · exact (f53_L53000_eq o rd _ _ _ _ h c df).trans e
  · cases e
theorem ck_53 : CodeOK K f53_f.nt f53_f.code := (And.intro trivial (And.intro (And.intro trivial (And.intro rfl kl_53000)) (And.intro trivial trivial)))
theorem fe_53 : FE (H := H) P bk K 53 (fun o vs h c => match vs with | [t0, t1] => f53_S o t0 t1 h c | _ => none) := by
  refine ⟨f53_f, bk_53, rfl, ck_53, fun o vs h c r e => ?_⟩
  dsimp only at e
  split at e
  · exact ⟨rfl, (f53_S_eq o _ _ h c).trans e⟩
  · cases e
theorem ck_55 : CodeOK K f55_f.nt f55_f.code := (And.intro trivial (And.intro trivial trivial))
theorem fe_55 : FE (H := H) P bk K 55 (fun o vs h c => match vs with | [t0] => f55_S o t0 h c | _ => none) := by
  refine ⟨f55_f, bk_55, rfl, ck_55, fun o vs h c r e => ?_⟩
  dsimp only at e
  split at e
  · exact ⟨rfl, (f55_S_eq o _ h c).trans e⟩
  · cases e
theorem kc_59000 : CodeOK K 19 f59_c59000 := (And.intro (And.intro trivial (And.intro trivial trivial)) (And.intro trivial trivial))
theorem le_59000 : LE (H := H) P K 59000 (fun o rd vs h c df => match vs with | [t1, t2, t3, t4] => f59_L59000 o rd t1 t2 t3 t4 h c df | _ => none) := by
  intro lin b nt hk
  rw [kl_59000] at hk
  cases hk
  refine ⟨kc_59000, fun o rd vs h c df q e => ?_⟩
  dsimp only at e
  split at e
  · exact (f59_L59000_eq o rd _ _ _ _ h c df).trans e
  · cases e
theorem ck_59 : CodeOK K f59_f.nt f59_f.code := (And.intro trivial (And.intro trivial (And.intro (And.intro trivial (And.intro (And.intro trivial trivial) trivial)) (And.intro (And.intro trivial (And.intro rfl kl_59000)) (And.intro trivial trivial)))))
theorem fe_59 : FE (H := H) P bk K 59 (fun o vs h c => match vs with | [t0] => f59_S o t0 h c | _ => none) := by
  refine ⟨f59_f, bk_59, rfl, ck_59, fun o vs h c r e => ?_⟩
  dsimp only at e
  split at e
  · exact ⟨rfl, (f59_S_eq o _ h c).trans e⟩
  · cases e
theorem kc_60000 : CodeOK K 43 f60_c60000 := (And.intro (And.intro trivial (And.intro trivial trivial)) (And.intro (And.intro trivial (And.intro (And.intro trivial (And.intro trivial trivial)) (And.intro trivial (And.intro (And.intro trivial trivial) trivial)))) trivial))
theorem le_60000 : LE (H := H) P K 60000 (fun o rd vs h c df => match vs with | [t0, t3, t4, t5] => f60_L60000 o rd t0 t3 t4 t5 h c df | _ => none) := by
  intro lin b nt hk
  rw [kl_60000] at hk
  cases hk
  refine ⟨kc_60000, fun o rd vs h c df q e => ?_⟩
  dsimp only at e
  split at e
  · exact (f60_L60000_eq o rd _ _ _ _ h c df).trans e
  · cases e
theorem ck_60 : CodeOK K f60_f.nt f60_f.code := (And.intro trivial (And.intro trivial (And.intro trivial (And.intro (And.intro trivial (And.intro rfl kl_60000)) (And.intro trivial trivial)))))
theorem fe_60 : FE (H := H) P bk K 60 (fun o vs h c => match vs with | [t0] => f60_S o t0 h c | _ => none) := by
  refine ⟨f60_f, bk_60, rfl, ck_60, fun o vs h c r e => ?_⟩
  dsimp only at e
  split at e
  · exact ⟨rfl, (f60_S_eq o _ h c).trans e⟩
  · cases e
theorem kc_61000 : CodeOK K 51 f61_c61000 := (And.intro (And.intro trivial (And.intro trivial trivial)) (And.intro (And.intro (And.intro trivial (And.intro (And.intro trivial trivial) trivial)) trivial) trivial))
theorem le_61000 : LE (H := H) P K 61000 (fun o rd vs h c df => match vs with | [t0, t2, t3, t4, t5] => f61_L61000 o rd t0 t2 t3 t4 t5 h c df | _ => none) := by
  intro lin b nt hk
  rw [kl_61000] at hk
  cases hk
  refine ⟨kc_61000, fun o rd vs h c df q e => ?_⟩
  dsimp only at e
  split at e
  · exact (f61_L61000_eq o rd _ _ _ _ _ h c df).trans e
  · cases e
theorem ck_61 : CodeOK K f61_f.nt f61_f.code := (And.intro trivial (And.intro (And.intro trivial (And.intro (And.intro trivial trivial) trivial)) (And.intro trivial (And.intro (And.intro trivial (And.intro rfl kl_61000)) (And.intro trivial trivial)))))
theorem fe_61 : FE (H := H) P bk K 61 (fun o vs h c => match vs with | [t0] => f61_S o t0 h c | _ => none) := by
  refine ⟨f61_f, bk_61, rfl, ck_61, fun o vs h c r e => ?_⟩
  dsimp only at e
  split at e
  · exact ⟨rfl, (f61_S_eq o _ h c).trans e⟩
  · cases e
theorem kc_62000 : CodeOK K 16 f62_c62000 := (And.intro trivial (And.intro (And.intro trivial trivial) (And.intro trivial trivial)))
theorem le_62000 : LE (H := H) P K 62000 (fun o rd vs h c df => match vs with | [t0, t4, t5] => f62_L62000 o rd t0 t4 t5 h c df | _ => none) := by
  intro lin b nt hk
  rw [kl_62000] at hk
  cases hk
  refine ⟨kc_62000, fun o rd vs h c df q e => ?_⟩
  dsimp only at e
  split at e
  · exact (f62_L62000_eq o rd _ _ _ h c df).trans e
  · cases e
theorem ck_62 : CodeOK K f62_f.nt f62_f.code := (And.intro trivial (And.intro rfl kl_62000))
theorem fe_62 : FE (H := H) P bk K 62 (fun o vs h c => match vs with | [t0, t1] => f62_S o t0 t1 h c | _ => none) := by
  refine ⟨f62_f, bk_62, rfl, ck_62, fun o vs h c r e => ?_⟩
  dsimp only at e
  split at e
  · exact ⟨rfl, (f62_S_eq o _ _ h c).trans e⟩
  · cases e
theorem kc_63000 : CodeOK K 58 f63_c63000 := (And.intro trivial (And.intro (And.intro trivial trivial) (And.intro (And.intro trivial trivial) trivial)))
theorem le_63000 : LE (H := H) P K 63000 (fun o rd vs h c df => match vs with | [t0, t4, t5, t6, t10, t11] => f63_L63000 o rd t0 t4 t5 t6 t10 t11 h c df | _ => none) := by
  intro lin b nt hk
  rw [kl_63000] at hk
  cases hk
  refine ⟨kc_63000, fun o rd vs h c df q e => ?_⟩
  dsimp only at e
  split at e
  · exact (f63_L63000_eq o rd _ _ _ _ _ _ h c df).trans e
  · cases e
theorem ck_63 : CodeOK K f63_f.nt f63_f.code := (And.intro trivial (And.intro trivial (And.intro (And.intro trivial (And.intro rfl kl_63000)) (And.intro trivial (And.intro trivial trivial)))))
theorem fe_63 : FE (H := H) P bk K 63 (fun o vs h c => match vs with | [t0, t1, t2] => f63_S o t0 t1 t2 h c | _ => none) := by
  refine ⟨f63_f, bk_63, rfl, ck_63, fun o vs h c r e => ?_⟩
  dsimp only at e
  split at e
  · exact ⟨rfl, (f63_S_eq o _ _ _ h c).trans e⟩
  · cases e
theorem kc_64000 : CodeOK K 30 f64_c64000 := (And.intro (And.intro trivial (And.intro trivial trivial)) (And.intro (And.intro (And.intro trivial (And.intro (And.intro trivial trivial) trivial)) trivial) trivial))
theorem le_64000 : LE (H := H) P K 64000 (fun o rd vs h c df => match vs with | [t1, t2, t3, t4] => f64_L64000 o rd t1 t2 t3 t4 h c df | _ => none) := by
  intro lin b nt hk
  rw [kl_64000] at hk
  cases hk
  refine ⟨kc_64000, fun o rd vs h c df q e => ?_⟩
  dsimp only at e
  split at e
  · exact (f64_L64000_eq o rd _ _ _ _ h c df).trans e
  · cases e
theorem ck_64 : CodeOK K f64_f.nt f64_f.code := (And.intro trivial (And.intro trivial (And.intro (And.intro trivial (And.intro rfl kl_64000)) (And.intro trivial trivial))))
theorem fe_64 : FE (H := H) P bk K 64 (fun o vs h c => match vs with | [t0] => f64_S o t0 h c | _ => none) := by
  refine ⟨f64_f, bk_64, rfl, ck_64, fun o vs h c r e => ?_⟩
  dsimp only at e
  split at e
  · exact ⟨rfl, (f64_S_eq o _ h c).trans e⟩
  · cases e
theorem ck_67 : CodeOK K f67_f.nt f67_f.code := (And.intro trivial (And.intro trivial trivial))
theorem fe_67 : FE (H := H) P bk K 67 (fun o vs h c => match vs with | [t0, t1] => f67_S o t0 t1 h c | _ => none) := by
  refine ⟨f67_f, bk_67, rfl, ck_67, fun o vs h c r e => ?_⟩
  dsimp only at e
  split at e
  · exact ⟨rfl, (f67_S_eq o _ _ h c).trans e⟩
  · cases e
theorem ck_69 : CodeOK K f69_f.nt f69_f.code := (And.intro trivial (And.intro trivial (And.intro trivial (And.intro trivial (And.intro trivial (And.intro trivial trivial))))))
theorem fe_69 : FE (H := H) P bk K 69 (fun o vs h c => match vs with | [] => f69_S o h c | _ => none) := by
  refine ⟨f69_f, bk_69, rfl, ck_69, fun o vs h c r e => ?_⟩
  dsimp only at e
  split at e
  · exact ⟨rfl, (f69_S_eq o h c).trans e⟩
  · cases e
theorem ck_70 : CodeOK K f70_f.nt f70_f.code := (And.intro trivial (And.intro trivial (And.intro trivial (And.intro trivial trivial))))
theorem fe_70 : FE (H := H) P bk K 70 (fun o vs h c => match vs with | [t0] => f70_S o t0 h c | _ => none) := by
  refine ⟨f70_f, bk_70, rfl, ck_70, fun o vs h c r e => ?_⟩
  dsimp only at e
  split at e
  · exact ⟨rfl, (f70_S_eq o _ h c).trans e⟩
  · cases e
theorem ck_71 : CodeOK K f71_f.nt f71_f.code := (And.intro trivial (And.intro trivial trivial))
theorem fe_71 : FE (H := H) P bk K 71 (fun o vs h c => match vs with | [t0] => f71_S o t0 h c | _ => none) := by
  refine ⟨f71_f, bk_71, rfl, ck_71, fun o vs h c r e => ?_⟩
  dsimp only at e
  split at e
  · exact ⟨rfl, (f71_S_eq o _ h c).trans e⟩
  · cases e
theorem kc_72000 : CodeOK K 23 f72_c72000 := (And.intro trivial (And.intro (And.intro trivial trivial) (And.intro (And.intro trivial (And.intro (And.intro trivial (And.intro (And.intro trivial trivial) trivial)) trivial)) trivial)))
theorem le_72000 : LE (H := H) P K 72000 (fun o rd vs h c df => match vs with | [t2, t3, t6, t7] => f72_L72000 o rd t2 t3 t6 t7 h c df | _ => none) := by
  intro lin b nt hk
  rw [kl_72000] at hk
  cases hk
  refine ⟨kc_72000, fun o rd vs h c df q e => ?_⟩
  dsimp only at e
  split at e
  · exact (f72_L72000_eq o rd _ _ _ _ h c df).trans e
  · cases e
theorem ck_72 : CodeOK K f72_f.nt f72_f.code := (And.intro trivial (And.intro trivial (And.intro (And.intro trivial (And.intro rfl kl_72000)) (And.intro trivial trivial))))
theorem fe_72 : FE (H := H) P bk K 72 (fun o vs h c => match vs with | [t0] => f72_S o t0 h c | _ => none) := by
  refine ⟨f72_f, bk_72, rfl, ck_72, fun o vs h c r e => ?_⟩
  dsimp only at e
  split at e
  · exact ⟨rfl, (f72_S_eq o _ h c).trans e⟩
  · cases e
theorem kc_73000 : CodeOK K 16 f73_c73000 := (And.intro trivial (And.intro (And.intro trivial trivial) (And.intro (And.intro trivial trivial) trivial)))
theorem le_73000 : LE (H := H) P K 73000 (fun o rd vs h c df => match vs with | [t2, t3, t6, t7] => f73_L73000 o rd t2 t3 t6 t7 h c df | _ => none) := by
  intro lin b nt hk
  rw [kl_73000] at hk
  cases hk
  refine ⟨kc_73000, fun o rd vs h c df q e => ?_⟩
  dsimp only at e
  split at e
  · exact (f73_L73000_eq o rd _ _ _ _ h c df).trans e
  · cases e
theorem ck_73 : CodeOK K f73_f.nt f73_f.code := (And.intro trivial (And.intro trivial (And.intro (And.intro trivial (And.intro rfl kl_73000)) (And.intro trivial trivial))))
theorem fe_73 : FE (H := H) P bk K 73 (fun o vs h c => match vs with | [t0] => f73_S o t0 h c | _ => none) := by
  refine ⟨f73_f, bk_73, rfl, ck_73, fun o vs h c r e => ?_⟩
  dsimp only at e
  split at e
  · exact ⟨rfl, (f73_S_eq o _ h c).trans e⟩
  · cases e
theorem kc_74000 : CodeOK K 18 f74_c74000 := (And.intro trivial (And.intro (And.intro trivial trivial) (And.intro (And.intro trivial (And.intro trivial (And.intro trivial (And.intro (And.intro trivial trivial) trivial)))) trivial)))
theorem le_74000 : LE (H := H) P K 74000 (fun o rd vs h c df => match vs with | [t2, t6, t7, t8] => f74_L74000 o rd t2 t6 t7 t8 h c df | _ => none) := by
  intro lin b nt hk
  rw [kl_74000] at hk
  cases hk
  refine ⟨kc_74000, fun o rd vs h c df q e => ?_⟩
  dsimp only at e
  split at e
  · exact (f74_L74000_eq o rd _ _ _ _ h c df).trans e
  · cases e
theorem ck_74 : CodeOK K f74_f.nt f74_f.code := (And.intro trivial (And.intro (And.intro trivial (And.intro rfl kl_74000)) (And.intro trivial trivial)))
theorem fe_74 : FE (H := H) P bk K 74 (fun o vs h c => match vs with | [t0] => f74_S o t0 h c | _ => none) := by
  refine ⟨f74_f, bk_74, rfl, ck_74, fun o vs h c r e => ?_⟩
  dsimp only at e
  split at e
  · exact ⟨rfl, (f74_S_eq o _ h c).trans e⟩
  · cases e
theorem kc_75002 : CodeOK K 76 f75_c75002 := (And.intro trivial (And.intro (And.intro trivial trivial) (And.intro (And.intro trivial (And.intro trivial (And.intro trivial trivial))) trivial)))
theorem le_75002 : LE (H := H) P K 75002 (fun o rd vs h c df => match vs with | [t2, t3, t4, t5, t7, t8, t10, t13, t14, t15, t25, t26, t27, t31] => f75_L75002 o rd t2 t3 t4 t5 t7 t8 t10 t13 t14 t15 t25 t26 t27 t31 h c df | _ => none) := by
  intro lin b nt hk
  rw [kl_75002] at hk
  cases hk
  refine ⟨kc_75002, fun o rd vs h c df q e => ?_⟩
  dsimp only at e
  split at e
  · exact (f75_L75002_eq o rd _ _ _ _ _ _ _ _ _ _ _ _ _ _ h c df).trans e
  · cases e
theorem kc_75001 : CodeOK K 76 f75_c75001 := (And.intro trivial (And.intro (And.intro trivial trivial) (And.intro (And.intro trivial (And.intro (And.intro trivial (And.intro rfl kl_75002)) trivial)) trivial)))
theorem le_75001 : LE (H := H) P K 75001 (fun o rd vs h c df => match vs with | [t2, t3, t4, t5, t7, t8, t13, t14, t15, t25, t26, t27] => f75_L75001 o rd t2 t3 t4 t5 t7 t8 t13 t14 t15 t25 t26 t27 h c df | _ => none) := by
  intro lin b nt hk
  rw [kl_75001] at hk
  cases hk
  refine ⟨kc_75001, fun o rd vs h c df q e => ?_⟩
  dsimp only at e
  split at e
  · exact (f75_L75001_eq o rd _ _ _ _ _ _ _ _ _ _ _ _ h c df).trans e
  · cases e
theorem kc_75000 : CodeOK K 76 f75_c75000 := (And.intro trivial (And.intro (And.intro trivial trivial) (And.intro (And.intro trivial (And.intro trivial (And.intro (And.intro trivial (And.intro rfl kl_75001)) (And.intro trivial trivial)))) trivial)))
theorem le_75000 : LE (H := H) P K 75000 (fun o rd vs h c df => match vs with | [t2, t3, t4, t5, t13, t14, t15] => f75_L75000 o rd t2 t3 t4 t5 t13 t14 t15 h c df | _ => none) := by
  intro lin b nt hk
  rw [kl_75000] at hk
  cases hk
  refine ⟨kc_75000, fun o rd vs h c df q e => ?_⟩
  dsimp only at e
  split at e
  · exact (f75_L75000_eq o rd _ _ _ _ _ _ _ h c df).trans e
  · cases e
theorem ck_75 : CodeOK K f75_f.nt f75_f.code := (And.intro trivial (And.intro trivial (And.intro trivial (And.intro (And.intro trivial (And.intro rfl kl_75000)) (And.intro trivial trivial)))))
theorem fe_75 : FE (H := H) P bk K 75 (fun o vs h c => match vs with | [t0] => f75_S o t0 h c | _ => none) := by
  refine ⟨f75_f, bk_75, rfl, ck_75, fun o vs h c r e => ?_⟩
  dsimp only at e
  split at e
  · exact ⟨rfl, (f75_S_eq o _ h c).trans e⟩
  · cases e
theorem kc_76000 : CodeOK K 45 f76_c76000 := (And.intro trivial (And.intro (And.intro trivial trivial) (And.intro trivial trivial)))
theorem le_76000 : LE (H := H) P K 76000 (fun o rd vs h c df => match vs with | [t0, t1, t3, t8, t9] => f76_L76000 o rd t0 t1 t3 t8 t9 h c df | _ => none) := by
  intro lin b nt hk
  rw [kl_76000] at hk
  cases hk
  refine ⟨kc_76000, fun o rd vs h c df q e => ?_⟩
  dsimp only at e
  split at e
  · exact (f76_L76000_eq o rd _ _ _ _ _ h c df).trans e
  · cases e
theorem kc_76002 : CodeOK K 45 f76_c76002 := (And.intro (And.intro trivial (And.intro trivial trivial)) (And.intro trivial trivial))
theorem le_76002 : LE (H := H) P K 76002 (fun o rd vs h c df => match vs with | [t0, t1, t5, t6, t7, t14, t15] => f76_L76002 o rd t0 t1 t5 t6 t7 t14 t15 h c df | _ => none) := by
  intro lin b nt hk
  rw [kl_76002] at hk
  cases hk
  refine ⟨kc_76002, fun o rd vs h c df q e => ?_⟩
  dsimp only at e
  split at e
  · exact (f76_L76002_eq o rd _ _ _ _ _ _ _ h c df).trans e
  · cases e
theorem kc_76001 : CodeOK K 45 f76_c76001 := (And.intro trivial (And.intro (And.intro trivial trivial) (And.intro (And.intro trivial (And.intro trivial (And.intro (And.intro trivial (And.intro rfl kl_76002)) (And.intro trivial (And.intro trivial (And.intro trivial trivial)))))) trivial)))
theorem le_76001 : LE (H := H) P K 76001 (fun o rd vs h c df => match vs with | [t0, t1, t14, t15] => f76_L76001 o rd t0 t1 t14 t15 h c df | _ => none) := by
  intro lin b nt hk
  rw [kl_76001] at hk
  cases hk
  refine ⟨kc_76001, fun o rd vs h c df q e => ?_⟩
  dsimp only at e
  split at e
  · exact (f76_L76001_eq o rd _ _ _ _ h c df).trans e
  · cases e
theorem ck_76 : CodeOK K f76_f.nt f76_f.code := (And.intro trivial (And.intro (And.intro trivial (And.intro rfl kl_76000)) (And.intro trivial (And.intro rfl kl_76001))))
theorem fe_76 : FE (H := H) P bk K 76 (fun o vs h c => match vs with | [t0, t1] => f76_S o t0 t1 h c | _ => none) := by
  refine ⟨f76_f, bk_76, rfl, ck_76, fun o vs h c r e => ?_⟩
  dsimp only at e
  split at e
  · exact ⟨rfl, (f76_S_eq o _ _ h c).trans e⟩
  · cases e
theorem kc_77000 : CodeOK K 28 f77_c77000 := (And.intro (And.intro trivial (And.intro trivial trivial)) (And.intro trivial trivial))
theorem le_77000 : LE (H := H) P K 77000 (fun o rd vs h c df => match vs with | [t0, t2, t3] => f77_L77000 o rd t0 t2 t3 h c df | _ => none) := by
  intro lin b nt hk
  rw [kl_77000] at hk
  cases hk
  refine ⟨kc_77000, fun o rd vs h c df q e => ?_⟩
  dsimp only at e
  split at e
  · exact (f77_L77000_eq o rd _ _ _ h c df).trans e
  · cases e
theorem ck_77 : CodeOK K f77_f.nt f77_f.code := (And.intro trivial (And.intro rfl kl_77000))
theorem fe_77 : FE (H := H) P bk K 77 (fun o vs h c => match vs with | [t0] => f77_S o t0 h c | _ => none) := by
  refine ⟨f77_f, bk_77, rfl, ck_77, fun o vs h c r e => ?_⟩
  dsimp only at e
  split at e
  · exact ⟨rfl, (f77_S_eq o _ h c).trans e⟩
  · cases e
theorem kc_78000 : CodeOK K 26 f78_c78000 := (And.intro trivial (And.intro (And.intro trivial trivial) (And.intro (And.intro trivial (And.intro trivial (And.intro (And.intro trivial trivial) trivial))) trivial)))
theorem le_78000 : LE (H := H) P K 78000 (fun o rd vs h c df => match vs with | [t0, t1, t4, t12, t13] => f78_L78000 o rd t0 t1 t4 t12 t13 h c df | _ => none) := by
  intro lin b nt hk
  rw [kl_78000] at hk
  cases hk
  refine ⟨kc_78000, fun o rd vs h c df q e => ?_⟩
  dsimp only at e
  split at e
  · exact (f78_L78000_eq o rd _ _ _ _ _ h c df).trans e
  · cases e
theorem ck_78 : CodeOK K f78_f.nt f78_f.code := (And.intro trivial (And.intro (And.intro trivial (And.intro (And.intro trivial trivial) trivial)) (And.intro (And.intro trivial (And.intro rfl kl_78000)) (And.intro trivial trivial))))
theorem fe_78 : FE (H := H) P bk K 78 (fun o vs h c => match vs with | [t0, t1] => f78_S o t0 t1 h c | _ => none) := by
  refine ⟨f78_f, bk_78, rfl, ck_78, fun o vs h c r e => ?_⟩
  dsimp only at e
  split at e
  · exact ⟨rfl, (f78_S_eq o _ _ h c).trans e⟩
  · cases e
theorem ck_79 : CodeOK K f79_f.nt f79_f.code := (And.intro trivial (And.intro trivial (And.intro trivial (And.intro trivial (And.intro trivial trivial)))))
theorem fe_79 : FE (H := H) P bk K 79 (fun o vs h c => match vs with | [t0] => f79_S o t0 h c | _ => none) := by
  refine ⟨f79_f, bk_79, rfl, ck_79, fun o vs h c r e => ?_⟩
  dsimp only at e
  split at e
  · exact ⟨rfl, (f79_S_eq o _ h c).trans e⟩
  · cases e
theorem ck_80 : CodeOK K f80_f.nt f80_f.code := (And.intro trivial (And.intro trivial trivial))
theorem fe_80 : FE (H := H) P bk K 80 (fun o vs h c => match vs with | [t0] => f80_S o t0 h c | _ => none) := by
  refine ⟨f80_f, bk_80, rfl, ck_80, fun o vs h c r e => ?_⟩
  dsimp only at e
  split at e
  · exact ⟨rfl, (f80_S_eq o _ h c).trans e⟩
  · cases e
theorem ck_81 : CodeOK K f81_f.nt f81_f.code := (And.intro trivial (And.intro (And.intro trivial (And.intro (And.intro trivial trivial) trivial)) (And.intro trivial trivial)))
theorem fe_81 : FE (H := H) P bk K 81 (fun o vs h c => match vs with | [t0] => f81_S o t0 h c | _ => none) := by
  refine ⟨f81_f, bk_81, rfl, ck_81, fun o vs h c r e => ?_⟩
  dsimp only at e
  split at e
  · exact ⟨rfl, (f81_S_eq o _ h c).trans e⟩
  · cases e
theorem kc_86001 : CodeOK K 30 f86_c86001 := (And.intro trivial (And.intro (And.intro trivial trivial) (And.intro (And.intro trivial (And.intro trivial (And.intro trivial trivial))) trivial)))
theorem le_86001 : LE (H := H) P K 86001 (fun o rd vs h c df => match vs with | [t0, t1, t3, t8, t9, t16, t17] => f86_L86001 o rd t0 t1 t3 t8 t9 t16 t17 h c df | _ => none) := by
  intro lin b nt hk
  rw [kl_86001] at hk
  cases hk
  refine ⟨kc_86001, fun o rd vs h c df q e => ?_⟩
  dsimp only at e
  split at e
  · exact (f86_L86001_eq o rd _ _ _ _ _ _ _ h c df).trans e
  · cases e
theorem kc_86000 : CodeOK K 30 f86_c86000 := (And.intro trivial (And.intro (And.intro trivial trivial) (And.intro (And.intro trivial (And.intro trivial (And.intro rfl kl_86001))) trivial)))
theorem le_86000 : LE (H := H) P K 86000 (fun o rd vs h c df => match vs with | [t0, t1, t8, t9] => f86_L86000 o rd t0 t1 t8 t9 h c df | _ => none) := by
  intro lin b nt hk
  rw [kl_86000] at hk
  cases hk
  refine ⟨kc_86000, fun o rd vs h c df q e => ?_⟩
  dsimp only at e
  split at e
  · exact (f86_L86000_eq o rd _ _ _ _ h c df).trans e
  · cases e
theorem ck_86 : CodeOK K f86_f.nt f86_f.code := (And.intro trivial (And.intro rfl kl_86000))
theorem fe_86 : FE (H := H) P bk K 86 (fun o vs h c => match vs with | [t0, t1] => f86_S o t0 t1 h c | _ => none) := by
  refine ⟨f86_f, bk_86, rfl, ck_86, fun o vs h c r e => ?_⟩
  dsimp only at e
  split at e
  · exact ⟨rfl, (f86_S_eq o _ _ h c).trans e⟩
  · cases e
theorem kc_87000 : CodeOK K 49 f87_c87000 := (And.intro trivial (And.intro (And.intro trivial trivial) (And.intro (And.intro trivial (And.intro (And.intro trivial (And.intro trivial trivial)) (And.intro trivial (And.intro rfl kr_87001)))) trivial)))
theorem le_87000 : LE (H := H) P K 87000 (fun o rd vs h c df => match vs with | [t1, t5, t15, t16, t17] => f87_L87000 o rd t1 t5 t15 t16 t17 h c df | _ => none) := by
  intro lin b nt hk
  rw [kl_87000] at hk
  cases hk
  refine ⟨kc_87000, fun o rd vs h c df q e => ?_⟩
  dsimp only at e
  split at e
  · exact (f87_L87000_eq o rd _ _ _ _ _ h c df).trans e
  · cases e
theorem ka_87001 : CodeOK K 49 f87_a87001 := trivial
theorem kc_87001 : CodeOK K 49 f87_c87001 := (And.intro trivial (And.intro trivial (And.intro trivial trivial)))
theorem re_87001 : RE (H := H) P K 49 [30] (fun o l vs h c => match vs with | [t30, t1, t5, t6, t7] => f87_R87001 o l t30 t1 t5 t6 t7 h c | _ => none) := by
  intro lin a b hk
  rw [kr_87001] at hk
  cases hk
  refine ⟨ka_87001, kc_87001, fun o l vs h c r e => ?_⟩
  dsimp only at e
  split at e
  · exact (f87_R87001_eq o l _ _ _ _ _ h c).trans e
  · cases e
theorem ck_87 : CodeOK K f87_f.nt f87_f.code := (And.intro trivial (And.intro trivial (And.intro trivial (And.intro (And.intro trivial (And.intro rfl kl_87000)) (And.intro trivial (And.intro trivial trivial))))))
theorem fe_87 : FE (H := H) P bk K 87 (fun o vs h c => match vs with | [t0] => f87_S o t0 h c | _ => none) := by
  refine ⟨f87_f, bk_87, rfl, ck_87, fun o vs h c r e => ?_⟩
  dsimp only at e
  split at e
  · exact ⟨rfl, (f87_S_eq o _ h c).trans e⟩
  · cases e
theorem ck_95 : CodeOK K f95_f.nt f95_f.code := (And.intro trivial (And.intro (And.intro trivial (And.intro trivial (And.intro (And.intro trivial trivial) trivial))) (And.intro trivial (And.intro trivial trivial))))
theorem fe_95 : FE (H := H) P bk K 95 (fun o vs h c => match vs with | [t0] => f95_S o t0 h c | _ => none) := by
  refine ⟨f95_f, bk_95, rfl, ck_95, fun o vs h c r e => ?_⟩
  dsimp only at e
  split at e
  · exact ⟨rfl, (f95_S_eq o _ h c).trans e⟩
  · cases e
theorem ck_96 : CodeOK K f96_f.nt f96_f.code := (And.intro trivial (And.intro trivial trivial))
theorem fe_96 : FE (H := H) P bk K 96 (fun o vs h c => match vs with | [] => f96_S o h c | _ => none) := by
  refine ⟨f96_f, bk_96, rfl, ck_96, fun o vs h c r e => ?_⟩
  dsimp only at e
  split at e
  · exact ⟨rfl, (f96_S_eq o h c).trans e⟩
  · cases e
theorem kc_97000 : CodeOK K 67 f97_c97000 := (And.intro (And.intro trivial (And.intro trivial trivial)) (And.intro (And.intro trivial (And.intro (And.intro trivial (And.intro (And.intro trivial (And.intro trivial (And.intro (And.intro trivial trivial) (And.intro trivial (And.intro trivial trivial))))) trivial)) trivial)) trivial))
theorem le_97000 : LE (H := H) P K 97000 (fun o rd vs h c df => match vs with | [t3, t8, t9, t10, t11] => f97_L97000 o rd t3 t8 t9 t10 t11 h c df | _ => none) := by
  intro lin b nt hk
  rw [kl_97000] at hk
  cases hk
  refine ⟨kc_97000, fun o rd vs h c df q e => ?_⟩
  dsimp only at e
  split at e
  · exact (f97_L97000_eq o rd _ _ _ _ _ h c df).trans e
  · cases e
theorem ck_97 : CodeOK K f97_f.nt f97_f.code := (And.intro trivial (And.intro trivial (And.intro trivial (And.intro trivial (And.intro (And.intro trivial (And.intro rfl kl_97000)) (And.intro (And.intro trivial (And.intro (And.intro trivial trivial) trivial)) (And.intro trivial trivial)))))))
theorem fe_97 : FE (H := H) P bk K 97 (fun o vs h c => match vs with | [t0, t1, t2, t3] => f97_S o t0 t1 t2 t3 h c | _ => none) := by
  refine ⟨f97_f, bk_97, rfl, ck_97, fun o vs h c r e => ?_⟩
  dsimp only at e
  split at e
  · exact ⟨rfl, (f97_S_eq o _ _ _ _ h c).trans e⟩
  · cases e
theorem ck_98 : CodeOK K f98_f.nt f98_f.code := trivial
theorem fe_98 : FE (H := H) P bk K 98 (fun o vs h c => match vs with | [t0, t1] => f98_S o t0 t1 h c | _ => none) := by
  refine ⟨f98_f, bk_98, rfl, ck_98, fun o vs h c r e => ?_⟩
  dsimp only at e
  split at e
  · exact ⟨rfl, (f98_S_eq o _ _ h c).trans e⟩
  · cases e
theorem ck_99 : CodeOK K f99_f.nt f99_f.code := (And.intro trivial (And.intro (And.intro trivial (And.intro (And.intro trivial trivial) trivial)) (And.intro trivial trivial)))
theorem fe_99 : FE (H := H) P bk K 99 (fun o vs h c => match vs with | [t0, t1] => f99_S o t0 t1 h c | _ => none) := by
  refine ⟨f99_f, bk_99, rfl, ck_99, fun o vs h c r e => ?_⟩
  dsimp only at e
  split at e
  · exact ⟨rfl, (f99_S_eq o _ _ h c).trans e⟩
  · cases e
theorem kc_100000 : CodeOK K 39 f100_c100000 := (And.intro trivial (And.intro (And.intro trivial trivial) (And.intro (And.intro trivial (And.intro (And.intro trivial (And.intro (And.intro trivial trivial) trivial)) (And.intro trivial (And.intro trivial (And.intro trivial (And.intro (And.intro trivial trivial) trivial)))))) trivial)))
theorem le_100000 : LE (H := H) P K 100000 (fun o rd vs h c df => match vs with | [t0, t1, t2, t6, t11, t12, t13] => f100_L100000 o rd t0 t1 t2 t6 t11 t12 t13 h c df | _ => none) := by
  intro lin b nt hk
  rw [kl_100000] at hk
  cases hk
  refine ⟨kc_100000, fun o rd vs h c df q e => ?_⟩
  dsimp only at e
  split at e
  · exact (f100_L100000_eq o rd _ _ _ _ _ _ _ h c df).trans e
  · cases e
theorem ck_100 : CodeOK K f100_f.nt f100_f.code := (And.intro trivial (And.intro (And.intro trivial (And.intro rfl kl_100000)) (And.intro (And.intro trivial (And.intro (And.intro trivial trivial) trivial)) (And.intro trivial trivial))))
theorem fe_100 : FE (H := H) P bk K 100 (fun o vs h c => match vs with | [t0, t1, t2] => f100_S o t0 t1 t2 h c | _ => none) := by
  refine ⟨f100_f, bk_100, rfl, ck_100, fun o vs h c r e => ?_⟩
  dsimp only at e
  split at e
  · exact ⟨rfl, (f100_S_eq o _ _ _ h c).trans e⟩
  · cases e
theorem kc_101001 : CodeOK K 62 f101_c101001 := (And.intro trivial (And.intro (And.intro trivial trivial) (And.intro (And.intro trivial (And.intro trivial (And.intro (And.intro trivial trivial) trivial))) trivial)))
theorem le_101001 : LE (H := H) P K 101001 (fun o rd vs h c df => match vs with | [t2, t3, t4, t5, t10, t31] => f101_L101001 o rd t2 t3 t4 t5 t10 t31 h c df | _ => none) := by
  intro lin b nt hk
  rw [kl_101001] at hk
  cases hk
  refine ⟨kc_101001, fun o rd vs h c df q e => ?_⟩
  dsimp only at e
  split at e
  · exact (f101_L101001_eq o rd _ _ _ _ _ _ h c df).trans e
  · cases e
theorem kc_101000 : CodeOK K 62 f101_c101000 := (And.intro trivial (And.intro (And.intro trivial trivial) (And.intro (And.intro trivial (And.intro (And.intro trivial (And.intro (And.intro trivial trivial) trivial)) (And.intro trivial (And.intro rfl kl_101001)))) trivial)))
theorem le_101000 : LE (H := H) P K 101000 (fun o rd vs h c df => match vs with | [t2, t3, t4, t10] => f101_L101000 o rd t2 t3 t4 t10 h c df | _ => none) := by
  intro lin b nt hk
  rw [kl_101000] at hk
  cases hk
  refine ⟨kc_101000, fun o rd vs h c df q e => ?_⟩
  dsimp only at e
  split at e
  · exact (f101_L101000_eq o rd _ _ _ _ h c df).trans e
  · cases e
theorem ck_101 : CodeOK K f101_f.nt f101_f.code := (And.intro trivial (And.intro (And.intro trivial (And.intro (And.intro trivial trivial) trivial)) (And.intro (And.intro trivial (And.intro rfl kl_101000)) (And.intro trivial trivial))))
theorem fe_101 : FE (H := H) P bk K 101 (fun o vs h c => match vs with | [t0, t1] => f101_S o t0 t1 h c | _ => none) := by
  refine ⟨f101_f, bk_101, rfl, ck_101, fun o vs h c r e => ?_⟩
  dsimp only at e
  split at e
  · exact ⟨rfl, (f101_S_eq o _ _ h c).trans e⟩
  · cases e
theorem kc_102000 : CodeOK K 85 f102_c102000 := (And.intro trivial (And.intro (And.intro trivial trivial) (And.intro (And.intro trivial trivial) trivial)))
theorem le_102000 : LE (H := H) P K 102000 (fun o rd vs h c df => match vs with | [t1, t4, t17, t18] => f102_L102000 o rd t1 t4 t17 t18 h c df | _ => none) := by
  intro lin b nt hk
  rw [kl_102000] at hk
  cases hk
  refine ⟨kc_102000, fun o rd vs h c df q e => ?_⟩
  dsimp only at e
  split at e
  · exact (f102_L102000_eq o rd _ _ _ _ h c df).trans e
  · cases e
theorem kc_102003 : CodeOK K 85 f102_c102003 := (And.intro trivial (And.intro (And.intro trivial trivial) (And.intro (And.intro trivial (And.intro trivial (And.intro (And.intro trivial trivial) trivial))) trivial)))
theorem le_102003 : LE (H := H) P K 102003 (fun o rd vs h c df => match vs with | [t1, t4, t6, t8, t9, t26, t27, t54, t55] => f102_L102003 o rd t1 t4 t6 t8 t9 t26 t27 t54 t55 h c df | _ => none) := by
  intro lin b nt hk
  rw [kl_102003] at hk
  cases hk
  refine ⟨kc_102003, fun o rd vs h c df q e => ?_⟩
  dsimp only at e
  split at e
  · exact (f102_L102003_eq o rd _ _ _ _ _ _ _ _ _ h c df).trans e
  · cases e
theorem kc_102002 : CodeOK K 85 f102_c102002 := (And.intro (And.intro trivial (And.intro trivial trivial)) (And.intro (And.intro trivial (And.intro rfl kl_102003)) trivial))
theorem le_102002 : LE (H := H) P K 102002 (fun o rd vs h c df => match vs with | [t1, t4, t6, t8, t9, t26, t27] => f102_L102002 o rd t1 t4 t6 t8 t9 t26 t27 h c df | _ => none) := by
  intro lin b nt hk
  rw [kl_102002] at hk
  cases hk
  refine ⟨kc_102002, fun o rd vs h c df q e => ?_⟩
  dsimp only at e
  split at e
  · exact (f102_L102002_eq o rd _ _ _ _ _ _ _ h c df).trans e
  · cases e
theorem kc_102001 : CodeOK K 85 f102_c102001 := (And.intro trivial (And.intro (And.intro trivial trivial) (And.intro (And.intro trivial (And.intro (And.intro trivial (And.intro trivial trivial)) (And.intro trivial (And.intro trivial (And.intro (And.intro trivial (And.intro rfl kl_102002)) trivial))))) trivial)))
theorem le_102001 : LE (H := H) P K 102001 (fun o rd vs h c df => match vs with | [t1, t4, t6, t26, t27] => f102_L102001 o rd t1 t4 t6 t26 t27 h c df | _ => none) := by
  intro lin b nt hk
  rw [kl_102001] at hk
  cases hk
  refine ⟨kc_102001, fun o rd vs h c df q e => ?_⟩
  dsimp only at e
  split at e
  · exact (f102_L102001_eq o rd _ _ _ _ _ h c df).trans e
  · cases e
theorem ck_102 : CodeOK K f102_f.nt f102_f.code := (And.intro trivial (And.intro trivial (And.intro (And.intro trivial (And.intro rfl kl_102000)) (And.intro trivial (And.intro (And.intro trivial (And.intro rfl kl_102001)) (And.intro trivial trivial))))))
theorem fe_102 : FE (H := H) P bk K 102 (fun o vs h c => match vs with | [t0] => f102_S o t0 h c | _ => none) := by
  refine ⟨f102_f, bk_102, rfl, ck_102, fun o vs h c r e => ?_⟩
  dsimp only at e
  split at e
  · exact ⟨rfl, (f102_S_eq o _ h c).trans e⟩
  · cases e
theorem kc_103000 : CodeOK K 27 f103_c103000 := (And.intro trivial (And.intro (And.intro trivial trivial) (And.intro (And.intro trivial (And.intro trivial (And.intro trivial (And.intro trivial trivial)))) trivial)))
theorem le_103000 : LE (H := H) P K 103000 (fun o rd vs h c df => match vs with | [t0, t4] => f103_L103000 o rd t0 t4 h c df | _ => none) := by
  intro lin b nt hk
  rw [kl_103000] at hk
  cases hk
  refine ⟨kc_103000, fun o rd vs h c df q e => ?_⟩
  dsimp only at e
  split at e
  · exact (f103_L103000_eq o rd _ _ h c df).trans e
  · cases e
theorem ck_103 : CodeOK K f103_f.nt f103_f.code := (And.intro trivial (And.intro rfl kl_103000))
theorem fe_103 : FE (H := H) P bk K 103 (fun o vs h c => match vs with | [t0] => f103_S o t0 h c | _ => none) := by
  refine ⟨f103_f, bk_103, rfl, ck_103, fun o vs h c r e => ?_⟩
  dsimp only at e
  split at e
  · exact ⟨rfl, (f103_S_eq o _ h c).trans e⟩
  · cases e
theorem ck_104 : CodeOK K f104_f.nt f104_f.code := (And.intro trivial (And.intro trivial (And.intro trivial trivial)))
theorem fe_104 : FE (H := H) P bk K 104 (fun o vs h c => match vs with | [t0, t1, t2] => f104_S o t0 t1 t2 h c | _ => none) := by
  refine ⟨f104_f, bk_104, rfl, ck_104, fun o vs h c r e => ?_⟩
  dsimp only at e
  split at e
  · exact ⟨rfl, (f104_S_eq o _ _ _ h c).trans e⟩
  · cases e
theorem kc_105000 : CodeOK K 99 f105_c105000 := (And.intro trivial (And.intro (And.intro trivial trivial) (And.intro (And.intro trivial (And.intro trivial (And.intro (And.intro trivial (And.intro (And.intro trivial trivial) trivial)) (And.intro trivial (And.intro (And.intro trivial (And.intro trivial (And.intro trivial trivial))) (And.intro trivial trivial)))))) trivial)))
theorem le_105000 : LE (H := H) P K 105000 (fun o rd vs h c df => match vs with | [t0, t1, t4, t5, t12] => f105_L105000 o rd t0 t1 t4 t5 t12 h c df | _ => none) := by
  intro lin b nt hk
  rw [kl_105000] at hk
  cases hk
  refine ⟨kc_105000, fun o rd vs h c df q e => ?_⟩
  dsimp only at e
  split at e
  · exact (f105_L105000_eq o rd _ _ _ _ _ h c df).trans e
  · cases e
theorem ck_105 : CodeOK K f105_f.nt f105_f.code := (And.intro trivial (And.intro trivial (And.intro (And.intro trivial (And.intro rfl kl_105000)) (And.intro trivial trivial))))
theorem fe_105 : FE (H := H) P bk K 105 (fun o vs h c => match vs with | [t0, t1] => f105_S o t0 t1 h c | _ => none) := by
  refine ⟨f105_f, bk_105, rfl, ck_105, fun o vs h c r e => ?_⟩
  dsimp only at e
  split at e
  · exact ⟨rfl, (f105_S_eq o _ _ h c).trans e⟩
  · cases e
theorem kc_106000 : CodeOK K 63 f106_c106000 := (And.intro (And.intro trivial (And.intro trivial trivial)) (And.intro trivial (And.intro trivial trivial)))
theorem le_106000 : LE (H := H) P K 106000 (fun o rd vs h c df => match vs with | [t0, t1, t2, t6, t7, t8] => f106_L106000 o rd t0 t1 t2 t6 t7 t8 h c df | _ => none) := by
  intro lin b nt hk
  rw [kl_106000] at hk
  cases hk
  refine ⟨kc_106000, fun o rd vs h c df q e => ?_⟩
  dsimp only at e
  split at e
  · exact (f106_L106000_eq o rd _ _ _ _ _ _ h c df).trans e
  · cases e
theorem kc_106002 : CodeOK K 63 f106_c106002 := (And.intro (And.intro trivial (And.intro trivial trivial)) (And.intro trivial (And.intro trivial trivial)))
theorem le_106002 : LE (H := H) P K 106002 (fun o rd vs h c df => match vs with | [t0, t1, t2, t6, t7, t8] => f106_L106002 o rd t0 t1 t2 t6 t7 t8 h c df | _ => none) := by
  intro lin b nt hk
  rw [kl_106002] at hk
  cases hk
  refine ⟨kc_106002, fun o rd vs h c df q e => ?_⟩
  dsimp only at e
  split at e
  · exact (f106_L106002_eq o rd _ _ _ _ _ _ h c df).trans e
  · cases e
theorem kc_106001 : CodeOK K 63 f106_c106001 := (And.intro (And.intro trivial (And.intro trivial trivial)) (And.intro trivial (And.intro (And.intro rfl kl_106002) (And.intro (And.intro trivial (And.intro trivial (And.intro trivial trivial))) trivial))))
theorem le_106001 : LE (H := H) P K 106001 (fun o rd vs h c df => match vs with | [t0, t1, t2, t6] => f106_L106001 o rd t0 t1 t2 t6 h c df | _ => none) := by
  intro lin b nt hk
  rw [kl_106001] at hk
  cases hk
  refine ⟨kc_106001, fun o rd vs h c df q e => ?_⟩
  dsimp only at e
  split at e
  · exact (f106_L106001_eq o rd _ _ _ _ h c df).trans e
  · cases e
theorem ck_106 : CodeOK K f106_f.nt f106_f.code := (And.intro trivial (And.intro trivial (And.intro (And.intro rfl kl_106000) (And.intro trivial (And.intro rfl kl_106001)))))
theorem fe_106 : FE (H := H) P bk K 106 (fun o vs h c => match vs with | [t0, t1, t2] => f106_S o t0 t1 t2 h c | _ => none) := by
  refine ⟨f106_f, bk_106, rfl, ck_106, fun o vs h c r e => ?_⟩
  dsimp only at e
  split at e
  · exact ⟨rfl, (f106_S_eq o _ _ _ h c).trans e⟩
  · cases e
theorem ck_107 : CodeOK K f107_f.nt f107_f.code := (And.intro trivial (And.intro (And.intro trivial (And.intro (And.intro trivial trivial) trivial)) (And.intro trivial trivial)))
theorem fe_107 : FE (H := H) P bk K 107 (fun o vs h c => match vs with | [t0, t1] => f107_S o t0 t1 h c | _ => none) := by
  refine ⟨f107_f, bk_107, rfl, ck_107, fun o vs h c r e => ?_⟩
  dsimp only at e
  split at e
  · exact ⟨rfl, (f107_S_eq o _ _ h c).trans e⟩
  · cases e
theorem kc_108001 : CodeOK K 53 f108_c108001 := (And.intro (And.intro trivial (And.intro trivial trivial)) (And.intro trivial trivial))
theorem le_108001 : LE (H := H) P K 108001 (fun o rd vs h c df => match vs with | [t0, t1, t2, t3, t8, t9] => f108_L108001 o rd t0 t1 t2 t3 t8 t9 h c df | _ => none) := by
  intro lin b nt hk
  rw [kl_108001] at hk
  cases hk
  refine ⟨kc_108001, fun o rd vs h c df q e => ?_⟩
  dsimp only at e
  split at e
  · exact (f108_L108001_eq o rd _ _ _ _ _ _ h c df).trans e
  · cases e
theorem kc_108000 : CodeOK K 53 f108_c108000 := (And.intro (And.intro trivial (And.intro trivial trivial)) (And.intro (And.intro trivial (And.intro rfl kl_108001)) trivial))
theorem le_108000 : LE (H := H) P K 108000 (fun o rd vs h c df => match vs with | [t0, t1, t2, t3, t8] => f108_L108000 o rd t0 t1 t2 t3 t8 h c df | _ => none) := by
  intro lin b nt hk
  rw [kl_108000] at hk
  cases hk
  refine ⟨kc_108000, fun o rd vs h c df q e => ?_⟩
  dsimp only at e
  split at e
  · exact (f108_L108000_eq o rd _ _ _ _ _ h c df).trans e
  · cases e
theorem ck_108 : CodeOK K f108_f.nt f108_f.code := (And.intro trivial (And.intro rfl kl_108000))
theorem fe_108 : FE (H := H) P bk K 108 (fun o vs h c => match vs with | [t0, t1, t2, t3] => f108_S o t0 t1 t2 t3 h c | _ => none) := by
  refine ⟨f108_f, bk_108, rfl, ck_108, fun o vs h c r e => ?_⟩
  dsimp only at e
  split at e
  · exact ⟨rfl, (f108_S_eq o _ _ _ _ h c).trans e⟩
  · cases e
theorem kc_109000 : CodeOK K 220 f109_c109000 := (And.intro (And.intro trivial (And.intro trivial trivial)) (And.intro trivial (And.intro trivial (And.intro trivial trivial))))
theorem le_109000 : LE (H := H) P K 109000 (fun o rd vs h c df => match vs with | [t0, t1, t4, t10, t11] => f109_L109000 o rd t0 t1 t4 t10 t11 h c df | _ => none) := by
  intro lin b nt hk
  rw [kl_109000] at hk
  cases hk
  refine ⟨kc_109000, fun o rd vs h c df q e => ?_⟩
  dsimp only at e
  split at e
  · exact (f109_L109000_eq o rd _ _ _ _ _ h c df).trans e
  · cases e
theorem kc_109001 : CodeOK K 220 f109_c109001 := (And.intro (And.intro trivial (And.intro trivial trivial)) (And.intro trivial trivial))
theorem le_109001 : LE (H := H) P K 109001 (fun o rd vs h c df => match vs with | [t0, t10, t13] => f109_L109001 o rd t0 t10 t13 h c df | _ => none) := by
  intro lin b nt hk
  rw [kl_109001] at hk
  cases hk
  refine ⟨kc_109001, fun o rd vs h c df q e => ?_⟩
  dsimp only at e
  split at e
  · exact (f109_L109001_eq o rd _ _ _ h c df).trans e
  · cases e
theorem kc_109002 : CodeOK K 220 f109_c109002 := (And.intro (And.intro trivial (And.intro trivial trivial)) (And.intro trivial (And.intro trivial (And.intro trivial trivial))))
theorem le_109002 : LE (H := H) P K 109002 (fun o rd vs h c df => match vs with | [t0, t2, t4, t14, t15] => f109_L109002 o rd t0 t2 t4 t14 t15 h c df | _ => none) := by
  intro lin b nt hk
  rw [kl_109002] at hk
  cases hk
  refine ⟨kc_109002, fun o rd vs h c df q e => ?_⟩
  dsimp only at e
  split at e
  · exact (f109_L109002_eq o rd _ _ _ _ _ h c df).trans e
  · cases e
theorem kc_109003 : CodeOK K 220 f109_c109003 := (And.intro (And.intro trivial (And.intro trivial trivial)) (And.intro trivial trivial))
theorem le_109003 : LE (H := H) P K 109003 (fun o rd vs h c df => match vs with | [t0, t14, t17] => f109_L109003 o rd t0 t14 t17 h c df | _ => none) := by
  intro lin b nt hk
  rw [kl_109003] at hk
  cases hk
  refine ⟨kc_109003, fun o rd vs h c df q e => ?_⟩
  dsimp only at e
  split at e
  · exact (f109_L109003_eq o rd _ _ _ h c df).trans e
  · cases e
theorem kc_109004 : CodeOK K 220 f109_c109004 := (And.intro (And.intro trivial (And.intro trivial trivial)) (And.intro trivial (And.intro trivial (And.intro trivial trivial))))
theorem le_109004 : LE (H := H) P K 109004 (fun o rd vs h c df => match vs with | [t0, t1, t2, t3, t4, t18, t19, t20, t21, t22] => f109_L109004 o rd t0 t1 t2 t3 t4 t18 t19 t20 t21 t22 h c df | _ => none) := by
  intro lin b nt hk
  rw [kl_109004] at hk
  cases hk
  refine ⟨kc_109004, fun o rd vs h c df q e => ?_⟩
  dsimp only at e
  split at e
  · exact (f109_L109004_eq o rd _ _ _ _ _ _ _ _ _ _ h c df).trans e
  · cases e
theorem ck_109 : CodeOK K f109_f.nt f109_f.code := (And.intro (And.intro trivial (And.intro (And.intro trivial (And.intro trivial (And.intro (And.intro rfl kl_109000) (And.intro (And.intro trivial (And.intro rfl kl_109001)) trivial)))) trivial)) (And.intro (And.intro trivial (And.intro (And.intro trivial (And.intro trivial (And.intro (And.intro rfl kl_109002) (And.intro (And.intro trivial (And.intro rfl kl_109003)) trivial)))) trivial)) (And.intro trivial (And.intro trivial (And.intro trivial (And.intro (And.intro trivial (And.intro (And.intro trivial trivial) (And.intro trivial trivial))) (And.intro trivial (And.intro (And.intro rfl kl_109004) (And.intro trivial (And.intro (And.intro trivial (And.intro trivial trivial)) (And.intro (And.intro trivial (And.intro trivial trivial)) (And.intro trivial (And.intro trivial trivial)))))))))))))
theorem fe_109 : FE (H := H) P bk K 109 (fun o vs h c => match vs with | [t0, t1, t2, t3, t4] => f109_S o t0 t1 t2 t3 t4 h c | _ => none) := by
  refine ⟨f109_f, bk_109, rfl, ck_109, fun o vs h c r e => ?_⟩
  dsimp only at e
  split at e
  · exact ⟨rfl, (f109_S_eq o _ _ _ _ _ h c).trans e⟩
  · cases e
theorem ck_110 : CodeOK K f110_f.nt f110_f.code := (And.intro trivial (And.intro trivial trivial))
theorem fe_110 : FE (H := H) P bk K 110 (fun o vs h c => match vs with | [t0, t1] => f110_S o t0 t1 h c | _ => none) := by
  refine ⟨f110_f, bk_110, rfl, ck_110, fun o vs h c r e => ?_⟩
  dsimp only at e
  split at e
  · exact ⟨rfl, (f110_S_eq o _ _ h c).trans e⟩
  · cases e
theorem kc_111000 : CodeOK K 58 f111_c111000 := (And.intro (And.intro trivial (And.intro trivial trivial)) (And.intro trivial (And.intro (And.intro trivial trivial) (And.intro trivial trivial))))
theorem le_111000 : LE (H := H) P K 111000 (fun o rd vs h c df => match vs with | [t0, t2, t4, t10, t11] => f111_L111000 o rd t0 t2 t4 t10 t11 h c df | _ => none) := by
  intro lin b nt hk
  rw [kl_111000] at hk
  cases hk
  refine ⟨kc_111000, fun o rd vs h c df q e => ?_⟩
  dsimp only at e
  split at e
  · exact (f111_L111000_eq o rd _ _ _ _ _ h c df).trans e
  · cases e
theorem ck_111 : CodeOK K f111_f.nt f111_f.code := (And.intro trivial (And.intro trivial (And.intro (And.intro rfl kl_111000) trivial)))
theorem fe_111 : FE (H := H) P bk K 111 (fun o vs h c => match vs with | [t0, t1, t2, t3, t4] => f111_S o t0 t1 t2 t3 t4 h c | _ => none) := by
  refine ⟨f111_f, bk_111, rfl, ck_111, fun o vs h c r e => ?_⟩
  dsimp only at e
  split at e
  · exact ⟨rfl, (f111_S_eq o _ _ _ _ _ h c).trans e⟩
  · cases e
theorem kc_112000 : CodeOK K 38 f112_c112000 := (And.intro (And.intro trivial (And.intro trivial trivial)) (And.intro trivial trivial))
theorem le_112000 : LE (H := H) P K 112000 (fun o rd vs h c df => match vs with | [t0, t1, t2, t3, t10] => f112_L112000 o rd t0 t1 t2 t3 t10 h c df | _ => none) := by
  intro lin b nt hk
  rw [kl_112000] at hk
  cases hk
  refine ⟨kc_112000, fun o rd vs h c df q e => ?_⟩
  dsimp only at e
  split at e
  · exact (f112_L112000_eq o rd _ _ _ _ _ h c df).trans e
  · cases e
theorem ck_112 : CodeOK K f112_f.nt f112_f.code := (And.intro trivial (And.intro rfl kl_112000))
theorem fe_112 : FE (H := H) P bk K 112 (fun o vs h c => match vs with | [t0, t1, t2, t3, t4] => f112_S o t0 t1 t2 t3 t4 h c | _ => none) := by
  refine ⟨f112_f, bk_112, rfl, ck_112, fun o vs h c r e => ?_⟩
  dsimp only at e
  split at e
  · exact ⟨rfl, (f112_S_eq o _ _ _ _ _ h c).trans e⟩
  · cases e
noncomputable def tbF : BT (Orc H → List Value → H → Nat → Option (Rt H)) := (.node 69 (fun o vs h c => match vs with | [] => f69_S o h c | _ => none) (.node 39 (fun o vs h c => match vs with | [t0, t1] => f39_S o t0 t1 h c | _ => none) (.node 25 (fun o vs h c => match vs with | [t0, t1] => f25_S o t0 t1 h c | _ => none) (.node 14 (fun o vs h c => match vs with | [t0, t1] => f14_S o t0 t1 h c | _ => none) (.node 10 (fun o vs h c => match vs with | [t0] => f10_S o t0 h c | _ => none) (.node 8 (fun o vs h c => match vs with | [] => f8_S o h c | _ => none) (.node 4 (fun o vs h c => match vs with | [t0, t1, t2] => f4_S o t0 t1 t2 h c | _ => none) .leaf .leaf) .leaf) (.node 13 (fun o vs h c => match vs with | [t0] => f13_S o t0 h c | _ => none) .leaf .leaf)) (.node 20 (fun o vs h c => match vs with | [t0] => f20_S o t0 h c | _ => none) (.node 17 (fun o vs h c => match vs with | [t0, t1] => f17_S o t0 t1 h c | _ => none) .leaf .leaf) (.node 24 (fun o vs h c => match vs with | [t0] => f24_S o t0 h c | _ => none) .leaf .leaf))) (.node 31 (fun o vs h c => match vs with | [t0] => f31_S o t0 h c | _ => none) (.node 29 (fun o vs h c => match vs with | [t0, t1, t2, t3] => f29_S o t0 t1 t2 t3 h c | _ => none) (.node 28 (fun o vs h c => match vs with | [t0] => f28_S o t0 h c | _ => none) .leaf .leaf) (.node 30 (fun o vs h c => match vs with | [t0] => f30_S o t0 h c | _ => none) .leaf .leaf)) (.node 37 (fun o vs h c => match vs with | [t0] => f37_S o t0 h c | _ => none) (.node 32 (fun o vs h c => match vs with | [t0] => f32_S o t0 h c | _ => none) .leaf .leaf) (.node 38 (fun o vs h c => match vs with | [t0] => f38_S o t0 h c | _ => none) .leaf .leaf)))) (.node 55 (fun o vs h c => match vs with | [t0] => f55_S o t0 h c | _ => none) (.node 50 (fun o vs h c => match vs with | [t0] => f50_S o t0 h c | _ => none) (.node 48 (fun o vs h c => match vs with | [t0] => f48_S o t0 h c | _ => none) (.node 42 (fun o vs h c => match vs with | [t0] => f42_S o t0 h c | _ => none) (.node 40 (fun o vs h c => match vs with | [t0, t1] => f40_S o t0 t1 h c | _ => none) .leaf .leaf) .leaf) (.node 49 (fun o vs h c => match vs with | [t0] => f49_S o t0 h c | _ => none) .leaf .leaf)) (.node 52 (fun o vs h c => match vs with | [t0, t1] => f52_S o t0 t1 h c | _ => none) (.node 51 (fun o vs h c => match vs with | [t0, t1] => f51_S o t0 t1 h c | _ => none) .leaf .leaf) (.node 53 (fun o vs h c => match vs with | [t0, t1] => f53_S o t0 t1 h c | _ => none) .leaf .leaf))) (.node 62 (fun o vs h c => match vs with | [t0, t1] => f62_S o t0 t1 h c | _ => none) (.node 60 (fun o vs h c => match vs with | [t0] => f60_S o t0 h c | _ => none) (.node 59 (fun o vs h c => match vs with | [t0] => f59_S o t0 h c | _ => none) .leaf .leaf) (.node 61 (fun o vs h c => match vs with | [t0] => f61_S o t0 h c | _ => none) .leaf .leaf)) (.node 64 (fun o vs h c => match vs with | [t0] => f64_S o t0 h c | _ => none) (.node 63 (fun o vs h c => match vs with | [t0, t1, t2] => f63_S o t0 t1 t2 h c | _ => none) .leaf .leaf) (.node 67 (fun o vs h c => match vs with | [t0, t1] => f67_S o t0 t1 h c | _ => none) .leaf .leaf))))) (.node 97 (fun o vs h c => match vs with | [t0, t1, t2, t3] => f97_S o t0 t1 t2 t3 h c | _ => none) (.node 78 (fun o vs h c => match vs with | [t0, t1] => f78_S o t0 t1 h c | _ => none) (.node 74 (fun o vs h c => match vs with | [t0] => f74_S o t0 h c | _ => none) (.node 72 (fun o vs h c => match vs with | [t0] => f72_S o t0 h c | _ => none) (.node 71 (fun o vs h c => match vs with | [t0] => f71_S o t0 h c | _ => none) (.node 70 (fun o vs h c => match vs with | [t0] => f70_S o t0 h c | _ => none) .leaf .leaf) .leaf) (.node 73 (fun o vs h c => match vs with | [t0] => f73_S o t0 h c | _ => none) .leaf .leaf)) (.node 76 (fun o vs h c => match vs with | [t0, t1] => f76_S o t0 t1 h c | _ => none) (.node 75 (fun o vs h c => match vs with | [t0] => f75_S o t0 h c | _ => none) .leaf .leaf) (.node 77 (fun o vs h c => match vs with | [t0] => f77_S o t0 h c | _ => none) .leaf .leaf))) (.node 86 (fun o vs h c => match vs with | [t0, t1] => f86_S o t0 t1 h c | _ => none) (.node 80 (fun o vs h c => match vs with | [t0] => f80_S o t0 h c | _ => none) (.node 79 (fun o vs h c => match vs with | [t0] => f79_S o t0 h c | _ => none) .leaf .leaf) (.node 81 (fun o vs h c => match vs with | [t0] => f81_S o t0 h c | _ => none) .leaf .leaf)) (.node 95 (fun o vs h c => match vs with | [t0] => f95_S o t0 h c | _ => none) (.node 87 (fun o vs h c => match vs with | [t0] => f87_S o t0 h c | _ => none) .leaf .leaf) (.node 96 (fun o vs h c => match vs with | [] => f96_S o h c | _ => none) .leaf .leaf)))) (.node 105 (fun o vs h c => match vs with | [t0, t1] => f105_S o t0 t1 h c | _ => none) (.node 101 (fun o vs h c => match vs with | [t0, t1] => f101_S o t0 t1 h c | _ => none) (.node 99 (fun o vs h c => match vs with | [t0, t1] => f99_S o t0 t1 h c | _ => none) (.node 98 (fun o vs h c => match vs with | [t0, t1] => f98_S o t0 t1 h c | _ => none) .leaf .leaf) (.node 100 (fun o vs h c => match vs with | [t0, t1, t2] => f100_S o t0 t1 t2 h c | _ => none) .leaf .leaf)) (.node 103 (fun o vs h c => match vs with | [t0] => f103_S o t0 h c | _ => none) (.node 102 (fun o vs h c => match vs with | [t0] => f102_S o t0 h c | _ => none) .leaf .leaf) (.node 104 (fun o vs h c => match vs with | [t0, t1, t2] => f104_S o t0 t1 t2 h c | _ => none) .leaf .leaf))) (.node 109 (fun o vs h c => match vs with | [t0, t1, t2, t3, t4] => f109_S o t0 t1 t2 t3 t4 h c | _ => none) (.node 107 (fun o vs h c => match vs with | [t0, t1] => f107_S o t0 t1 h c | _ => none) (.node 106 (fun o vs h c => match vs with | [t0, t1, t2] => f106_S o t0 t1 t2 h c | _ => none) .leaf .leaf) (.node 108 (fun o vs h c => match vs with | [t0, t1, t2, t3] => f108_S o t0 t1 t2 t3 h c | _ => none) .leaf .leaf)) (.node 111 (fun o vs h c => match vs with | [t0, t1, t2, t3, t4] => f111_S o t0 t1 t2 t3 t4 h c | _ => none) (.node 110 (fun o vs h c => match vs with | [t0, t1] => f110_S o t0 t1 h c | _ => none) .leaf .leaf) (.node 112 (fun o vs h c => match vs with | [t0, t1, t2, t3, t4] => f112_S o t0 t1 t2 t3 t4 h c | _ => none) .leaf .leaf))))))
noncomputable def tbL : BT (Orc H → Option Nat → List Value → H → Nat → List Nat → Option (Rt H)) := (.node 77000 (fun o rd vs h c df => match vs with | [t0, t2, t3] => f77_L77000 o rd t0 t2 t3 h c df | _ => none) (.node 61000 (fun o rd vs h c df => match vs with | [t0, t2, t3, t4, t5] => f61_L61000 o rd t0 t2 t3 t4 t5 h c df | _ => none) (.node 32001 (fun o rd vs h c df => match vs with | [t1, t2, t3, t4, t5] => f32_L32001 o rd t1 t2 t3 t4 t5 h c df | _ => none) (.node 28002 (fun o rd vs h c df => match vs with | [t2, t3, t4, t5, t7, t8, t9, t10, t11, t14] => f28_L28002 o rd t2 t3 t4 t5 t7 t8 t9 t10 t11 t14 h c df | _ => none) (.node 28000 (fun o rd vs h c df => match vs with | [t2, t3, t4, t5, t7, t8, t9] => f28_L28000 o rd t2 t3 t4 t5 t7 t8 t9 h c df | _ => none) (.node 17000 (fun o rd vs h c df => match vs with | [t2, t3, t4, t5] => f17_L17000 o rd t2 t3 t4 t5 h c df | _ => none) .leaf .leaf) (.node 28001 (fun o rd vs h c df => match vs with | [t2, t3, t4, t5, t7, t8, t9, t10, t11] => f28_L28001 o rd t2 t3 t4 t5 t7 t8 t9 t10 t11 h c df | _ => none) .leaf .leaf)) (.node 32000 (fun o rd vs h c df => match vs with | [t1, t2, t3, t4] => f32_L32000 o rd t1 t2 t3 t4 h c df | _ => none) (.node 30000 (fun o rd vs h c df => match vs with | [t1, t2, t10, t11, t12] => f30_L30000 o rd t1 t2 t10 t11 t12 h c df | _ => none) .leaf .leaf) .leaf)) (.node 53000 (fun o rd vs h c df => match vs with | [t2, t4, t5, t6] => f53_L53000 o rd t2 t4 t5 t6 h c df | _ => none) (.node 42000 (fun o rd vs h c df => match vs with | [t3, t8, t9, t10] => f42_L42000 o rd t3 t8 t9 t10 h c df | _ => none) (.node 37000 (fun o rd vs h c df => match vs with | [t1, t2, t3, t8, t9, t10] => f37_L37000 o rd t1 t2 t3 t8 t9 t10 h c df | _ => none) .leaf .leaf) (.node 52000 (fun o rd vs h c df => match vs with | [t0, t1, t4, t5] => f52_L52000 o rd t0 t1 t4 t5 h c df | _ => none) .leaf .leaf)) (.node 60000 (fun o rd vs h c df => match vs with | [t0, t3, t4, t5] => f60_L60000 o rd t0 t3 t4 t5 h c df | _ => none) (.node 59000 (fun o rd vs h c df => match vs with | [t1, t2, t3, t4] => f59_L59000 o rd t1 t2 t3 t4 h c df | _ => none) .leaf .leaf) .leaf))) (.node 75000 (fun o rd vs h c df => match vs with | [t2, t3, t4, t5, t13, t14, t15] => f75_L75000 o rd t2 t3 t4 t5 t13 t14 t15 h c df | _ => none) (.node 72000 (fun o rd vs h c df => match vs with | [t2, t3, t6, t7] => f72_L72000 o rd t2 t3 t6 t7 h c df | _ => none) (.node 63000 (fun o rd vs h c df => match vs with | [t0, t4, t5, t6, t10, t11] => f63_L63000 o rd t0 t4 t5 t6 t10 t11 h c df | _ => none) (.node 62000 (fun o rd vs h c df => match vs with | [t0, t4, t5] => f62_L62000 o rd t0 t4 t5 h c df | _ => none) .leaf .leaf) (.node 64000 (fun o rd vs h c df => match vs with | [t1, t2, t3, t4] => f64_L64000 o rd t1 t2 t3 t4 h c df | _ => none) .leaf .leaf)) (.node 74000 (fun o rd vs h c df => match vs with | [t2, t6, t7, t8] => f74_L74000 o rd t2 t6 t7 t8 h c df | _ => none) (.node 73000 (fun o rd vs h c df => match vs with | [t2, t3, t6, t7] => f73_L73000 o rd t2 t3 t6 t7 h c df | _ => none) .leaf .leaf) .leaf)) (.node 76000 (fun o rd vs h c df => match vs with | [t0, t1, t3, t8, t9] => f76_L76000 o rd t0 t1 t3 t8 t9 h c df | _ => none) (.node 75002 (fun o rd vs h c df => match vs with | [t2, t3, t4, t5, t7, t8, t10, t13, t14, t15, t25, t26, t27, t31] => f75_L75002 o rd t2 t3 t4 t5 t7 t8 t10 t13 t14 t15 t25 t26 t27 t31 h c df | _ => none) (.node 75001 (fun o rd vs h c df => match vs with | [t2, t3, t4, t5, t7, t8, t13, t14, t15, t25, t26, t27] => f75_L75001 o rd t2 t3 t4 t5 t7 t8 t13 t14 t15 t25 t26 t27 h c df | _ => none) .leaf .leaf) .leaf) (.node 76002 (fun o rd vs h c df => match vs with | [t0, t1, t5, t6, t7, t14, t15] => f76_L76002 o rd t0 t1 t5 t6 t7 t14 t15 h c df | _ => none) (.node 76001 (fun o rd vs h c df => match vs with | [t0, t1, t14, t15] => f76_L76001 o rd t0 t1 t14 t15 h c df | _ => none) .leaf .leaf) .leaf)))) (.node 105000 (fun o rd vs h c df => match vs with | [t0, t1, t4, t5, t12] => f105_L105000 o rd t0 t1 t4 t5 t12 h c df | _ => none) (.node 101000 (fun o rd vs h c df => match vs with | [t2, t3, t4, t10] => f101_L101000 o rd t2 t3 t4 t10 h c df | _ => none) (.node 87000 (fun o rd vs h c df => match vs with | [t1, t5, t15, t16, t17] => f87_L87000 o rd t1 t5 t15 t16 t17 h c df | _ => none) (.node 86000 (fun o rd vs h c df => match vs with | [t0, t1, t8, t9] => f86_L86000 o rd t0 t1 t8 t9 h c df | _ => none) (.node 78000 (fun o rd vs h c df => match vs with | [t0, t1, t4, t12, t13] => f78_L78000 o rd t0 t1 t4 t12 t13 h c df | _ => none) .leaf .leaf) (.node 86001 (fun o rd vs h c df => match vs with | [t0, t1, t3, t8, t9, t16, t17] => f86_L86001 o rd t0 t1 t3 t8 t9 t16 t17 h c df | _ => none) .leaf .leaf)) (.node 100000 (fun o rd vs h c df => match vs with | [t0, t1, t2, t6, t11, t12, t13] => f100_L100000 o rd t0 t1 t2 t6 t11 t12 t13 h c df | _ => none) (.node 97000 (fun o rd vs h c df => match vs with | [t3, t8, t9, t10, t11] => f97_L97000 o rd t3 t8 t9 t10 t11 h c df | _ => none) .leaf .leaf) .leaf)) (.node 102002 (fun o rd vs h c df => match vs with | [t1, t4, t6, t8, t9, t26, t27] => f102_L102002 o rd t1 t4 t6 t8 t9 t26 t27 h c df | _ => none) (.node 102000 (fun o rd vs h c df => match vs with | [t1, t4, t17, t18] => f102_L102000 o rd t1 t4 t17 t18 h c df | _ => none) (.node 101001 (fun o rd vs h c df => match vs with | [t2, t3, t4, t5, t10, t31] => f101_L101001 o rd t2 t3 t4 t5 t10 t31 h c df | _ => none) .leaf .leaf) (.node 102001 (fun o rd vs h c df => match vs with | [t1, t4, t6, t26, t27] => f102_L102001 o rd t1 t4 t6 t26 t27 h c df | _ => none) .leaf .leaf)) (.node 103000 (fun o rd vs h c df => match vs with | [t0, t4] => f103_L103000 o rd t0 t4 h c df | _ => none) (.node 102003 (fun o rd vs h c df => match vs with | [t1, t4, t6, t8, t9, t26, t27, t54, t55] => f102_L102003 o rd t1 t4 t6 t8 t9 t26 t27 t54 t55 h c df | _ => none) .leaf .leaf) .leaf))) (.node 109001 (fun o rd vs h c df => match vs with | [t0, t10, t13] => f109_L109001 o rd t0 t10 t13 h c df | _ => none) (.node 108000 (fun o rd vs h c df => match vs with | [t0, t1, t2, t3, t8] => f108_L108000 o rd t0 t1 t2 t3 t8 h c df | _ => none) (.node 106001 (fun o rd vs h c df => match vs with | [t0, t1, t2, t6] => f106_L106001 o rd t0 t1 t2 t6 h c df | _ => none) (.node 106000 (fun o rd vs h c df => match vs with | [t0, t1, t2, t6, t7, t8] => f106_L106000 o rd t0 t1 t2 t6 t7 t8 h c df | _ => none) .leaf .leaf) (.node 106002 (fun o rd vs h c df => match vs with | [t0, t1, t2, t6, t7, t8] => f106_L106002 o rd t0 t1 t2 t6 t7 t8 h c df | _ => none) .leaf .leaf)) (.node 109000 (fun o rd vs h c df => match vs with | [t0, t1, t4, t10, t11] => f109_L109000 o rd t0 t1 t4 t10 t11 h c df | _ => none) (.node 108001 (fun o rd vs h c df => match vs with | [t0, t1, t2, t3, t8, t9] => f108_L108001 o rd t0 t1 t2 t3 t8 t9 h c df | _ => none) .leaf .leaf) .leaf)) (.node 109004 (fun o rd vs h c df => match vs with | [t0, t1, t2, t3, t4, t18, t19, t20, t21, t22] => f109_L109004 o rd t0 t1 t2 t3 t4 t18 t19 t20 t21 t22 h c df | _ => none) (.node 109003 (fun o rd vs h c df => match vs with | [t0, t14, t17] => f109_L109003 o rd t0 t14 t17 h c df | _ => none) (.node 109002 (fun o rd vs h c df => match vs with | [t0, t2, t4, t14, t15] => f109_L109002 o rd t0 t2 t4 t14 t15 h c df | _ => none) .leaf .leaf) .leaf) (.node 112000 (fun o rd vs h c df => match vs with | [t0, t1, t2, t3, t10] => f112_L112000 o rd t0 t1 t2 t3 t10 h c df | _ => none) (.node 111000 (fun o rd vs h c df => match vs with | [t0, t2, t4, t10, t11] => f111_L111000 o rd t0 t2 t4 t10 t11 h c df | _ => none) .leaf .leaf) .leaf)))))
noncomputable def tbR : List (Nat × List Nat × (Orc H → Nat → List Value → H → Nat → Option (Rt H))) := [(60, [43], (fun o l vs h c => match vs with | [t43, t2, t3, t5] => f24_R24000 o l t43 t2 t3 t5 h c | _ => none)), (71, [13, 14], (fun o l vs h c => match vs with | [t13, t14, t1, t2, t3] => f48_R48000 o l t13 t14 t1 t2 t3 h c | _ => none)), (49, [30], (fun o l vs h c => match vs with | [t30, t1, t5, t6, t7] => f87_R87001 o l t30 t1 t5 t6 t7 h c | _ => none))]
noncomputable def tab : Tab H := { F := fun f => tbF.look f, L := fun j => tbL.look j, R := fun nt ps => lookR nt ps tbR }
theorem tab_ok : TabOK (H := H) P bk K tab := ⟨fun f F e => BT.look_all (Q := FE P bk K) (t := tbF) (And.intro fe_69 (And.intro (And.intro fe_39 (And.intro (And.intro fe_25 (And.intro (And.intro fe_14 (And.intro (And.intro fe_10 (And.intro (And.intro fe_8 (And.intro (And.intro fe_4 (And.intro trivial trivial)) trivial)) (And.intro fe_13 (And.intro trivial trivial)))) (And.intro fe_20 (And.intro (And.intro fe_17 (And.intro trivial trivial)) (And.intro fe_24 (And.intro trivial trivial)))))) (And.intro fe_31 (And.intro (And.intro fe_29 (And.intro (And.intro fe_28 (And.intro trivial trivial)) (And.intro fe_30 (And.intro trivial trivial)))) (And.intro fe_37 (And.intro (And.intro fe_32 (And.intro trivial trivial)) (And.intro fe_38 (And.intro trivial trivial)))))))) (And.intro fe_55 (And.intro (And.intro fe_50 (And.intro (And.intro fe_48 (And.intro (And.intro fe_42 (And.intro (And.intro fe_40 (And.intro trivial trivial)) trivial)) (And.intro fe_49 (And.intro trivial trivial)))) (And.intro fe_52 (And.intro (And.intro fe_51 (And.intro trivial trivial)) (And.intro fe_53 (And.intro trivial trivial)))))) (And.intro fe_62 (And.intro (And.intro fe_60 (And.intro (And.intro fe_59 (And.intro trivial trivial)) (And.intro fe_61 (And.intro trivial trivial)))) (And.intro fe_64 (And.intro (And.intro fe_63 (And.intro trivial trivial)) (And.intro fe_67 (And.intro trivial trivial)))))))))) (And.intro fe_97 (And.intro (And.intro fe_78 (And.intro (And.intro fe_74 (And.intro (And.intro fe_72 (And.intro (And.intro fe_71 (And.intro (And.intro fe_70 (And.intro trivial trivial)) trivial)) (And.intro fe_73 (And.intro trivial trivial)))) (And.intro fe_76 (And.intro (And.intro fe_75 (And.intro trivial trivial)) (And.intro fe_77 (And.intro trivial trivial)))))) (And.intro fe_86 (And.intro (And.intro fe_80 (And.intro (And.intro fe_79 (And.intro trivial trivial)) (And.intro fe_81 (And.intro trivial trivial)))) (And.intro fe_95 (And.intro (And.intro fe_87 (And.intro trivial trivial)) (And.intro fe_96 (And.intro trivial trivial)))))))) (And.intro fe_105 (And.intro (And.intro fe_101 (And.intro (And.intro fe_99 (And.intro (And.intro fe_98 (And.intro trivial trivial)) (And.intro fe_100 (And.intro trivial trivial)))) (And.intro fe_103 (And.intro (And.intro fe_102 (And.intro trivial trivial)) (And.intro fe_104 (And.intro trivial trivial)))))) (And.intro fe_109 (And.intro (And.intro fe_107 (And.intro (And.intro fe_106 (And.intro trivial trivial)) (And.intro fe_108 (And.intro trivial trivial)))) (And.intro fe_111 (And.intro (And.intro fe_110 (And.intro trivial trivial)) (And.intro fe_112 (And.intro trivial trivial)))))))))))) e,
  fun j B lin b nt e hk => BT.look_all (Q := LE P K) (t := tbL) (And.intro le_77000 (And.intro (And.intro le_61000 (And.intro (And.intro le_32001 (And.intro (And.intro le_28002 (And.intro (And.intro le_28000 (And.intro (And.intro le_17000 (And.intro trivial trivial)) (And.intro le_28001 (And.intro trivial trivial)))) (And.intro le_32000 (And.intro (And.intro le_30000 (And.intro trivial trivial)) trivial)))) (And.intro le_53000 (And.intro (And.intro le_42000 (And.intro (And.intro le_37000 (And.intro trivial trivial)) (And.intro le_52000 (And.intro trivial trivial)))) (And.intro le_60000 (And.intro (And.intro le_59000 (And.intro trivial trivial)) trivial)))))) (And.intro le_75000 (And.intro (And.intro le_72000 (And.intro (And.intro le_63000 (And.intro (And.intro le_62000 (And.intro trivial trivial)) (And.intro le_64000 (And.intro trivial trivial)))) (And.intro le_74000 (And.intro (And.intro le_73000 (And.intro trivial trivial)) trivial)))) (And.intro le_76000 (And.intro (And.intro le_75002 (And.intro (And.intro le_75001 (And.intro trivial trivial)) trivial)) (And.intro le_76002 (And.intro (And.intro le_76001 (And.intro trivial trivial)) trivial)))))))) (And.intro le_105000 (And.intro (And.intro le_101000 (And.intro (And.intro le_87000 (And.intro (And.intro le_86000 (And.intro (And.intro le_78000 (And.intro trivial trivial)) (And.intro le_86001 (And.intro trivial trivial)))) (And.intro le_100000 (And.intro (And.intro le_97000 (And.intro trivial trivial)) trivial)))) (And.intro le_102002 (And.intro (And.intro le_102000 (And.intro (And.intro le_101001 (And.intro trivial trivial)) (And.intro le_102001 (And.intro trivial trivial)))) (And.intro le_103000 (And.intro (And.intro le_102003 (And.intro trivial trivial)) trivial)))))) (And.intro le_109001 (And.intro (And.intro le_108000 (And.intro (And.intro le_106001 (And.intro (And.intro le_106000 (And.intro trivial trivial)) (And.intro le_106002 (And.intro trivial trivial)))) (And.intro le_109000 (And.intro (And.intro le_108001 (And.intro trivial trivial)) trivial)))) (And.intro le_109004 (And.intro (And.intro le_109003 (And.intro (And.intro le_109002 (And.intro trivial trivial)) trivial)) (And.intro le_112000 (And.intro (And.intro le_111000 (And.intro trivial trivial)) trivial)))))))))) e lin b nt hk,
  fun nt ps D lin a b e hk => lookR_all (Q := RE P K) (l := tbR) (And.intro re_24000 (And.intro re_48000 (And.intro re_87001 trivial))) e lin a b hk⟩
theorem ev_run {n : Nat} {k : Key} {vs : List Value} {h : H} {c : Nat} {df : List Nat} {r : Rt H} (hk : KeyOK K k) (hi : InvL K h) (e : evT tab n k vs h c df = some r) : run P bk k vs h c df = some r := (evT_good tab_ok n k vs h c df r hk hi e).1
end Go.Proofs.Ytdbiilapiloaiaa
