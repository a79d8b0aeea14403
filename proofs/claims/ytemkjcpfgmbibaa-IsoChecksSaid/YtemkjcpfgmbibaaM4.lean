/- Parts of a proof: E AbSym AbX AbPerm AbGlue C1 AbRng C2 C3 C4 D1. Conditions: none. -/
import Derived.Test.YtemkjcpfgmbibaaM2
import Derived.Test.YtemkjcpfgmbibaaM3
import Derived.KernelRfl
set_option linter.all false
namespace Go.Proofs.Ytemkjcpfgmbibaa
open Go Go.Ab Go.Proofs
set_option maxRecDepth 100000
set_option linter.unusedVariables false
variable {H : Type} [HeapC H]
noncomputable def K : LB := { loop := fun j => BT.look ((.node 58000 ([1, 4, 17, 18], f58_c58000, 85) (.node 40000 ([1, 2, 3, 6, 7, 9, 10, 11, 49, 50, 51], f40_c40000, 139) (.node 23001 ([1, 2, 3, 4, 5], f23_c23001, 83) (.node 20002 ([1, 2, 3, 6, 8, 9, 11, 12, 13, 14], f20_c20002, 103) (.node 20000 ([1, 2, 3, 6, 8, 9, 10], f20_c20000, 103) (.node 10000 ([2, 3, 9, 46, 47], f10_c10000, 67) .leaf .leaf) (.node 20001 ([1, 2, 3, 6, 8, 9, 11, 12], f20_c20001, 103) .leaf .leaf)) (.node 22001 ([7, 24, 25, 26, 30, 31], f22_c22001, 46) (.node 22000 ([7, 24, 25, 26], f22_c22000, 46) .leaf .leaf) (.node 23000 ([1, 2, 3, 4], f23_c23000, 83) .leaf .leaf))) (.node 33000 ([0, 3, 4], f33_c33000, 25) (.node 26000 ([0, 1, 4, 5], f26_c26000, 26) (.node 25000 ([2, 3, 4, 5], f25_c25000, 31) .leaf .leaf) (.node 31000 ([2, 6, 7, 8], f31_c31000, 18) .leaf .leaf)) (.node 35001 ([4, 5, 8, 9, 10, 11, 12, 13, 14, 15, 53, 54], f35_c35001, 157) (.node 35000 ([4, 5, 8, 9, 10, 11, 12, 13, 14], f35_c35000, 157) .leaf .leaf) .leaf))) (.node 46000 ([1, 2, 3, 16, 17, 18], f46_c46000, 40) (.node 42001 ([2, 45, 46, 47], f42_c42001, 55) (.node 40002 ([2, 3, 6, 10, 14, 15, 16, 17, 78, 79, 80, 85], f40_c40002, 139) (.node 40001 ([2, 3, 6, 10, 14, 78, 79, 80], f40_c40001, 139) .leaf .leaf) (.node 42000 ([1, 2, 3, 4, 23, 24, 25], f42_c42000, 55) .leaf .leaf)) (.node 45000 ([2, 3, 4, 5, 6], f45_c45000, 28) (.node 43000 ([2, 3, 4, 5, 9, 10, 11], f43_c43000, 44) .leaf .leaf) .leaf)) (.node 49001 ([2, 3, 4, 5, 7, 8, 13, 14, 15, 25, 26, 27], f49_c49001, 76) (.node 48000 ([0, 1, 2, 6, 7, 8], f48_c48000, 62) (.node 47000 ([1, 2, 3, 4], f47_c47000, 19) .leaf .leaf) (.node 49000 ([2, 3, 4, 5, 13, 14, 15], f49_c49000, 76) .leaf .leaf)) (.node 50000 ([1, 2, 3, 4], f50_c50000, 30) (.node 49002 ([2, 3, 4, 5, 7, 8, 10, 13, 14, 15, 25, 26, 27, 31], f49_c49002, 76) .leaf .leaf) .leaf)))) (.node 78001 ([0, 1, 3, 8, 9, 16, 17], f78_c78001, 30) (.node 68000 ([1, 5, 15, 16, 17], f68_c68000, 49) (.node 59000 ([0, 4], f59_c59000, 27) (.node 58002 ([1, 4, 6, 8, 9, 26, 27], f58_c58002, 85) (.node 58001 ([1, 4, 6, 26, 27], f58_c58001, 85) .leaf .leaf) (.node 58003 ([1, 4, 6, 8, 9, 26, 27, 54, 55], f58_c58003, 85) .leaf .leaf)) (.node 66000 ([2, 3, 6, 7], f66_c66000, 16) (.node 60000 ([2, 3, 6, 7], f60_c60000, 23) .leaf .leaf) (.node 67000 ([0, 1, 4, 12, 13], f67_c67000, 26) .leaf .leaf))) (.node 77000 ([2, 3, 4, 10], f77_c77000, 62) (.node 73000 ([3, 8, 9, 10, 11], f73_c73000, 67) (.node 72000 ([0, 1, 4, 7, 8], f72_c72000, 19) .leaf .leaf) (.node 76000 ([0, 1, 2, 6, 11, 12, 13], f76_c76000, 39) .leaf .leaf)) (.node 78000 ([0, 1, 8, 9], f78_c78000, 30) (.node 77001 ([2, 3, 4, 5, 10, 31], f77_c77001, 62) .leaf .leaf) .leaf))) (.node 83000 ([0, 1, 4, 10, 11], f83_c83000, 220) (.node 81002 ([0, 1, 2, 6, 7, 8], f81_c81002, 63) (.node 81000 ([0, 1, 2, 6, 7, 8], f81_c81000, 63) (.node 80000 ([0, 1, 4, 5, 12], f80_c80000, 99) .leaf .leaf) (.node 81001 ([0, 1, 2, 6], f81_c81001, 63) .leaf .leaf)) (.node 82001 ([0, 1, 2, 3, 8, 9], f82_c82001, 53) (.node 82000 ([0, 1, 2, 3, 8], f82_c82000, 53) .leaf .leaf) .leaf)) (.node 83004 ([0, 1, 2, 3, 4, 18, 19, 20, 21, 22], f83_c83004, 220) (.node 83002 ([0, 2, 4, 14, 15], f83_c83002, 220) (.node 83001 ([0, 10, 13], f83_c83001, 220) .leaf .leaf) (.node 83003 ([0, 14, 17], f83_c83003, 220) .leaf .leaf)) (.node 85000 ([0, 1, 2, 3, 10], f85_c85000, 38) (.node 84000 ([0, 2, 4, 10, 11], f84_c84000, 58) .leaf .leaf) .leaf))))) : BT (List Nat × ACode × Nat)) j, rng := fun nt ps => lookR nt ps [(67, [51], ([2, 3, 9, 10], f10_a10001, f10_c10001)), (71, [13, 14], ([1, 2, 3], f57_a57000, f57_c57000)), (49, [30], ([1, 5, 6, 7], f68_a68001, f68_c68001))] }
theorem kl_10000 : K.loop 10000 = some ([2, 3, 9, 46, 47], f10_c10000, 67) := by kernel_rfl
theorem kl_20000 : K.loop 20000 = some ([1, 2, 3, 6, 8, 9, 10], f20_c20000, 103) := by kernel_rfl
theorem kl_20001 : K.loop 20001 = some ([1, 2, 3, 6, 8, 9, 11, 12], f20_c20001, 103) := by kernel_rfl
theorem kl_20002 : K.loop 20002 = some ([1, 2, 3, 6, 8, 9, 11, 12, 13, 14], f20_c20002, 103) := by kernel_rfl
theorem kl_22000 : K.loop 22000 = some ([7, 24, 25, 26], f22_c22000, 46) := by kernel_rfl
theorem kl_22001 : K.loop 22001 = some ([7, 24, 25, 26, 30, 31], f22_c22001, 46) := by kernel_rfl
theorem kl_23000 : K.loop 23000 = some ([1, 2, 3, 4], f23_c23000, 83) := by kernel_rfl
theorem kl_23001 : K.loop 23001 = some ([1, 2, 3, 4, 5], f23_c23001, 83) := by kernel_rfl
theorem kl_25000 : K.loop 25000 = some ([2, 3, 4, 5], f25_c25000, 31) := by kernel_rfl
theorem kl_26000 : K.loop 26000 = some ([0, 1, 4, 5], f26_c26000, 26) := by kernel_rfl
theorem kl_31000 : K.loop 31000 = some ([2, 6, 7, 8], f31_c31000, 18) := by kernel_rfl
theorem kl_33000 : K.loop 33000 = some ([0, 3, 4], f33_c33000, 25) := by kernel_rfl
theorem kl_35000 : K.loop 35000 = some ([4, 5, 8, 9, 10, 11, 12, 13, 14], f35_c35000, 157) := by kernel_rfl
theorem kl_35001 : K.loop 35001 = some ([4, 5, 8, 9, 10, 11, 12, 13, 14, 15, 53, 54], f35_c35001, 157) := by kernel_rfl
theorem kl_40000 : K.loop 40000 = some ([1, 2, 3, 6, 7, 9, 10, 11, 49, 50, 51], f40_c40000, 139) := by kernel_rfl
theorem kl_40001 : K.loop 40001 = some ([2, 3, 6, 10, 14, 78, 79, 80], f40_c40001, 139) := by kernel_rfl
theorem kl_40002 : K.loop 40002 = some ([2, 3, 6, 10, 14, 15, 16, 17, 78, 79, 80, 85], f40_c40002, 139) := by kernel_rfl
theorem kl_42000 : K.loop 42000 = some ([1, 2, 3, 4, 23, 24, 25], f42_c42000, 55) := by kernel_rfl
theorem kl_42001 : K.loop 42001 = some ([2, 45, 46, 47], f42_c42001, 55) := by kernel_rfl
theorem kl_43000 : K.loop 43000 = some ([2, 3, 4, 5, 9, 10, 11], f43_c43000, 44) := by kernel_rfl
theorem kl_45000 : K.loop 45000 = some ([2, 3, 4, 5, 6], f45_c45000, 28) := by kernel_rfl
theorem kl_46000 : K.loop 46000 = some ([1, 2, 3, 16, 17, 18], f46_c46000, 40) := by kernel_rfl
theorem kl_47000 : K.loop 47000 = some ([1, 2, 3, 4], f47_c47000, 19) := by kernel_rfl
theorem kl_48000 : K.loop 48000 = some ([0, 1, 2, 6, 7, 8], f48_c48000, 62) := by kernel_rfl
theorem kl_49000 : K.loop 49000 = some ([2, 3, 4, 5, 13, 14, 15], f49_c49000, 76) := by kernel_rfl
theorem kl_49001 : K.loop 49001 = some ([2, 3, 4, 5, 7, 8, 13, 14, 15, 25, 26, 27], f49_c49001, 76) := by kernel_rfl
theorem kl_49002 : K.loop 49002 = some ([2, 3, 4, 5, 7, 8, 10, 13, 14, 15, 25, 26, 27, 31], f49_c49002, 76) := by kernel_rfl
theorem kl_50000 : K.loop 50000 = some ([1, 2, 3, 4], f50_c50000, 30) := by kernel_rfl
theorem kl_58000 : K.loop 58000 = some ([1, 4, 17, 18], f58_c58000, 85) := by kernel_rfl
theorem kl_58001 : K.loop 58001 = some ([1, 4, 6, 26, 27], f58_c58001, 85) := by kernel_rfl
theorem kl_58002 : K.loop 58002 = some ([1, 4, 6, 8, 9, 26, 27], f58_c58002, 85) := by kernel_rfl
theorem kl_58003 : K.loop 58003 = some ([1, 4, 6, 8, 9, 26, 27, 54, 55], f58_c58003, 85) := by kernel_rfl
theorem kl_59000 : K.loop 59000 = some ([0, 4], f59_c59000, 27) := by kernel_rfl
theorem kl_60000 : K.loop 60000 = some ([2, 3, 6, 7], f60_c60000, 23) := by kernel_rfl
theorem kl_66000 : K.loop 66000 = some ([2, 3, 6, 7], f66_c66000, 16) := by kernel_rfl
theorem kl_67000 : K.loop 67000 = some ([0, 1, 4, 12, 13], f67_c67000, 26) := by kernel_rfl
theorem kl_68000 : K.loop 68000 = some ([1, 5, 15, 16, 17], f68_c68000, 49) := by kernel_rfl
theorem kl_72000 : K.loop 72000 = some ([0, 1, 4, 7, 8], f72_c72000, 19) := by kernel_rfl
theorem kl_73000 : K.loop 73000 = some ([3, 8, 9, 10, 11], f73_c73000, 67) := by kernel_rfl
theorem kl_76000 : K.loop 76000 = some ([0, 1, 2, 6, 11, 12, 13], f76_c76000, 39) := by kernel_rfl
theorem kl_77000 : K.loop 77000 = some ([2, 3, 4, 10], f77_c77000, 62) := by kernel_rfl
theorem kl_77001 : K.loop 77001 = some ([2, 3, 4, 5, 10, 31], f77_c77001, 62) := by kernel_rfl
theorem kl_78000 : K.loop 78000 = some ([0, 1, 8, 9], f78_c78000, 30) := by kernel_rfl
theorem kl_78001 : K.loop 78001 = some ([0, 1, 3, 8, 9, 16, 17], f78_c78001, 30) := by kernel_rfl
theorem kl_80000 : K.loop 80000 = some ([0, 1, 4, 5, 12], f80_c80000, 99) := by kernel_rfl
theorem kl_81000 : K.loop 81000 = some ([0, 1, 2, 6, 7, 8], f81_c81000, 63) := by kernel_rfl
theorem kl_81001 : K.loop 81001 = some ([0, 1, 2, 6], f81_c81001, 63) := by kernel_rfl
theorem kl_81002 : K.loop 81002 = some ([0, 1, 2, 6, 7, 8], f81_c81002, 63) := by kernel_rfl
theorem kl_82000 : K.loop 82000 = some ([0, 1, 2, 3, 8], f82_c82000, 53) := by kernel_rfl
theorem kl_82001 : K.loop 82001 = some ([0, 1, 2, 3, 8, 9], f82_c82001, 53) := by kernel_rfl
theorem kl_83000 : K.loop 83000 = some ([0, 1, 4, 10, 11], f83_c83000, 220) := by kernel_rfl
theorem kl_83001 : K.loop 83001 = some ([0, 10, 13], f83_c83001, 220) := by kernel_rfl
theorem kl_83002 : K.loop 83002 = some ([0, 2, 4, 14, 15], f83_c83002, 220) := by kernel_rfl
theorem kl_83003 : K.loop 83003 = some ([0, 14, 17], f83_c83003, 220) := by kernel_rfl
theorem kl_83004 : K.loop 83004 = some ([0, 1, 2, 3, 4, 18, 19, 20, 21, 22], f83_c83004, 220) := by kernel_rfl
theorem kl_84000 : K.loop 84000 = some ([0, 2, 4, 10, 11], f84_c84000, 58) := by kernel_rfl
theorem kl_85000 : K.loop 85000 = some ([0, 1, 2, 3, 10], f85_c85000, 38) := by kernel_rfl
theorem kr_10001 : K.rng 67 [51] = some ([2, 3, 9, 10], f10_a10001, f10_c10001) := by kernel_rfl
theorem kr_57000 : K.rng 71 [13, 14] = some ([1, 2, 3], f57_a57000, f57_c57000) := by kernel_rfl
theorem kr_68001 : K.rng 49 [30] = some ([1, 5, 6, 7], f68_a68001, f68_c68001) := by kernel_rfl
theorem ck_4 : CodeOK K f4_f.nt f4_f.code := (And.intro trivial (And.intro (And.intro trivial (And.intro (And.intro trivial trivial) trivial)) (And.intro trivial trivial)))
theorem fe_4 : FE (H := H) P bk K 4 (fun o vs h c => match vs with | [t0, t1, t2] => f4_S o t0 t1 t2 h c | _ => none) := by
  refine ⟨f4_f, bk_4, rfl, ck_4, fun o vs h c r e => ?_⟩
  dsimp only at e
  split at e
  · exact ⟨rfl, (f4_S_eq o _ _ _ h c).trans e⟩
  · cases e
theorem kc_10000 : CodeOK K 67 f10_c10000 := (And.intro trivial (And.intro (And.intro trivial trivial) (And.intro (And.intro trivial (And.intro trivial (And.intro rfl kr_10001))) trivial)))
theorem le_10000 : LE (H := H) P K 10000 (fun o rd vs h c df => match vs with | [t2, t3, t9, t46, t47] => f10_L10000 o rd t2 t3 t9 t46 t47 h c df | _ => none) := by
  intro lin b nt hk
  rw [kl_10000] at hk
  cases hk
  refine ⟨kc_10000, fun o rd vs h c df q e => ?_⟩
  dsimp only at e
  split at e
  · exact (f10_L10000_eq o rd _ _ _ _ _ h c df).trans e
  · cases e
theorem ka_10001 : CodeOK K 67 f10_a10001 := trivial
theorem kc_10001 : CodeOK K 67 f10_c10001 := (And.intro trivial (And.intro trivial (And.intro trivial trivial)))
theorem re_10001 : RE (H := H) P K 67 [51] (fun o l vs h c => match vs with | [t51, t2, t3, t9, t10] => f10_R10001 o l t51 t2 t3 t9 t10 h c | _ => none) := by
  intro lin a b hk
  rw [kr_10001] at hk
  cases hk
  refine ⟨ka_10001, kc_10001, fun o l vs h c r e => ?_⟩
  dsimp only at e
  split at e
  · exact (f10_R10001_eq o l _ _ _ _ _ h c).trans e
  · cases e
theorem ck_10 : CodeOK K f10_f.nt f10_f.code := (And.intro trivial (And.intro (And.intro trivial (And.intro trivial (And.intro (And.intro trivial trivial) trivial))) (And.intro trivial (And.intro (And.intro trivial (And.intro (And.intro trivial trivial) trivial)) (And.intro (And.intro trivial (And.intro (And.intro trivial trivial) trivial)) (And.intro (And.intro trivial (And.intro (And.intro trivial trivial) trivial)) (And.intro trivial (And.intro (And.intro trivial (And.intro rfl kl_10000)) (And.intro trivial trivial)))))))))
theorem fe_10 : FE (H := H) P bk K 10 (fun o vs h c => match vs with | [t0, t1] => f10_S o t0 t1 h c | _ => none) := by
  refine ⟨f10_f, bk_10, rfl, ck_10, fun o vs h c r e => ?_⟩
  dsimp only at e
  split at e
  · exact ⟨rfl, (f10_S_eq o _ _ h c).trans e⟩
  · cases e
theorem ck_13 : CodeOK K f13_f.nt f13_f.code := (And.intro trivial (And.intro trivial (And.intro trivial (And.intro trivial (And.intro trivial (And.intro trivial (And.intro trivial (And.intro trivial trivial))))))))
theorem fe_13 : FE (H := H) P bk K 13 (fun o vs h c => match vs with | [] => f13_S o h c | _ => none) := by
  refine ⟨f13_f, bk_13, rfl, ck_13, fun o vs h c r e => ?_⟩
  dsimp only at e
  split at e
  · exact ⟨rfl, (f13_S_eq o h c).trans e⟩
  · cases e
theorem ck_14 : CodeOK K f14_f.nt f14_f.code := (And.intro trivial (And.intro (And.intro trivial (And.intro trivial (And.intro (And.intro trivial trivial) trivial))) (And.intro trivial (And.intro (And.intro trivial (And.intro (And.intro trivial trivial) trivial)) (And.intro trivial trivial)))))
theorem fe_14 : FE (H := H) P bk K 14 (fun o vs h c => match vs with | [t0, t1, t2] => f14_S o t0 t1 t2 h c | _ => none) := by
  refine ⟨f14_f, bk_14, rfl, ck_14, fun o vs h c r e => ?_⟩
  dsimp only at e
  split at e
  · exact ⟨rfl, (f14_S_eq o _ _ _ h c).trans e⟩
  · cases e
theorem ck_15 : CodeOK K f15_f.nt f15_f.code := (And.intro trivial (And.intro (And.intro trivial (And.intro (And.intro trivial trivial) trivial)) (And.intro trivial (And.intro (And.intro trivial (And.intro (And.intro trivial trivial) trivial)) (And.intro trivial trivial)))))
theorem fe_15 : FE (H := H) P bk K 15 (fun o vs h c => match vs with | [t0, t1, t2] => f15_S o t0 t1 t2 h c | _ => none) := by
  refine ⟨f15_f, bk_15, rfl, ck_15, fun o vs h c r e => ?_⟩
  dsimp only at e
  split at e
  · exact ⟨rfl, (f15_S_eq o _ _ _ h c).trans e⟩
  · cases e
theorem ck_16 : CodeOK K f16_f.nt f16_f.code := (And.intro trivial (And.intro (And.intro trivial (And.intro (And.intro trivial trivial) trivial)) (And.intro trivial trivial)))
theorem fe_16 : FE (H := H) P bk K 16 (fun o vs h c => match vs with | [t0, t1] => f16_S o t0 t1 h c | _ => none) := by
  refine ⟨f16_f, bk_16, rfl, ck_16, fun o vs h c r e => ?_⟩
  dsimp only at e
  split at e
  · exact ⟨rfl, (f16_S_eq o _ _ h c).trans e⟩
  · cases e
theorem kc_20000 : CodeOK K 103 f20_c20000 := (And.intro (And.intro trivial (And.intro trivial trivial)) (And.intro trivial trivial))
theorem le_20000 : LE (H := H) P K 20000 (fun o rd vs h c df => match vs with | [t1, t2, t3, t6, t8, t9, t10] => f20_L20000 o rd t1 t2 t3 t6 t8 t9 t10 h c df | _ => none) := by
  intro lin b nt hk
  rw [kl_20000] at hk
  cases hk
  refine ⟨kc_20000, fun o rd vs h c df q e => ?_⟩
  dsimp only at e
  split at e
  · exact (f20_L20000_eq o rd _ _ _ _ _ _ _ h c df).trans e
  · cases e
theorem kc_20002 : CodeOK K 103 f20_c20002 := (And.intro (And.intro trivial (And.intro trivial trivial)) (And.intro (And.intro trivial (And.intro (And.intro trivial (And.intro (And.intro trivial trivial) trivial)) (And.intro trivial trivial))) trivial))
theorem le_20002 : LE (H := H) P K 20002 (fun o rd vs h c df => match vs with | [t1, t2, t3, t6, t8, t9, t11, t12, t13, t14] => f20_L20002 o rd t1 t2 t3 t6 t8 t9 t11 t12 t13 t14 h c df | _ => none) := by
  intro lin b nt hk
  rw [kl_20002] at hk
  cases hk
  refine ⟨kc_20002, fun o rd vs h c df q e => ?_⟩
  dsimp only at e
  split at e
  · exact (f20_L20002_eq o rd _ _ _ _ _ _ _ _ _ _ h c df).trans e
  · cases e
theorem kc_20001 : CodeOK K 103 f20_c20001 := (And.intro (And.intro trivial (And.intro trivial trivial)) (And.intro (And.intro trivial (And.intro (And.intro trivial (And.intro rfl kl_20002)) trivial)) trivial))
theorem le_20001 : LE (H := H) P K 20001 (fun o rd vs h c df => match vs with | [t1, t2, t3, t6, t8, t9, t11, t12] => f20_L20001 o rd t1 t2 t3 t6 t8 t9 t11 t12 h c df | _ => none) := by
  intro lin b nt hk
  rw [kl_20001] at hk
  cases hk
  refine ⟨kc_20001, fun o rd vs h c df q e => ?_⟩
  dsimp only at e
  split at e
  · exact (f20_L20001_eq o rd _ _ _ _ _ _ _ _ h c df).trans e
  · cases e
theorem ck_20 : CodeOK K f20_f.nt f20_f.code := (And.intro trivial (And.intro (And.intro trivial (And.intro (And.intro trivial trivial) trivial)) (And.intro trivial (And.intro (And.intro trivial (And.intro (And.intro trivial trivial) trivial)) (And.intro trivial (And.intro (And.intro trivial (And.intro rfl kl_20000)) (And.intro trivial (And.intro (And.intro trivial (And.intro rfl kl_20001)) (And.intro trivial trivial)))))))))
theorem fe_20 : FE (H := H) P bk K 20 (fun o vs h c => match vs with | [t0, t1, t2] => f20_S o t0 t1 t2 h c | _ => none) := by
  refine ⟨f20_f, bk_20, rfl, ck_20, fun o vs h c r e => ?_⟩
  dsimp only at e
  split at e
  · exact ⟨rfl, (f20_S_eq o _ _ _ h c).trans e⟩
  · cases e
theorem kc_22001 : CodeOK K 46 f22_c22001 := (And.intro trivial (And.intro (And.intro trivial trivial) (And.intro (And.intro trivial (And.intro trivial trivial)) trivial)))
theorem le_22001 : LE (H := H) P K 22001 (fun o rd vs h c df => match vs with | [t7, t24, t25, t26, t30, t31] => f22_L22001 o rd t7 t24 t25 t26 t30 t31 h c df | _ => none) := by
  intro lin b nt hk
  rw [kl_22001] at hk
  cases hk
  refine ⟨kc_22001, fun o rd vs h c df q e => ?_⟩
  dsimp only at e
  split at e
  · exact (f22_L22001_eq o rd _ _ _ _ _ _ h c df).trans e
  · cases e
theorem kc_22000 : CodeOK K 46 f22_c22000 := (And.intro trivial (And.intro (And.intro trivial trivial) (And.intro (And.intro trivial (And.intro trivial (And.intro rfl kl_22001))) trivial)))
theorem le_22000 : LE (H := H) P K 22000 (fun o rd vs h c df => match vs with | [t7, t24, t25, t26] => f22_L22000 o rd t7 t24 t25 t26 h c df | _ => none) := by
  intro lin b nt hk
  rw [kl_22000] at hk
  cases hk
  refine ⟨kc_22000, fun o rd vs h c df q e => ?_⟩
  dsimp only at e
  split at e
  · exact (f22_L22000_eq o rd _ _ _ _ h c df).trans e
  · cases e
theorem ck_22 : CodeOK K f22_f.nt f22_f.code := (And.intro trivial (And.intro (And.intro trivial (And.intro trivial (And.intro (And.intro trivial trivial) trivial))) (And.intro trivial (And.intro trivial (And.intro (And.intro trivial (And.intro rfl kl_22000)) (And.intro trivial trivial))))))
theorem fe_22 : FE (H := H) P bk K 22 (fun o vs h c => match vs with | [t0] => f22_S o t0 h c | _ => none) := by
  refine ⟨f22_f, bk_22, rfl, ck_22, fun o vs h c r e => ?_⟩
  dsimp only at e
  split at e
  · exact ⟨rfl, (f22_S_eq o _ h c).trans e⟩
  · cases e
theorem kc_23001 : CodeOK K 83 f23_c23001 := (And.intro (And.intro trivial (And.intro trivial trivial)) (And.intro (And.intro trivial (And.intro (And.intro trivial (And.intro trivial trivial)) (And.intro (And.intro trivial (And.intro (And.intro trivial trivial) trivial)) (And.intro trivial (And.intro (And.intro trivial trivial) trivial))))) trivial))
theorem le_23001 : LE (H := H) P K 23001 (fun o rd vs h c df => match vs with | [t1, t2, t3, t4, t5] => f23_L23001 o rd t1 t2 t3 t4 t5 h c df | _ => none) := by
  intro lin b nt hk
  rw [kl_23001] at hk
  cases hk
  refine ⟨kc_23001, fun o rd vs h c df q e => ?_⟩
  dsimp only at e
  split at e
  · exact (f23_L23001_eq o rd _ _ _ _ _ h c df).trans e
  · cases e
theorem kc_23000 : CodeOK K 83 f23_c23000 := (And.intro (And.intro trivial (And.intro trivial trivial)) (And.intro (And.intro trivial (And.intro rfl kl_23001)) trivial))
theorem le_23000 : LE (H := H) P K 23000 (fun o rd vs h c df => match vs with | [t1, t2, t3, t4] => f23_L23000 o rd t1 t2 t3 t4 h c df | _ => none) := by
  intro lin b nt hk
  rw [kl_23000] at hk
  cases hk
  refine ⟨kc_23000, fun o rd vs h c df q e => ?_⟩
  dsimp only at e
  split at e
  · exact (f23_L23000_eq o rd _ _ _ _ h c df).trans e
  · cases e
theorem ck_23 : CodeOK K f23_f.nt f23_f.code := (And.intro trivial (And.intro trivial (And.intro (And.intro trivial (And.intro (And.intro trivial trivial) trivial)) (And.intro (And.intro trivial (And.intro rfl kl_23000)) (And.intro trivial trivial)))))
theorem fe_23 : FE (H := H) P bk K 23 (fun o vs h c => match vs with | [t0] => f23_S o t0 h c | _ => none) := by
  refine ⟨f23_f, bk_23, rfl, ck_23, fun o vs h c r e => ?_⟩
  dsimp only at e
  split at e
  · exact ⟨rfl, (f23_S_eq o _ h c).trans e⟩
  · cases e
theorem kc_25000 : CodeOK K 31 f25_c25000 := (And.intro (And.intro trivial (And.intro trivial trivial)) (And.intro (And.intro trivial (And.intro (And.intro trivial trivial) trivial)) trivial))
theorem le_25000 : LE (H := H) P K 25000 (fun o rd vs h c df => match vs with | [t2, t3, t4, t5] => f25_L25000 o rd t2 t3 t4 t5 h c df | _ => none) := by
  intro lin b nt hk
  rw [kl_25000] at hk
  cases hk
  refine ⟨kc_25000, fun o rd vs h c df q e => ?_⟩
  dsimp only at e
  split at e
  · exact (f25_L25000_eq o rd _ _ _ _ h c df).trans e
  · cases e
theorem ck_25 : CodeOK K f25_f.nt f25_f.code := (And.intro trivial (And.intro (And.intro trivial (And.intro (And.intro trivial trivial) trivial)) (And.intro (And.intro trivial (And.intro rfl kl_25000)) (And.intro trivial trivial))))
theorem fe_25 : FE (H := H) P bk K 25 (fun o vs h c => match vs with | [t0, t1] => f25_S o t0 t1 h c | _ => none) := by
  refine ⟨f25_f, bk_25, rfl, ck_25, fun o vs h c r e => ?_⟩
  dsimp only at e
  split at e
  · exact ⟨rfl, (f25_S_eq o _ _ h c).trans e⟩
  · cases e
theorem kc_26000 : CodeOK K 26 f26_c26000 := (And.intro (And.intro trivial (And.intro trivial trivial)) (And.intro (And.intro trivial (And.intro (And.intro trivial trivial) trivial)) trivial))
theorem le_26000 : LE (H := H) P K 26000 (fun o rd vs h c df => match vs with | [t0, t1, t4, t5] => f26_L26000 o rd t0 t1 t4 t5 h c df | _ => none) := by
  intro lin b nt hk
  rw [kl_26000] at hk
  cases hk
  refine ⟨kc_26000, fun o rd vs h c df q e => ?_⟩
  dsimp only at e
  split at e
  · exact (f26_L26000_eq o rd _ _ _ _ h c df).trans e
  · cases e
theorem ck_26 : CodeOK K f26_f.nt f26_f.code := (And.intro trivial (And.intro (And.intro trivial (And.intro (And.intro trivial trivial) trivial)) (And.intro (And.intro trivial (And.intro rfl kl_26000)) (And.intro trivial trivial))))
theorem fe_26 : FE (H := H) P bk K 26 (fun o vs h c => match vs with | [t0, t1] => f26_S o t0 t1 h c | _ => none) := by
  refine ⟨f26_f, bk_26, rfl, ck_26, fun o vs h c r e => ?_⟩
  dsimp only at e
  split at e
  · exact ⟨rfl, (f26_S_eq o _ _ h c).trans e⟩
  · cases e
theorem ck_28 : CodeOK K f28_f.nt f28_f.code := (And.intro trivial (And.intro (And.intro trivial (And.intro trivial (And.intro (And.intro trivial trivial) trivial))) (And.intro trivial (And.intro trivial (And.intro (And.intro trivial (And.intro (And.intro trivial trivial) trivial)) (And.intro trivial trivial))))))
theorem fe_28 : FE (H := H) P bk K 28 (fun o vs h c => match vs with | [t0, t1] => f28_S o t0 t1 h c | _ => none) := by
  refine ⟨f28_f, bk_28, rfl, ck_28, fun o vs h c r e => ?_⟩
  dsimp only at e
  split at e
  · exact ⟨rfl, (f28_S_eq o _ _ h c).trans e⟩
  · cases e
theorem kc_31000 : CodeOK K 18 f31_c31000 := (And.intro trivial (And.intro (And.intro trivial trivial) (And.intro (And.intro trivial (And.intro trivial (And.intro trivial (And.intro (And.intro trivial trivial) trivial)))) trivial)))
theorem le_31000 : LE (H := H) P K 31000 (fun o rd vs h c df => match vs with | [t2, t6, t7, t8] => f31_L31000 o rd t2 t6 t7 t8 h c df | _ => none) := by
  intro lin b nt hk
  rw [kl_31000] at hk
  cases hk
  refine ⟨kc_31000, fun o rd vs h c df q e => ?_⟩
  dsimp only at e
  split at e
  · exact (f31_L31000_eq o rd _ _ _ _ h c df).trans e
  · cases e
theorem ck_31 : CodeOK K f31_f.nt f31_f.code := (And.intro trivial (And.intro (And.intro trivial (And.intro rfl kl_31000)) (And.intro trivial trivial)))
theorem fe_31 : FE (H := H) P bk K 31 (fun o vs h c => match vs with | [t0] => f31_S o t0 h c | _ => none) := by
  refine ⟨f31_f, bk_31, rfl, ck_31, fun o vs h c r e => ?_⟩
  dsimp only at e
  split at e
  · exact ⟨rfl, (f31_S_eq o _ h c).trans e⟩
  · cases e
theorem ck_32 : CodeOK K f32_f.nt f32_f.code := (And.intro trivial (And.intro (And.intro trivial (And.intro trivial (And.intro (And.intro trivial trivial) trivial))) (And.intro trivial (And.intro trivial trivial))))
theorem fe_32 : FE (H := H) P bk K 32 (fun o vs h c => match vs with | [t0] => f32_S o t0 h c | _ => none) := by
  refine ⟨f32_f, bk_32, rfl, ck_32, fun o vs h c r e => ?_⟩
  dsimp only at e
  split at e
  · exact ⟨rfl, (f32_S_eq o _ h c).trans e⟩
  · cases e
theorem kc_33000 : CodeOK K 25 f33_c33000 := (And.intro (And.intro trivial (And.intro trivial trivial)) (And.intro trivial trivial))
theorem le_33000 : LE (H := H) P K 33000 (fun o rd vs h c df => match vs with | [t0, t3, t4] => f33_L33000 o rd t0 t3 t4 h c df | _ => none) := by
  intro lin b nt hk
  rw [kl_33000] at hk
  cases hk
  refine ⟨kc_33000, fun o rd vs h c df q e => ?_⟩
  dsimp only at e
  split at e
  · exact (f33_L33000_eq o rd _ _ _ h c df).trans e
  · cases e
theorem ck_33 : CodeOK K f33_f.nt f33_f.code := (And.intro trivial (And.intro (And.intro trivial (And.intro trivial trivial)) (And.intro trivial (And.intro (And.intro trivial (And.intro rfl kl_33000)) (And.intro trivial trivial)))))
theorem fe_33 : FE (H := H) P bk K 33 (fun o vs h c => match vs with | [t0] => f33_S o t0 h c | _ => none) := by
  refine ⟨f33_f, bk_33, rfl, ck_33, fun o vs h c r e => ?_⟩
  dsimp only at e
  split at e
  · exact ⟨rfl, (f33_S_eq o _ h c).trans e⟩
  · cases e
theorem ck_34 : CodeOK K f34_f.nt f34_f.code := (And.intro trivial (And.intro trivial trivial))
theorem fe_34 : FE (H := H) P bk K 34 (fun o vs h c => match vs with | [] => f34_S o h c | _ => none) := by
  refine ⟨f34_f, bk_34, rfl, ck_34, fun o vs h c r e => ?_⟩
  dsimp only at e
  split at e
  · exact ⟨rfl, (f34_S_eq o h c).trans e⟩
  · cases e
theorem kc_35001 : CodeOK K 157 f35_c35001 := (And.intro trivial (And.intro (And.intro trivial trivial) (And.intro (And.intro trivial (And.intro trivial (And.intro (And.intro trivial (And.intro (And.intro trivial trivial) trivial)) (And.intro (And.intro trivial (And.intro trivial trivial)) (And.intro trivial (And.intro (And.intro trivial (And.intro (And.intro trivial (And.intro trivial trivial)) trivial)) (And.intro trivial (And.intro (And.intro trivial trivial) trivial)))))))) trivial)))
theorem le_35001 : LE (H := H) P K 35001 (fun o rd vs h c df => match vs with | [t4, t5, t8, t9, t10, t11, t12, t13, t14, t15, t53, t54] => f35_L35001 o rd t4 t5 t8 t9 t10 t11 t12 t13 t14 t15 t53 t54 h c df | _ => none) := by
  intro lin b nt hk
  rw [kl_35001] at hk
  cases hk
  refine ⟨kc_35001, fun o rd vs h c df q e => ?_⟩
  dsimp only at e
  split at e
  · exact (f35_L35001_eq o rd _ _ _ _ _ _ _ _ _ _ _ _ h c df).trans e
  · cases e
theorem kc_35000 : CodeOK K 157 f35_c35000 := (And.intro (And.intro trivial (And.intro trivial trivial)) (And.intro (And.intro trivial (And.intro trivial (And.intro rfl kl_35001))) trivial))
theorem le_35000 : LE (H := H) P K 35000 (fun o rd vs h c df => match vs with | [t4, t5, t8, t9, t10, t11, t12, t13, t14] => f35_L35000 o rd t4 t5 t8 t9 t10 t11 t12 t13 t14 h c df | _ => none) := by
  intro lin b nt hk
  rw [kl_35000] at hk
  cases hk
  refine ⟨kc_35000, fun o rd vs h c df q e => ?_⟩
  dsimp only at e
  split at e
  · exact (f35_L35000_eq o rd _ _ _ _ _ _ _ _ _ h c df).trans e
  · cases e
theorem ck_35 : CodeOK K f35_f.nt f35_f.code := (And.intro trivial (And.intro trivial (And.intro trivial (And.intro trivial (And.intro trivial (And.intro trivial (And.intro (And.intro trivial (And.intro rfl kl_35000)) (And.intro trivial trivial))))))))
theorem fe_35 : FE (H := H) P bk K 35 (fun o vs h c => match vs with | [t0, t1, t2, t3] => f35_S o t0 t1 t2 t3 h c | _ => none) := by
  refine ⟨f35_f, bk_35, rfl, ck_35, fun o vs h c r e => ?_⟩
  dsimp only at e
  split at e
  · exact ⟨rfl, (f35_S_eq o _ _ _ _ h c).trans e⟩
  · cases e
theorem ck_39 : CodeOK K f39_f.nt f39_f.code := (And.intro trivial (And.intro trivial trivial))
theorem fe_39 : FE (H := H) P bk K 39 (fun o vs h c => match vs with | [] => f39_S o h c | _ => none) := by
  refine ⟨f39_f, bk_39, rfl, ck_39, fun o vs h c r e => ?_⟩
  dsimp only at e
  split at e
  · exact ⟨rfl, (f39_S_eq o h c).trans e⟩
  · cases e
theorem kc_40000 : CodeOK K 139 f40_c40000 := (And.intro trivial (And.intro (And.intro trivial trivial) (And.intro (And.intro trivial (And.intro (And.intro trivial (And.intro (And.intro trivial trivial) trivial)) trivial)) trivial)))
theorem le_40000 : LE (H := H) P K 40000 (fun o rd vs h c df => match vs with | [t1, t2, t3, t6, t7, t9, t10, t11, t49, t50, t51] => f40_L40000 o rd t1 t2 t3 t6 t7 t9 t10 t11 t49 t50 t51 h c df | _ => none) := by
  intro lin b nt hk
  rw [kl_40000] at hk
  cases hk
  refine ⟨kc_40000, fun o rd vs h c df q e => ?_⟩
  dsimp only at e
  split at e
  · exact (f40_L40000_eq o rd _ _ _ _ _ _ _ _ _ _ _ h c df).trans e
  · cases e
theorem kc_40002 : CodeOK K 139 f40_c40002 := (And.intro trivial (And.intro (And.intro trivial trivial) (And.intro (And.intro trivial (And.intro trivial (And.intro trivial (And.intro trivial (And.intro (And.intro trivial trivial) trivial))))) trivial)))
theorem le_40002 : LE (H := H) P K 40002 (fun o rd vs h c df => match vs with | [t2, t3, t6, t10, t14, t15, t16, t17, t78, t79, t80, t85] => f40_L40002 o rd t2 t3 t6 t10 t14 t15 t16 t17 t78 t79 t80 t85 h c df | _ => none) := by
  intro lin b nt hk
  rw [kl_40002] at hk
  cases hk
  refine ⟨kc_40002, fun o rd vs h c df q e => ?_⟩
  dsimp only at e
  split at e
  · exact (f40_L40002_eq o rd _ _ _ _ _ _ _ _ _ _ _ _ h c df).trans e
  · cases e
theorem kc_40001 : CodeOK K 139 f40_c40001 := (And.intro trivial (And.intro (And.intro trivial trivial) (And.intro (And.intro trivial (And.intro trivial (And.intro (And.intro trivial (And.intro rfl kl_40002)) trivial))) trivial)))
theorem le_40001 : LE (H := H) P K 40001 (fun o rd vs h c df => match vs with | [t2, t3, t6, t10, t14, t78, t79, t80] => f40_L40001 o rd t2 t3 t6 t10 t14 t78 t79 t80 h c df | _ => none) := by
  intro lin b nt hk
  rw [kl_40001] at hk
  cases hk
  refine ⟨kc_40001, fun o rd vs h c df q e => ?_⟩
  dsimp only at e
  split at e
  · exact (f40_L40001_eq o rd _ _ _ _ _ _ _ _ h c df).trans e
  · cases e
theorem ck_40 : CodeOK K f40_f.nt f40_f.code := (And.intro trivial (And.intro (And.intro trivial (And.intro trivial (And.intro (And.intro trivial trivial) trivial))) (And.intro trivial (And.intro trivial (And.intro trivial (And.intro (And.intro trivial (And.intro (And.intro trivial trivial) trivial)) (And.intro (And.intro trivial (And.intro rfl kl_40000)) (And.intro trivial (And.intro (And.intro trivial (And.intro rfl kl_40001)) (And.intro trivial trivial))))))))))
theorem fe_40 : FE (H := H) P bk K 40 (fun o vs h c => match vs with | [t0, t1, t2] => f40_S o t0 t1 t2 h c | _ => none) := by
  refine ⟨f40_f, bk_40, rfl, ck_40, fun o vs h c r e => ?_⟩
  dsimp only at e
  split at e
  · exact ⟨rfl, (f40_S_eq o _ _ _ h c).trans e⟩
  · cases e
theorem ck_41 : CodeOK K f41_f.nt f41_f.code := (And.intro trivial (And.intro trivial trivial))
theorem fe_41 : FE (H := H) P bk K 41 (fun o vs h c => match vs with | [t0, t1] => f41_S o t0 t1 h c | _ => none) := by
  refine ⟨f41_f, bk_41, rfl, ck_41, fun o vs h c r e => ?_⟩
  dsimp only at e
  split at e
  · exact ⟨rfl, (f41_S_eq o _ _ h c).trans e⟩
  · cases e
theorem kc_42000 : CodeOK K 55 f42_c42000 := (And.intro trivial (And.intro (And.intro trivial trivial) (And.intro (And.intro trivial (And.intro (And.intro trivial (And.intro (And.intro trivial trivial) trivial)) trivial)) trivial)))
theorem le_42000 : LE (H := H) P K 42000 (fun o rd vs h c df => match vs with | [t1, t2, t3, t4, t23, t24, t25] => f42_L42000 o rd t1 t2 t3 t4 t23 t24 t25 h c df | _ => none) := by
  intro lin b nt hk
  rw [kl_42000] at hk
  cases hk
  refine ⟨kc_42000, fun o rd vs h c df q e => ?_⟩
  dsimp only at e
  split at e
  · exact (f42_L42000_eq o rd _ _ _ _ _ _ _ h c df).trans e
  · cases e
theorem kc_42001 : CodeOK K 55 f42_c42001 := (And.intro trivial (And.intro (And.intro trivial trivial) (And.intro (And.intro trivial (And.intro trivial (And.intro (And.intro trivial trivial) trivial))) trivial)))
theorem le_42001 : LE (H := H) P K 42001 (fun o rd vs h c df => match vs with | [t2, t45, t46, t47] => f42_L42001 o rd t2 t45 t46 t47 h c df | _ => none) := by
  intro lin b nt hk
  rw [kl_42001] at hk
  cases hk
  refine ⟨kc_42001, fun o rd vs h c df q e => ?_⟩
  dsimp only at e
  split at e
  · exact (f42_L42001_eq o rd _ _ _ _ h c df).trans e
  · cases e
theorem ck_42 : CodeOK K f42_f.nt f42_f.code := (And.intro trivial (And.intro trivial (And.intro (And.intro trivial (And.intro (And.intro trivial trivial) trivial)) (And.intro trivial (And.intro (And.intro trivial (And.intro rfl kl_42000)) (And.intro (And.intro trivial (And.intro rfl kl_42001)) (And.intro trivial trivial)))))))
theorem fe_42 : FE (H := H) P bk K 42 (fun o vs h c => match vs with | [t0] => f42_S o t0 h c | _ => none) := by
  refine ⟨f42_f, bk_42, rfl, ck_42, fun o vs h c r e => ?_⟩
  dsimp only at e
  split at e
  · exact ⟨rfl, (f42_S_eq o _ h c).trans e⟩
  · cases e
theorem kc_43000 : CodeOK K 44 f43_c43000 := (And.intro trivial (And.intro (And.intro trivial trivial) (And.intro (And.intro trivial (And.intro trivial trivial)) trivial)))
theorem le_43000 : LE (H := H) P K 43000 (fun o rd vs h c df => match vs with | [t2, t3, t4, t5, t9, t10, t11] => f43_L43000 o rd t2 t3 t4 t5 t9 t10 t11 h c df | _ => none) := by
  intro lin b nt hk
  rw [kl_43000] at hk
  cases hk
  refine ⟨kc_43000, fun o rd vs h c df q e => ?_⟩
  dsimp only at e
  split at e
  · exact (f43_L43000_eq o rd _ _ _ _ _ _ _ h c df).trans e
  · cases e
theorem ck_43 : CodeOK K f43_f.nt f43_f.code := (And.intro trivial (And.intro trivial (And.intro (And.intro trivial (And.intro rfl kl_43000)) (And.intro trivial trivial))))
theorem fe_43 : FE (H := H) P bk K 43 (fun o vs h c => match vs with | [t0, t1] => f43_S o t0 t1 h c | _ => none) := by
  refine ⟨f43_f, bk_43, rfl, ck_43, fun o vs h c r e => ?_⟩
  dsimp only at e
  split at e
  · exact ⟨rfl, (f43_S_eq o _ _ h c).trans e⟩
  · cases e
theorem kc_45000 : CodeOK K 28 f45_c45000 := (And.intro (And.intro trivial (And.intro trivial trivial)) (And.intro trivial trivial))
theorem le_45000 : LE (H := H) P K 45000 (fun o rd vs h c df => match vs with | [t2, t3, t4, t5, t6] => f45_L45000 o rd t2 t3 t4 t5 t6 h c df | _ => none) := by
  intro lin b nt hk
  rw [kl_45000] at hk
  cases hk
  refine ⟨kc_45000, fun o rd vs h c df q e => ?_⟩
  dsimp only at e
  split at e
  · exact (f45_L45000_eq o rd _ _ _ _ _ h c df).trans e
  · cases e
theorem ck_45 : CodeOK K f45_f.nt f45_f.code := (And.intro trivial (And.intro trivial (And.intro (And.intro trivial (And.intro (And.intro trivial trivial) trivial)) (And.intro (And.intro trivial (And.intro rfl kl_45000)) (And.intro trivial trivial)))))
theorem fe_45 : FE (H := H) P bk K 45 (fun o vs h c => match vs with | [t0, t1] => f45_S o t0 t1 h c | _ => none) := by
  refine ⟨f45_f, bk_45, rfl, ck_45, fun o vs h c r e => ?_⟩
  dsimp only at e
  split at e
  · exact ⟨rfl, (f45_S_eq o _ _ h c).trans e⟩
  · cases e
theorem kc_46000 : CodeOK K 40 f46_c46000 := (And.intro trivial (And.intro (And.intro trivial trivial) (And.intro (And.intro trivial trivial) trivial)))
theorem le_46000 : LE (H := H) P K 46000 (fun o rd vs h c df => match vs with | [t1, t2, t3, t16, t17, t18] => f46_L46000 o rd t1 t2 t3 t16 t17 t18 h c df | _ => none) := by
  intro lin b nt hk
  rw [kl_46000] at hk
  cases hk
  refine ⟨kc_46000, fun o rd vs h c df q e => ?_⟩
  dsimp only at e
  split at e
  · exact (f46_L46000_eq o rd _ _ _ _ _ _ h c df).trans e
  · cases e
theorem ck_46 : CodeOK K f46_f.nt f46_f.code := (And.intro trivial (And.intro trivial (And.intro (And.intro trivial (And.intro rfl kl_46000)) (And.intro trivial trivial))))
theorem fe_46 : FE (H := H) P bk K 46 (fun o vs h c => match vs with | [t0] => f46_S o t0 h c | _ => none) := by
  refine ⟨f46_f, bk_46, rfl, ck_46, fun o vs h c r e => ?_⟩
  dsimp only at e
  split at e
  · exact ⟨rfl, (f46_S_eq o _ h c).trans e⟩
  · cases e
theorem kc_47000 : CodeOK K 19 f47_c47000 := (And.intro (And.intro trivial (And.intro trivial trivial)) (And.intro trivial trivial))
theorem le_47000 : LE (H := H) P K 47000 (fun o rd vs h c df => match vs with | [t1, t2, t3, t4] => f47_L47000 o rd t1 t2 t3 t4 h c df | _ => none) := by
  intro lin b nt hk
  rw [kl_47000] at hk
  cases hk
  refine ⟨kc_47000, fun o rd vs h c df q e => ?_⟩
  dsimp only at e
  split at e
  · exact (f47_L47000_eq o rd _ _ _ _ h c df).trans e
  · cases e
theorem ck_47 : CodeOK K f47_f.nt f47_f.code := (And.intro trivial (And.intro trivial (And.intro (And.intro trivial (And.intro (And.intro trivial trivial) trivial)) (And.intro (And.intro trivial (And.intro rfl kl_47000)) (And.intro trivial trivial)))))
theorem fe_47 : FE (H := H) P bk K 47 (fun o vs h c => match vs with | [t0] => f47_S o t0 h c | _ => none) := by
  refine ⟨f47_f, bk_47, rfl, ck_47, fun o vs h c r e => ?_⟩
  dsimp only at e
  split at e
  · exact ⟨rfl, (f47_S_eq o _ h c).trans e⟩
  · cases e
theorem kc_48000 : CodeOK K 62 f48_c48000 := (And.intro (And.intro trivial (And.intro trivial trivial)) (And.intro (And.intro (And.intro trivial (And.intro (And.intro trivial trivial) trivial)) trivial) trivial))
theorem le_48000 : LE (H := H) P K 48000 (fun o rd vs h c df => match vs with | [t0, t1, t2, t6, t7, t8] => f48_L48000 o rd t0 t1 t2 t6 t7 t8 h c df | _ => none) := by
  intro lin b nt hk
  rw [kl_48000] at hk
  cases hk
  refine ⟨kc_48000, fun o rd vs h c df q e => ?_⟩
  dsimp only at e
  split at e
  · exact (f48_L48000_eq o rd _ _ _ _ _ _ h c df).trans e
  · cases e
theorem ck_48 : CodeOK K f48_f.nt f48_f.code := (And.intro trivial (And.intro (And.intro trivial (And.intro (And.intro trivial trivial) trivial)) (And.intro trivial (And.intro (And.intro trivial (And.intro rfl kl_48000)) (And.intro trivial trivial)))))
theorem fe_48 : FE (H := H) P bk K 48 (fun o vs h c => match vs with | [t0, t1, t2] => f48_S o t0 t1 t2 h c | _ => none) := by
  refine ⟨f48_f, bk_48, rfl, ck_48, fun o vs h c r e => ?_⟩
  dsimp only at e
  split at e
  · exact ⟨rfl, (f48_S_eq o _ _ _ h c).trans e⟩
  · cases e
theorem kc_49002 : CodeOK K 76 f49_c49002 := (And.intro trivial (And.intro (And.intro trivial trivial) (And.intro (And.intro trivial (And.intro trivial (And.intro trivial trivial))) trivial)))
theorem le_49002 : LE (H := H) P K 49002 (fun o rd vs h c df => match vs with | [t2, t3, t4, t5, t7, t8, t10, t13, t14, t15, t25, t26, t27, t31] => f49_L49002 o rd t2 t3 t4 t5 t7 t8 t10 t13 t14 t15 t25 t26 t27 t31 h c df | _ => none) := by
  intro lin b nt hk
  rw [kl_49002] at hk
  cases hk
  refine ⟨kc_49002, fun o rd vs h c df q e => ?_⟩
  dsimp only at e
  split at e
  · exact (f49_L49002_eq o rd _ _ _ _ _ _ _ _ _ _ _ _ _ _ h c df).trans e
  · cases e
theorem kc_49001 : CodeOK K 76 f49_c49001 := (And.intro trivial (And.intro (And.intro trivial trivial) (And.intro (And.intro trivial (And.intro (And.intro trivial (And.intro rfl kl_49002)) trivial)) trivial)))
theorem le_49001 : LE (H := H) P K 49001 (fun o rd vs h c df => match vs with | [t2, t3, t4, t5, t7, t8, t13, t14, t15, t25, t26, t27] => f49_L49001 o rd t2 t3 t4 t5 t7 t8 t13 t14 t15 t25 t26 t27 h c df | _ => none) := by
  intro lin b nt hk
  rw [kl_49001] at hk
  cases hk
  refine ⟨kc_49001, fun o rd vs h c df q e => ?_⟩
  dsimp only at e
  split at e
  · exact (f49_L49001_eq o rd _ _ _ _ _ _ _ _ _ _ _ _ h c df).trans e
  · cases e
theorem kc_49000 : CodeOK K 76 f49_c49000 := (And.intro trivial (And.intro (And.intro trivial trivial) (And.intro (And.intro trivial (And.intro trivial (And.intro (And.intro trivial (And.intro rfl kl_49001)) (And.intro trivial trivial)))) trivial)))
theorem le_49000 : LE (H := H) P K 49000 (fun o rd vs h c df => match vs with | [t2, t3, t4, t5, t13, t14, t15] => f49_L49000 o rd t2 t3 t4 t5 t13 t14 t15 h c df | _ => none) := by
  intro lin b nt hk
  rw [kl_49000] at hk
  cases hk
  refine ⟨kc_49000, fun o rd vs h c df q e => ?_⟩
  dsimp only at e
  split at e
  · exact (f49_L49000_eq o rd _ _ _ _ _ _ _ h c df).trans e
  · cases e
theorem ck_49 : CodeOK K f49_f.nt f49_f.code := (And.intro trivial (And.intro trivial (And.intro trivial (And.intro (And.intro trivial (And.intro rfl kl_49000)) (And.intro trivial trivial)))))
theorem fe_49 : FE (H := H) P bk K 49 (fun o vs h c => match vs with | [t0] => f49_S o t0 h c | _ => none) := by
  refine ⟨f49_f, bk_49, rfl, ck_49, fun o vs h c r e => ?_⟩
  dsimp only at e
  split at e
  · exact ⟨rfl, (f49_S_eq o _ h c).trans e⟩
  · cases e
theorem kc_50000 : CodeOK K 30 f50_c50000 := (And.intro (And.intro trivial (And.intro trivial trivial)) (And.intro (And.intro (And.intro trivial (And.intro (And.intro trivial trivial) trivial)) trivial) trivial))
theorem le_50000 : LE (H := H) P K 50000 (fun o rd vs h c df => match vs with | [t1, t2, t3, t4] => f50_L50000 o rd t1 t2 t3 t4 h c df | _ => none) := by
  intro lin b nt hk
  rw [kl_50000] at hk
  cases hk
  refine ⟨kc_50000, fun o rd vs h c df q e => ?_⟩
  dsimp only at e
  split at e
  · exact (f50_L50000_eq o rd _ _ _ _ h c df).trans e
  · cases e
theorem ck_50 : CodeOK K f50_f.nt f50_f.code := (And.intro trivial (And.intro trivial (And.intro (And.intro trivial (And.intro rfl kl_50000)) (And.intro trivial trivial))))
theorem fe_50 : FE (H := H) P bk K 50 (fun o vs h c => match vs with | [t0] => f50_S o t0 h c | _ => none) := by
  refine ⟨f50_f, bk_50, rfl, ck_50, fun o vs h c r e => ?_⟩
  dsimp only at e
  split at e
  · exact ⟨rfl, (f50_S_eq o _ h c).trans e⟩
  · cases e
theorem ka_57000 : CodeOK K 71 f57_a57000 := (And.intro trivial trivial)
theorem kc_57000 : CodeOK K 71 f57_c57000 := (And.intro (And.intro trivial (And.intro trivial trivial)) (And.intro (And.intro trivial (And.intro (And.intro trivial trivial) trivial)) (And.intro trivial (And.intro (And.intro trivial trivial) trivial))))
theorem re_57000 : RE (H := H) P K 71 [13, 14] (fun o l vs h c => match vs with | [t13, t14, t1, t2, t3] => f57_R57000 o l t13 t14 t1 t2 t3 h c | _ => none) := by
  intro lin a b hk
  rw [kr_57000] at hk
  cases hk
  refine ⟨ka_57000, kc_57000, fun o l vs h c r e => ?_⟩
  dsimp only at e
  split at e
  · exact (f57_R57000_eq o l _ _ _ _ _ h c).trans e
  · cases e
theorem ck_57 : CodeOK K f57_f.nt f57_f.code := (And.intro trivial (And.intro (And.intro trivial (And.intro (And.intro trivial trivial) trivial)) (And.intro trivial (And.intro (And.intro trivial (And.intro rfl kr_57000)) (And.intro trivial trivial)))))
theorem fe_57 : FE (H := H) P bk K 57 (fun o vs h c => match vs with | [t0] => f57_S o t0 h c | _ => none) := by
  refine ⟨f57_f, bk_57, rfl, ck_57, fun o vs h c r e => ?_⟩
  dsimp only at e
  split at e
  · exact ⟨rfl, (f57_S_eq o _ h c).trans e⟩
  · cases e
theorem kc_58000 : CodeOK K 85 f58_c58000 := (And.intro trivial (And.intro (And.intro trivial trivial) (And.intro (And.intro trivial trivial) trivial)))
theorem le_58000 : LE (H := H) P K 58000 (fun o rd vs h c df => match vs with | [t1, t4, t17, t18] => f58_L58000 o rd t1 t4 t17 t18 h c df | _ => none) := by
  intro lin b nt hk
  rw [kl_58000] at hk
  cases hk
  refine ⟨kc_58000, fun o rd vs h c df q e => ?_⟩
  dsimp only at e
  split at e
  · exact (f58_L58000_eq o rd _ _ _ _ h c df).trans e
  · cases e
theorem kc_58003 : CodeOK K 85 f58_c58003 := (And.intro trivial (And.intro (And.intro trivial trivial) (And.intro (And.intro trivial (And.intro trivial (And.intro (And.intro trivial trivial) trivial))) trivial)))
theorem le_58003 : LE (H := H) P K 58003 (fun o rd vs h c df => match vs with | [t1, t4, t6, t8, t9, t26, t27, t54, t55] => f58_L58003 o rd t1 t4 t6 t8 t9 t26 t27 t54 t55 h c df | _ => none) := by
  intro lin b nt hk
  rw [kl_58003] at hk
  cases hk
  refine ⟨kc_58003, fun o rd vs h c df q e => ?_⟩
  dsimp only at e
  split at e
  · exact (f58_L58003_eq o rd _ _ _ _ _ _ _ _ _ h c df).trans e
  · cases e
theorem kc_58002 : CodeOK K 85 f58_c58002 := (And.intro (And.intro trivial (And.intro trivial trivial)) (And.intro (And.intro trivial (And.intro rfl kl_58003)) trivial))
theorem le_58002 : LE (H := H) P K 58002 (fun o rd vs h c df => match vs with | [t1, t4, t6, t8, t9, t26, t27] => f58_L58002 o rd t1 t4 t6 t8 t9 t26 t27 h c df | _ => none) := by
  intro lin b nt hk
  rw [kl_58002] at hk
  cases hk
  refine ⟨kc_58002, fun o rd vs h c df q e => ?_⟩
  dsimp only at e
  split at e
  · exact (f58_L58002_eq o rd _ _ _ _ _ _ _ h c df).trans e
  · cases e
theorem kc_58001 : CodeOK K 85 f58_c58001 := (And.intro trivial (And.intro (And.intro trivial trivial) (And.intro (And.intro trivial (And.intro (And.intro trivial (And.intro trivial trivial)) (And.intro trivial (And.intro trivial (And.intro (And.intro trivial (And.intro rfl kl_58002)) trivial))))) trivial)))
theorem le_58001 : LE (H := H) P K 58001 (fun o rd vs h c df => match vs with | [t1, t4, t6, t26, t27] => f58_L58001 o rd t1 t4 t6 t26 t27 h c df | _ => none) := by
  intro lin b nt hk
  rw [kl_58001] at hk
  cases hk
  refine ⟨kc_58001, fun o rd vs h c df q e => ?_⟩
  dsimp only at e
  split at e
  · exact (f58_L58001_eq o rd _ _ _ _ _ h c df).trans e
  · cases e
theorem ck_58 : CodeOK K f58_f.nt f58_f.code := (And.intro trivial (And.intro trivial (And.intro (And.intro trivial (And.intro rfl kl_58000)) (And.intro trivial (And.intro (And.intro trivial (And.intro rfl kl_58001)) (And.intro trivial trivial))))))
theorem fe_58 : FE (H := H) P bk K 58 (fun o vs h c => match vs with | [t0] => f58_S o t0 h c | _ => none) := by
  refine ⟨f58_f, bk_58, rfl, ck_58, fun o vs h c r e => ?_⟩
  dsimp only at e
  split at e
  · exact ⟨rfl, (f58_S_eq o _ h c).trans e⟩
  · cases e
theorem kc_59000 : CodeOK K 27 f59_c59000 := (And.intro trivial (And.intro (And.intro trivial trivial) (And.intro (And.intro trivial (And.intro trivial (And.intro trivial (And.intro trivial trivial)))) trivial)))
theorem le_59000 : LE (H := H) P K 59000 (fun o rd vs h c df => match vs with | [t0, t4] => f59_L59000 o rd t0 t4 h c df | _ => none) := by
  intro lin b nt hk
  rw [kl_59000] at hk
  cases hk
  refine ⟨kc_59000, fun o rd vs h c df q e => ?_⟩
  dsimp only at e
  split at e
  · exact (f59_L59000_eq o rd _ _ h c df).trans e
  · cases e
theorem ck_59 : CodeOK K f59_f.nt f59_f.code := (And.intro trivial (And.intro rfl kl_59000))
theorem fe_59 : FE (H := H) P bk K 59 (fun o vs h c => match vs with | [t0] => f59_S o t0 h c | _ => none) := by
  refine ⟨f59_f, bk_59, rfl, ck_59, fun o vs h c r e => ?_⟩
  dsimp only at e
  split at e
  · exact ⟨rfl, (f59_S_eq o _ h c).trans e⟩
  · cases e
theorem kc_60000 : CodeOK K 23 f60_c60000 := (And.intro trivial (And.intro (And.intro trivial trivial) (And.intro (And.intro trivial (And.intro (And.intro trivial (And.intro (And.intro trivial trivial) trivial)) trivial)) trivial)))
theorem le_60000 : LE (H := H) P K 60000 (fun o rd vs h c df => match vs with | [t2, t3, t6, t7] => f60_L60000 o rd t2 t3 t6 t7 h c df | _ => none) := by
  intro lin b nt hk
  rw [kl_60000] at hk
  cases hk
  refine ⟨kc_60000, fun o rd vs h c df q e => ?_⟩
  dsimp only at e
  split at e
  · exact (f60_L60000_eq o rd _ _ _ _ h c df).trans e
  · cases e
theorem ck_60 : CodeOK K f60_f.nt f60_f.code := (And.intro trivial (And.intro trivial (And.intro (And.intro trivial (And.intro rfl kl_60000)) (And.intro trivial trivial))))
theorem fe_60 : FE (H := H) P bk K 60 (fun o vs h c => match vs with | [t0] => f60_S o t0 h c | _ => none) := by
  refine ⟨f60_f, bk_60, rfl, ck_60, fun o vs h c r e => ?_⟩
  dsimp only at e
  split at e
  · exact ⟨rfl, (f60_S_eq o _ h c).trans e⟩
  · cases e
theorem ck_61 : CodeOK K f61_f.nt f61_f.code := (And.intro trivial (And.intro (And.intro trivial (And.intro (And.intro trivial trivial) trivial)) (And.intro trivial trivial)))
theorem fe_61 : FE (H := H) P bk K 61 (fun o vs h c => match vs with | [t0, t1] => f61_S o t0 t1 h c | _ => none) := by
  refine ⟨f61_f, bk_61, rfl, ck_61, fun o vs h c r e => ?_⟩
  dsimp only at e
  split at e
  · exact ⟨rfl, (f61_S_eq o _ _ h c).trans e⟩
  · cases e
theorem ck_62 : CodeOK K f62_f.nt f62_f.code := (And.intro trivial (And.intro (And.intro trivial (And.intro (And.intro trivial trivial) trivial)) (And.intro trivial trivial)))
theorem fe_62 : FE (H := H) P bk K 62 (fun o vs h c => match vs with | [t0] => f62_S o t0 h c | _ => none) := by
  refine ⟨f62_f, bk_62, rfl, ck_62, fun o vs h c r e => ?_⟩
  dsimp only at e
  split at e
  · exact ⟨rfl, (f62_S_eq o _ h c).trans e⟩
  · cases e
theorem ck_63 : CodeOK K f63_f.nt f63_f.code := (And.intro trivial (And.intro trivial trivial))
theorem fe_63 : FE (H := H) P bk K 63 (fun o vs h c => match vs with | [t0, t1] => f63_S o t0 t1 h c | _ => none) := by
  refine ⟨f63_f, bk_63, rfl, ck_63, fun o vs h c r e => ?_⟩
  dsimp only at e
  split at e
  · exact ⟨rfl, (f63_S_eq o _ _ h c).trans e⟩
  · cases e
theorem ck_64 : CodeOK K f64_f.nt f64_f.code := (And.intro trivial (And.intro trivial trivial))
theorem fe_64 : FE (H := H) P bk K 64 (fun o vs h c => match vs with | [t0] => f64_S o t0 h c | _ => none) := by
  refine ⟨f64_f, bk_64, rfl, ck_64, fun o vs h c r e => ?_⟩
  dsimp only at e
  split at e
  · exact ⟨rfl, (f64_S_eq o _ h c).trans e⟩
  · cases e
theorem ck_65 : CodeOK K f65_f.nt f65_f.code := (And.intro trivial (And.intro trivial trivial))
theorem fe_65 : FE (H := H) P bk K 65 (fun o vs h c => match vs with | [t0, t1] => f65_S o t0 t1 h c | _ => none) := by
  refine ⟨f65_f, bk_65, rfl, ck_65, fun o vs h c r e => ?_⟩
  dsimp only at e
  split at e
  · exact ⟨rfl, (f65_S_eq o _ _ h c).trans e⟩
  · cases e
theorem kc_66000 : CodeOK K 16 f66_c66000 := (And.intro trivial (And.intro (And.intro trivial trivial) (And.intro (And.intro trivial trivial) trivial)))
theorem le_66000 : LE (H := H) P K 66000 (fun o rd vs h c df => match vs with | [t2, t3, t6, t7] => f66_L66000 o rd t2 t3 t6 t7 h c df | _ => none) := by
  intro lin b nt hk
  rw [kl_66000] at hk
  cases hk
  refine ⟨kc_66000, fun o rd vs h c df q e => ?_⟩
  dsimp only at e
  split at e
  · exact (f66_L66000_eq o rd _ _ _ _ h c df).trans e
  · cases e
theorem ck_66 : CodeOK K f66_f.nt f66_f.code := (And.intro trivial (And.intro trivial (And.intro (And.intro trivial (And.intro rfl kl_66000)) (And.intro trivial trivial))))
theorem fe_66 : FE (H := H) P bk K 66 (fun o vs h c => match vs with | [t0] => f66_S o t0 h c | _ => none) := by
  refine ⟨f66_f, bk_66, rfl, ck_66, fun o vs h c r e => ?_⟩
  dsimp only at e
  split at e
  · exact ⟨rfl, (f66_S_eq o _ h c).trans e⟩
  · cases e
theorem kc_67000 : CodeOK K 26 f67_c67000 := (And.intro trivial (And.intro (And.intro trivial trivial) (And.intro (And.intro trivial (And.intro trivial (And.intro (And.intro trivial trivial) trivial))) trivial)))
theorem le_67000 : LE (H := H) P K 67000 (fun o rd vs h c df => match vs with | [t0, t1, t4, t12, t13] => f67_L67000 o rd t0 t1 t4 t12 t13 h c df | _ => none) := by
  intro lin b nt hk
  rw [kl_67000] at hk
  cases hk
  refine ⟨kc_67000, fun o rd vs h c df q e => ?_⟩
  dsimp only at e
  split at e
  · exact (f67_L67000_eq o rd _ _ _ _ _ h c df).trans e
  · cases e
theorem ck_67 : CodeOK K f67_f.nt f67_f.code := (And.intro trivial (And.intro (And.intro trivial (And.intro (And.intro trivial trivial) trivial)) (And.intro (And.intro trivial (And.intro rfl kl_67000)) (And.intro trivial trivial))))
theorem fe_67 : FE (H := H) P bk K 67 (fun o vs h c => match vs with | [t0, t1] => f67_S o t0 t1 h c | _ => none) := by
  refine ⟨f67_f, bk_67, rfl, ck_67, fun o vs h c r e => ?_⟩
  dsimp only at e
  split at e
  · exact ⟨rfl, (f67_S_eq o _ _ h c).trans e⟩
  · cases e
theorem kc_68000 : CodeOK K 49 f68_c68000 := (And.intro trivial (And.intro (And.intro trivial trivial) (And.intro (And.intro trivial (And.intro (And.intro trivial (And.intro trivial trivial)) (And.intro trivial (And.intro rfl kr_68001)))) trivial)))
theorem le_68000 : LE (H := H) P K 68000 (fun o rd vs h c df => match vs with | [t1, t5, t15, t16, t17] => f68_L68000 o rd t1 t5 t15 t16 t17 h c df | _ => none) := by
  intro lin b nt hk
  rw [kl_68000] at hk
  cases hk
  refine ⟨kc_68000, fun o rd vs h c df q e => ?_⟩
  dsimp only at e
  split at e
  · exact (f68_L68000_eq o rd _ _ _ _ _ h c df).trans e
  · cases e
theorem ka_68001 : CodeOK K 49 f68_a68001 := trivial
theorem kc_68001 : CodeOK K 49 f68_c68001 := (And.intro trivial (And.intro trivial (And.intro trivial trivial)))
theorem re_68001 : RE (H := H) P K 49 [30] (fun o l vs h c => match vs with | [t30, t1, t5, t6, t7] => f68_R68001 o l t30 t1 t5 t6 t7 h c | _ => none) := by
  intro lin a b hk
  rw [kr_68001] at hk
  cases hk
  refine ⟨ka_68001, kc_68001, fun o l vs h c r e => ?_⟩
  dsimp only at e
  split at e
  · exact (f68_R68001_eq o l _ _ _ _ _ h c).trans e
  · cases e
theorem ck_68 : CodeOK K f68_f.nt f68_f.code := (And.intro trivial (And.intro trivial (And.intro trivial (And.intro (And.intro trivial (And.intro rfl kl_68000)) (And.intro trivial (And.intro trivial trivial))))))
theorem fe_68 : FE (H := H) P bk K 68 (fun o vs h c => match vs with | [t0] => f68_S o t0 h c | _ => none) := by
  refine ⟨f68_f, bk_68, rfl, ck_68, fun o vs h c r e => ?_⟩
  dsimp only at e
  split at e
  · exact ⟨rfl, (f68_S_eq o _ h c).trans e⟩
  · cases e
theorem ck_71 : CodeOK K f71_f.nt f71_f.code := (And.intro trivial (And.intro trivial trivial))
theorem fe_71 : FE (H := H) P bk K 71 (fun o vs h c => match vs with | [t0] => f71_S o t0 h c | _ => none) := by
  refine ⟨f71_f, bk_71, rfl, ck_71, fun o vs h c r e => ?_⟩
  dsimp only at e
  split at e
  · exact ⟨rfl, (f71_S_eq o _ h c).trans e⟩
  · cases e
theorem kc_72000 : CodeOK K 19 f72_c72000 := (And.intro trivial (And.intro (And.intro trivial trivial) (And.intro (And.intro trivial (And.intro trivial (And.intro (And.intro trivial trivial) trivial))) trivial)))
theorem le_72000 : LE (H := H) P K 72000 (fun o rd vs h c df => match vs with | [t0, t1, t4, t7, t8] => f72_L72000 o rd t0 t1 t4 t7 t8 h c df | _ => none) := by
  intro lin b nt hk
  rw [kl_72000] at hk
  cases hk
  refine ⟨kc_72000, fun o rd vs h c df q e => ?_⟩
  dsimp only at e
  split at e
  · exact (f72_L72000_eq o rd _ _ _ _ _ h c df).trans e
  · cases e
theorem ck_72 : CodeOK K f72_f.nt f72_f.code := (And.intro trivial (And.intro (And.intro trivial (And.intro rfl kl_72000)) (And.intro trivial trivial)))
theorem fe_72 : FE (H := H) P bk K 72 (fun o vs h c => match vs with | [t0, t1] => f72_S o t0 t1 h c | _ => none) := by
  refine ⟨f72_f, bk_72, rfl, ck_72, fun o vs h c r e => ?_⟩
  dsimp only at e
  split at e
  · exact ⟨rfl, (f72_S_eq o _ _ h c).trans e⟩
  · cases e
theorem kc_73000 : CodeOK K 67 f73_c73000 := (And.intro (And.intro trivial (And.intro trivial trivial)) (And.intro (And.intro trivial (And.intro (And.intro trivial (And.intro (And.intro trivial (And.intro trivial (And.intro (And.intro trivial trivial) (And.intro trivial (And.intro trivial trivial))))) trivial)) trivial)) trivial))
theorem le_73000 : LE (H := H) P K 73000 (fun o rd vs h c df => match vs with | [t3, t8, t9, t10, t11] => f73_L73000 o rd t3 t8 t9 t10 t11 h c df | _ => none) := by
  intro lin b nt hk
  rw [kl_73000] at hk
  cases hk
  refine ⟨kc_73000, fun o rd vs h c df q e => ?_⟩
  dsimp only at e
  split at e
  · exact (f73_L73000_eq o rd _ _ _ _ _ h c df).trans e
  · cases e
theorem ck_73 : CodeOK K f73_f.nt f73_f.code := (And.intro trivial (And.intro trivial (And.intro trivial (And.intro trivial (And.intro (And.intro trivial (And.intro rfl kl_73000)) (And.intro (And.intro trivial (And.intro (And.intro trivial trivial) trivial)) (And.intro trivial trivial)))))))
theorem fe_73 : FE (H := H) P bk K 73 (fun o vs h c => match vs with | [t0, t1, t2, t3] => f73_S o t0 t1 t2 t3 h c | _ => none) := by
  refine ⟨f73_f, bk_73, rfl, ck_73, fun o vs h c r e => ?_⟩
  dsimp only at e
  split at e
  · exact ⟨rfl, (f73_S_eq o _ _ _ _ h c).trans e⟩
  · cases e
theorem ck_74 : CodeOK K f74_f.nt f74_f.code := trivial
theorem fe_74 : FE (H := H) P bk K 74 (fun o vs h c => match vs with | [t0, t1] => f74_S o t0 t1 h c | _ => none) := by
  refine ⟨f74_f, bk_74, rfl, ck_74, fun o vs h c r e => ?_⟩
  dsimp only at e
  split at e
  · exact ⟨rfl, (f74_S_eq o _ _ h c).trans e⟩
  · cases e
theorem ck_75 : CodeOK K f75_f.nt f75_f.code := (And.intro trivial (And.intro (And.intro trivial (And.intro (And.intro trivial trivial) trivial)) (And.intro trivial trivial)))
theorem fe_75 : FE (H := H) P bk K 75 (fun o vs h c => match vs with | [t0, t1] => f75_S o t0 t1 h c | _ => none) := by
  refine ⟨f75_f, bk_75, rfl, ck_75, fun o vs h c r e => ?_⟩
  dsimp only at e
  split at e
  · exact ⟨rfl, (f75_S_eq o _ _ h c).trans e⟩
  · cases e
theorem kc_76000 : CodeOK K 39 f76_c76000 := (And.intro trivial (And.intro (And.intro trivial trivial) (And.intro (And.intro trivial (And.intro (And.intro trivial (And.intro (And.intro trivial trivial) trivial)) (And.intro trivial (And.intro trivial (And.intro trivial (And.intro (And.intro trivial trivial) trivial)))))) trivial)))
theorem le_76000 : LE (H := H) P K 76000 (fun o rd vs h c df => match vs with | [t0, t1, t2, t6, t11, t12, t13] => f76_L76000 o rd t0 t1 t2 t6 t11 t12 t13 h c df | _ => none) := by
  intro lin b nt hk
  rw [kl_76000] at hk
  cases hk
  refine ⟨kc_76000, fun o rd vs h c df q e => ?_⟩
  dsimp only at e
  split at e
  · exact (f76_L76000_eq o rd _ _ _ _ _ _ _ h c df).trans e
  · cases e
theorem ck_76 : CodeOK K f76_f.nt f76_f.code := (And.intro trivial (And.intro (And.intro trivial (And.intro rfl kl_76000)) (And.intro (And.intro trivial (And.intro (And.intro trivial trivial) trivial)) (And.intro trivial trivial))))
theorem fe_76 : FE (H := H) P bk K 76 (fun o vs h c => match vs with | [t0, t1, t2] => f76_S o t0 t1 t2 h c | _ => none) := by
  refine ⟨f76_f, bk_76, rfl, ck_76, fun o vs h c r e => ?_⟩
  dsimp only at e
  split at e
  · exact ⟨rfl, (f76_S_eq o _ _ _ h c).trans e⟩
  · cases e
theorem kc_77001 : CodeOK K 62 f77_c77001 := (And.intro trivial (And.intro (And.intro trivial trivial) (And.intro (And.intro trivial (And.intro trivial (And.intro (And.intro trivial trivial) trivial))) trivial)))
theorem le_77001 : LE (H := H) P K 77001 (fun o rd vs h c df => match vs with | [t2, t3, t4, t5, t10, t31] => f77_L77001 o rd t2 t3 t4 t5 t10 t31 h c df | _ => none) := by
  intro lin b nt hk
  rw [kl_77001] at hk
  cases hk
  refine ⟨kc_77001, fun o rd vs h c df q e => ?_⟩
  dsimp only at e
  split at e
  · exact (f77_L77001_eq o rd _ _ _ _ _ _ h c df).trans e
  · cases e
theorem kc_77000 : CodeOK K 62 f77_c77000 := (And.intro trivial (And.intro (And.intro trivial trivial) (And.intro (And.intro trivial (And.intro (And.intro trivial (And.intro (And.intro trivial trivial) trivial)) (And.intro trivial (And.intro rfl kl_77001)))) trivial)))
theorem le_77000 : LE (H := H) P K 77000 (fun o rd vs h c df => match vs with | [t2, t3, t4, t10] => f77_L77000 o rd t2 t3 t4 t10 h c df | _ => none) := by
  intro lin b nt hk
  rw [kl_77000] at hk
  cases hk
  refine ⟨kc_77000, fun o rd vs h c df q e => ?_⟩
  dsimp only at e
  split at e
  · exact (f77_L77000_eq o rd _ _ _ _ h c df).trans e
  · cases e
theorem ck_77 : CodeOK K f77_f.nt f77_f.code := (And.intro trivial (And.intro (And.intro trivial (And.intro (And.intro trivial trivial) trivial)) (And.intro (And.intro trivial (And.intro rfl kl_77000)) (And.intro trivial trivial))))
theorem fe_77 : FE (H := H) P bk K 77 (fun o vs h c => match vs with | [t0, t1] => f77_S o t0 t1 h c | _ => none) := by
  refine ⟨f77_f, bk_77, rfl, ck_77, fun o vs h c r e => ?_⟩
  dsimp only at e
  split at e
  · exact ⟨rfl, (f77_S_eq o _ _ h c).trans e⟩
  · cases e
theorem kc_78001 : CodeOK K 30 f78_c78001 := (And.intro trivial (And.intro (And.intro trivial trivial) (And.intro (And.intro trivial (And.intro trivial (And.intro trivial trivial))) trivial)))
theorem le_78001 : LE (H := H) P K 78001 (fun o rd vs h c df => match vs with | [t0, t1, t3, t8, t9, t16, t17] => f78_L78001 o rd t0 t1 t3 t8 t9 t16 t17 h c df | _ => none) := by
  intro lin b nt hk
  rw [kl_78001] at hk
  cases hk
  refine ⟨kc_78001, fun o rd vs h c df q e => ?_⟩
  dsimp only at e
  split at e
  · exact (f78_L78001_eq o rd _ _ _ _ _ _ _ h c df).trans e
  · cases e
theorem kc_78000 : CodeOK K 30 f78_c78000 := (And.intro trivial (And.intro (And.intro trivial trivial) (And.intro (And.intro trivial (And.intro trivial (And.intro rfl kl_78001))) trivial)))
theorem le_78000 : LE (H := H) P K 78000 (fun o rd vs h c df => match vs with | [t0, t1, t8, t9] => f78_L78000 o rd t0 t1 t8 t9 h c df | _ => none) := by
  intro lin b nt hk
  rw [kl_78000] at hk
  cases hk
  refine ⟨kc_78000, fun o rd vs h c df q e => ?_⟩
  dsimp only at e
  split at e
  · exact (f78_L78000_eq o rd _ _ _ _ h c df).trans e
  · cases e
theorem ck_78 : CodeOK K f78_f.nt f78_f.code := (And.intro trivial (And.intro rfl kl_78000))
theorem fe_78 : FE (H := H) P bk K 78 (fun o vs h c => match vs with | [t0, t1] => f78_S o t0 t1 h c | _ => none) := by
  refine ⟨f78_f, bk_78, rfl, ck_78, fun o vs h c r e => ?_⟩
  dsimp only at e
  split at e
  · exact ⟨rfl, (f78_S_eq o _ _ h c).trans e⟩
  · cases e
theorem ck_79 : CodeOK K f79_f.nt f79_f.code := (And.intro trivial (And.intro trivial (And.intro trivial trivial)))
theorem fe_79 : FE (H := H) P bk K 79 (fun o vs h c => match vs with | [t0, t1, t2] => f79_S o t0 t1 t2 h c | _ => none) := by
  refine ⟨f79_f, bk_79, rfl, ck_79, fun o vs h c r e => ?_⟩
  dsimp only at e
  split at e
  · exact ⟨rfl, (f79_S_eq o _ _ _ h c).trans e⟩
  · cases e
theorem kc_80000 : CodeOK K 99 f80_c80000 := (And.intro trivial (And.intro (And.intro trivial trivial) (And.intro (And.intro trivial (And.intro trivial (And.intro (And.intro trivial (And.intro (And.intro trivial trivial) trivial)) (And.intro trivial (And.intro (And.intro trivial (And.intro trivial (And.intro trivial trivial))) (And.intro trivial trivial)))))) trivial)))
theorem le_80000 : LE (H := H) P K 80000 (fun o rd vs h c df => match vs with | [t0, t1, t4, t5, t12] => f80_L80000 o rd t0 t1 t4 t5 t12 h c df | _ => none) := by
  intro lin b nt hk
  rw [kl_80000] at hk
  cases hk
  refine ⟨kc_80000, fun o rd vs h c df q e => ?_⟩
  dsimp only at e
  split at e
  · exact (f80_L80000_eq o rd _ _ _ _ _ h c df).trans e
  · cases e
theorem ck_80 : CodeOK K f80_f.nt f80_f.code := (And.intro trivial (And.intro trivial (And.intro (And.intro trivial (And.intro rfl kl_80000)) (And.intro trivial trivial))))
theorem fe_80 : FE (H := H) P bk K 80 (fun o vs h c => match vs with | [t0, t1] => f80_S o t0 t1 h c | _ => none) := by
  refine ⟨f80_f, bk_80, rfl, ck_80, fun o vs h c r e => ?_⟩
  dsimp only at e
  split at e
  · exact ⟨rfl, (f80_S_eq o _ _ h c).trans e⟩
  · cases e
theorem kc_81000 : CodeOK K 63 f81_c81000 := (And.intro (And.intro trivial (And.intro trivial trivial)) (And.intro trivial (And.intro trivial trivial)))
theorem le_81000 : LE (H := H) P K 81000 (fun o rd vs h c df => match vs with | [t0, t1, t2, t6, t7, t8] => f81_L81000 o rd t0 t1 t2 t6 t7 t8 h c df | _ => none) := by
  intro lin b nt hk
  rw [kl_81000] at hk
  cases hk
  refine ⟨kc_81000, fun o rd vs h c df q e => ?_⟩
  dsimp only at e
  split at e
  · exact (f81_L81000_eq o rd _ _ _ _ _ _ h c df).trans e
  · cases e
theorem kc_81002 : CodeOK K 63 f81_c81002 := (And.intro (And.intro trivial (And.intro trivial trivial)) (And.intro trivial (And.intro trivial trivial)))
theorem le_81002 : LE (H := H) P K 81002 (fun o rd vs h c df => match vs with | [t0, t1, t2, t6, t7, t8] => f81_L81002 o rd t0 t1 t2 t6 t7 t8 h c df | _ => none) := by
  intro lin b nt hk
  rw [kl_81002] at hk
  cases hk
  refine ⟨kc_81002, fun o rd vs h c df q e => ?_⟩
  dsimp only at e
  split at e
  · exact (f81_L81002_eq o rd _ _ _ _ _ _ h c df).trans e
  · cases e
theorem kc_81001 : CodeOK K 63 f81_c81001 := (And.intro (And.intro trivial (And.intro trivial trivial)) (And.intro trivial (And.intro (And.intro rfl kl_81002) (And.intro (And.intro trivial (And.intro trivial (And.intro trivial trivial))) trivial))))
theorem le_81001 : LE (H := H) P K 81001 (fun o rd vs h c df => match vs with | [t0, t1, t2, t6] => f81_L81001 o rd t0 t1 t2 t6 h c df | _ => none) := by
  intro lin b nt hk
  rw [kl_81001] at hk
  cases hk
  refine ⟨kc_81001, fun o rd vs h c df q e => ?_⟩
  dsimp only at e
  split at e
  · exact (f81_L81001_eq o rd _ _ _ _ h c df).trans e
  · cases e
theorem ck_81 : CodeOK K f81_f.nt f81_f.code := (And.intro trivial (And.intro trivial (And.intro (And.intro rfl kl_81000) (And.intro trivial (And.intro rfl kl_81001)))))
theorem fe_81 : FE (H := H) P bk K 81 (fun o vs h c => match vs with | [t0, t1, t2] => f81_S o t0 t1 t2 h c | _ => none) := by
  refine ⟨f81_f, bk_81, rfl, ck_81, fun o vs h c r e => ?_⟩
  dsimp only at e
  split at e
  · exact ⟨rfl, (f81_S_eq o _ _ _ h c).trans e⟩
  · cases e
theorem kc_82001 : CodeOK K 53 f82_c82001 := (And.intro (And.intro trivial (And.intro trivial trivial)) (And.intro trivial trivial))
theorem le_82001 : LE (H := H) P K 82001 (fun o rd vs h c df => match vs with | [t0, t1, t2, t3, t8, t9] => f82_L82001 o rd t0 t1 t2 t3 t8 t9 h c df | _ => none) := by
  intro lin b nt hk
  rw [kl_82001] at hk
  cases hk
  refine ⟨kc_82001, fun o rd vs h c df q e => ?_⟩
  dsimp only at e
  split at e
  · exact (f82_L82001_eq o rd _ _ _ _ _ _ h c df).trans e
  · cases e
theorem kc_82000 : CodeOK K 53 f82_c82000 := (And.intro (And.intro trivial (And.intro trivial trivial)) (And.intro (And.intro trivial (And.intro rfl kl_82001)) trivial))
theorem le_82000 : LE (H := H) P K 82000 (fun o rd vs h c df => match vs with | [t0, t1, t2, t3, t8] => f82_L82000 o rd t0 t1 t2 t3 t8 h c df | _ => none) := by
  intro lin b nt hk
  rw [kl_82000] at hk
  cases hk
  refine ⟨kc_82000, fun o rd vs h c df q e => ?_⟩
  dsimp only at e
  split at e
  · exact (f82_L82000_eq o rd _ _ _ _ _ h c df).trans e
  · cases e
theorem ck_82 : CodeOK K f82_f.nt f82_f.code := (And.intro trivial (And.intro rfl kl_82000))
theorem fe_82 : FE (H := H) P bk K 82 (fun o vs h c => match vs with | [t0, t1, t2, t3] => f82_S o t0 t1 t2 t3 h c | _ => none) := by
  refine ⟨f82_f, bk_82, rfl, ck_82, fun o vs h c r e => ?_⟩
  dsimp only at e
  split at e
  · exact ⟨rfl, (f82_S_eq o _ _ _ _ h c).trans e⟩
  · cases e
theorem kc_83000 : CodeOK K 220 f83_c83000 := (And.intro (And.intro trivial (And.intro trivial trivial)) (And.intro trivial (And.intro trivial (And.intro trivial trivial))))
theorem le_83000 : LE (H := H) P K 83000 (fun o rd vs h c df => match vs with | [t0, t1, t4, t10, t11] => f83_L83000 o rd t0 t1 t4 t10 t11 h c df | _ => none) := by
  intro lin b nt hk
  rw [kl_83000] at hk
  cases hk
  refine ⟨kc_83000, fun o rd vs h c df q e => ?_⟩
  dsimp only at e
  split at e
  · exact (f83_L83000_eq o rd _ _ _ _ _ h c df).trans e
  · cases e
theorem kc_83001 : CodeOK K 220 f83_c83001 := (And.intro (And.intro trivial (And.intro trivial trivial)) (And.intro trivial trivial))
theorem le_83001 : LE (H := H) P K 83001 (fun o rd vs h c df => match vs with | [t0, t10, t13] => f83_L83001 o rd t0 t10 t13 h c df | _ => none) := by
  intro lin b nt hk
  rw [kl_83001] at hk
  cases hk
  refine ⟨kc_83001, fun o rd vs h c df q e => ?_⟩
  dsimp only at e
  split at e
  · exact (f83_L83001_eq o rd _ _ _ h c df).trans e
  · cases e
theorem kc_83002 : CodeOK K 220 f83_c83002 := (And.intro (And.intro trivial (And.intro trivial trivial)) (And.intro trivial (And.intro trivial (And.intro trivial trivial))))
theorem le_83002 : LE (H := H) P K 83002 (fun o rd vs h c df => match vs with | [t0, t2, t4, t14, t15] => f83_L83002 o rd t0 t2 t4 t14 t15 h c df | _ => none) := by
  intro lin b nt hk
  rw [kl_83002] at hk
  cases hk
  refine ⟨kc_83002, fun o rd vs h c df q e => ?_⟩
  dsimp only at e
  split at e
  · exact (f83_L83002_eq o rd _ _ _ _ _ h c df).trans e
  · cases e
theorem kc_83003 : CodeOK K 220 f83_c83003 := (And.intro (And.intro trivial (And.intro trivial trivial)) (And.intro trivial trivial))
theorem le_83003 : LE (H := H) P K 83003 (fun o rd vs h c df => match vs with | [t0, t14, t17] => f83_L83003 o rd t0 t14 t17 h c df | _ => none) := by
  intro lin b nt hk
  rw [kl_83003] at hk
  cases hk
  refine ⟨kc_83003, fun o rd vs h c df q e => ?_⟩
  dsimp only at e
  split at e
  · exact (f83_L83003_eq o rd _ _ _ h c df).trans e
  · cases e
theorem kc_83004 : CodeOK K 220 f83_c83004 := (And.intro (And.intro trivial (And.intro trivial trivial)) (And.intro trivial (And.intro trivial (And.intro trivial trivial))))
theorem le_83004 : LE (H := H) P K 83004 (fun o rd vs h c df => match vs with | [t0, t1, t2, t3, t4, t18, t19, t20, t21, t22] => f83_L83004 o rd t0 t1 t2 t3 t4 t18 t19 t20 t21 t22 h c df | _ => none) := by
  intro lin b nt hk
  rw [kl_83004] at hk
  cases hk
  refine ⟨kc_83004, fun o rd vs h c df q e => ?_⟩
  dsimp only at e
  split at e
  · exact (f83_L83004_eq o rd _ _ _ _ _ _ _ _ _ _ h c df).trans e
  · cases e
theorem ck_83 : CodeOK K f83_f.nt f83_f.code := (And.intro (And.intro trivial (And.intro (And.intro trivial (And.intro trivial (And.intro (And.intro rfl kl_83000) (And.intro (And.intro trivial (And.intro rfl kl_83001)) trivial)))) trivial)) (And.intro (And.intro trivial (And.intro (And.intro trivial (And.intro trivial (And.intro (And.intro rfl kl_83002) (And.intro (And.intro trivial (And.intro rfl kl_83003)) trivial)))) trivial)) (And.intro trivial (And.intro trivial (And.intro trivial (And.intro (And.intro trivial (And.intro (And.intro trivial trivial) (And.intro trivial trivial))) (And.intro trivial (And.intro (And.intro rfl kl_83004) (And.intro trivial (And.intro (And.intro trivial (And.intro trivial trivial)) (And.intro (And.intro trivial (And.intro trivial trivial)) (And.intro trivial (And.intro trivial trivial)))))))))))))
theorem fe_83 : FE (H := H) P bk K 83 (fun o vs h c => match vs with | [t0, t1, t2, t3, t4] => f83_S o t0 t1 t2 t3 t4 h c | _ => none) := by
  refine ⟨f83_f, bk_83, rfl, ck_83, fun o vs h c r e => ?_⟩
  dsimp only at e
  split at e
  · exact ⟨rfl, (f83_S_eq o _ _ _ _ _ h c).trans e⟩
  · cases e
theorem kc_84000 : CodeOK K 58 f84_c84000 := (And.intro (And.intro trivial (And.intro trivial trivial)) (And.intro trivial (And.intro (And.intro trivial trivial) (And.intro trivial trivial))))
theorem le_84000 : LE (H := H) P K 84000 (fun o rd vs h c df => match vs with | [t0, t2, t4, t10, t11] => f84_L84000 o rd t0 t2 t4 t10 t11 h c df | _ => none) := by
  intro lin b nt hk
  rw [kl_84000] at hk
  cases hk
  refine ⟨kc_84000, fun o rd vs h c df q e => ?_⟩
  dsimp only at e
  split at e
  · exact (f84_L84000_eq o rd _ _ _ _ _ h c df).trans e
  · cases e
theorem ck_84 : CodeOK K f84_f.nt f84_f.code := (And.intro trivial (And.intro trivial (And.intro (And.intro rfl kl_84000) trivial)))
theorem fe_84 : FE (H := H) P bk K 84 (fun o vs h c => match vs with | [t0, t1, t2, t3, t4] => f84_S o t0 t1 t2 t3 t4 h c | _ => none) := by
  refine ⟨f84_f, bk_84, rfl, ck_84, fun o vs h c r e => ?_⟩
  dsimp only at e
  split at e
  · exact ⟨rfl, (f84_S_eq o _ _ _ _ _ h c).trans e⟩
  · cases e
theorem kc_85000 : CodeOK K 38 f85_c85000 := (And.intro (And.intro trivial (And.intro trivial trivial)) (And.intro trivial trivial))
theorem le_85000 : LE (H := H) P K 85000 (fun o rd vs h c df => match vs with | [t0, t1, t2, t3, t10] => f85_L85000 o rd t0 t1 t2 t3 t10 h c df | _ => none) := by
  intro lin b nt hk
  rw [kl_85000] at hk
  cases hk
  refine ⟨kc_85000, fun o rd vs h c df q e => ?_⟩
  dsimp only at e
  split at e
  · exact (f85_L85000_eq o rd _ _ _ _ _ h c df).trans e
  · cases e
theorem ck_85 : CodeOK K f85_f.nt f85_f.code := (And.intro trivial (And.intro rfl kl_85000))
theorem fe_85 : FE (H := H) P bk K 85 (fun o vs h c => match vs with | [t0, t1, t2, t3, t4] => f85_S o t0 t1 t2 t3 t4 h c | _ => none) := by
  refine ⟨f85_f, bk_85, rfl, ck_85, fun o vs h c r e => ?_⟩
  dsimp only at e
  split at e
  · exact ⟨rfl, (f85_S_eq o _ _ _ _ _ h c).trans e⟩
  · cases e
noncomputable def tbF : BT (Orc H → List Value → H → Nat → Option (Rt H)) := (.node 50 (fun o vs h c => match vs with | [t0] => f50_S o t0 h c | _ => none) (.node 32 (fun o vs h c => match vs with | [t0] => f32_S o t0 h c | _ => none) (.node 20 (fun o vs h c => match vs with | [t0, t1, t2] => f20_S o t0 t1 t2 h c | _ => none) (.node 14 (fun o vs h c => match vs with | [t0, t1, t2] => f14_S o t0 t1 t2 h c | _ => none) (.node 10 (fun o vs h c => match vs with | [t0, t1] => f10_S o t0 t1 h c | _ => none) (.node 4 (fun o vs h c => match vs with | [t0, t1, t2] => f4_S o t0 t1 t2 h c | _ => none) .leaf .leaf) (.node 13 (fun o vs h c => match vs with | [] => f13_S o h c | _ => none) .leaf .leaf)) (.node 16 (fun o vs h c => match vs with | [t0, t1] => f16_S o t0 t1 h c | _ => none) (.node 15 (fun o vs h c => match vs with | [t0, t1, t2] => f15_S o t0 t1 t2 h c | _ => none) .leaf .leaf) .leaf)) (.node 26 (fun o vs h c => match vs with | [t0, t1] => f26_S o t0 t1 h c | _ => none) (.node 23 (fun o vs h c => match vs with | [t0] => f23_S o t0 h c | _ => none) (.node 22 (fun o vs h c => match vs with | [t0] => f22_S o t0 h c | _ => none) .leaf .leaf) (.node 25 (fun o vs h c => match vs with | [t0, t1] => f25_S o t0 t1 h c | _ => none) .leaf .leaf)) (.node 31 (fun o vs h c => match vs with | [t0] => f31_S o t0 h c | _ => none) (.node 28 (fun o vs h c => match vs with | [t0, t1] => f28_S o t0 t1 h c | _ => none) .leaf .leaf) .leaf))) (.node 42 (fun o vs h c => match vs with | [t0] => f42_S o t0 h c | _ => none) (.node 39 (fun o vs h c => match vs with | [] => f39_S o h c | _ => none) (.node 34 (fun o vs h c => match vs with | [] => f34_S o h c | _ => none) (.node 33 (fun o vs h c => match vs with | [t0] => f33_S o t0 h c | _ => none) .leaf .leaf) (.node 35 (fun o vs h c => match vs with | [t0, t1, t2, t3] => f35_S o t0 t1 t2 t3 h c | _ => none) .leaf .leaf)) (.node 41 (fun o vs h c => match vs with | [t0, t1] => f41_S o t0 t1 h c | _ => none) (.node 40 (fun o vs h c => match vs with | [t0, t1, t2] => f40_S o t0 t1 t2 h c | _ => none) .leaf .leaf) .leaf)) (.node 47 (fun o vs h c => match vs with | [t0] => f47_S o t0 h c | _ => none) (.node 45 (fun o vs h c => match vs with | [t0, t1] => f45_S o t0 t1 h c | _ => none) (.node 43 (fun o vs h c => match vs with | [t0, t1] => f43_S o t0 t1 h c | _ => none) .leaf .leaf) (.node 46 (fun o vs h c => match vs with | [t0] => f46_S o t0 h c | _ => none) .leaf .leaf)) (.node 49 (fun o vs h c => match vs with | [t0] => f49_S o t0 h c | _ => none) (.node 48 (fun o vs h c => match vs with | [t0, t1, t2] => f48_S o t0 t1 t2 h c | _ => none) .leaf .leaf) .leaf)))) (.node 72 (fun o vs h c => match vs with | [t0, t1] => f72_S o t0 t1 h c | _ => none) (.node 63 (fun o vs h c => match vs with | [t0, t1] => f63_S o t0 t1 h c | _ => none) (.node 60 (fun o vs h c => match vs with | [t0] => f60_S o t0 h c | _ => none) (.node 58 (fun o vs h c => match vs with | [t0] => f58_S o t0 h c | _ => none) (.node 57 (fun o vs h c => match vs with | [t0] => f57_S o t0 h c | _ => none) .leaf .leaf) (.node 59 (fun o vs h c => match vs with | [t0] => f59_S o t0 h c | _ => none) .leaf .leaf)) (.node 62 (fun o vs h c => match vs with | [t0] => f62_S o t0 h c | _ => none) (.node 61 (fun o vs h c => match vs with | [t0, t1] => f61_S o t0 t1 h c | _ => none) .leaf .leaf) .leaf)) (.node 67 (fun o vs h c => match vs with | [t0, t1] => f67_S o t0 t1 h c | _ => none) (.node 65 (fun o vs h c => match vs with | [t0, t1] => f65_S o t0 t1 h c | _ => none) (.node 64 (fun o vs h c => match vs with | [t0] => f64_S o t0 h c | _ => none) .leaf .leaf) (.node 66 (fun o vs h c => match vs with | [t0] => f66_S o t0 h c | _ => none) .leaf .leaf)) (.node 71 (fun o vs h c => match vs with | [t0] => f71_S o t0 h c | _ => none) (.node 68 (fun o vs h c => match vs with | [t0] => f68_S o t0 h c | _ => none) .leaf .leaf) .leaf))) (.node 79 (fun o vs h c => match vs with | [t0, t1, t2] => f79_S o t0 t1 t2 h c | _ => none) (.node 76 (fun o vs h c => match vs with | [t0, t1, t2] => f76_S o t0 t1 t2 h c | _ => none) (.node 74 (fun o vs h c => match vs with | [t0, t1] => f74_S o t0 t1 h c | _ => none) (.node 73 (fun o vs h c => match vs with | [t0, t1, t2, t3] => f73_S o t0 t1 t2 t3 h c | _ => none) .leaf .leaf) (.node 75 (fun o vs h c => match vs with | [t0, t1] => f75_S o t0 t1 h c | _ => none) .leaf .leaf)) (.node 78 (fun o vs h c => match vs with | [t0, t1] => f78_S o t0 t1 h c | _ => none) (.node 77 (fun o vs h c => match vs with | [t0, t1] => f77_S o t0 t1 h c | _ => none) .leaf .leaf) .leaf)) (.node 83 (fun o vs h c => match vs with | [t0, t1, t2, t3, t4] => f83_S o t0 t1 t2 t3 t4 h c | _ => none) (.node 81 (fun o vs h c => match vs with | [t0, t1, t2] => f81_S o t0 t1 t2 h c | _ => none) (.node 80 (fun o vs h c => match vs with | [t0, t1] => f80_S o t0 t1 h c | _ => none) .leaf .leaf) (.node 82 (fun o vs h c => match vs with | [t0, t1, t2, t3] => f82_S o t0 t1 t2 t3 h c | _ => none) .leaf .leaf)) (.node 85 (fun o vs h c => match vs with | [t0, t1, t2, t3, t4] => f85_S o t0 t1 t2 t3 t4 h c | _ => none) (.node 84 (fun o vs h c => match vs with | [t0, t1, t2, t3, t4] => f84_S o t0 t1 t2 t3 t4 h c | _ => none) .leaf .leaf) .leaf)))))
noncomputable def tbL : BT (Orc H → Option Nat → List Value → H → Nat → List Nat → Option (Rt H)) := (.node 58000 (fun o rd vs h c df => match vs with | [t1, t4, t17, t18] => f58_L58000 o rd t1 t4 t17 t18 h c df | _ => none) (.node 40000 (fun o rd vs h c df => match vs with | [t1, t2, t3, t6, t7, t9, t10, t11, t49, t50, t51] => f40_L40000 o rd t1 t2 t3 t6 t7 t9 t10 t11 t49 t50 t51 h c df | _ => none) (.node 23001 (fun o rd vs h c df => match vs with | [t1, t2, t3, t4, t5] => f23_L23001 o rd t1 t2 t3 t4 t5 h c df | _ => none) (.node 20002 (fun o rd vs h c df => match vs with | [t1, t2, t3, t6, t8, t9, t11, t12, t13, t14] => f20_L20002 o rd t1 t2 t3 t6 t8 t9 t11 t12 t13 t14 h c df | _ => none) (.node 20000 (fun o rd vs h c df => match vs with | [t1, t2, t3, t6, t8, t9, t10] => f20_L20000 o rd t1 t2 t3 t6 t8 t9 t10 h c df | _ => none) (.node 10000 (fun o rd vs h c df => match vs with | [t2, t3, t9, t46, t47] => f10_L10000 o rd t2 t3 t9 t46 t47 h c df | _ => none) .leaf .leaf) (.node 20001 (fun o rd vs h c df => match vs with | [t1, t2, t3, t6, t8, t9, t11, t12] => f20_L20001 o rd t1 t2 t3 t6 t8 t9 t11 t12 h c df | _ => none) .leaf .leaf)) (.node 22001 (fun o rd vs h c df => match vs with | [t7, t24, t25, t26, t30, t31] => f22_L22001 o rd t7 t24 t25 t26 t30 t31 h c df | _ => none) (.node 22000 (fun o rd vs h c df => match vs with | [t7, t24, t25, t26] => f22_L22000 o rd t7 t24 t25 t26 h c df | _ => none) .leaf .leaf) (.node 23000 (fun o rd vs h c df => match vs with | [t1, t2, t3, t4] => f23_L23000 o rd t1 t2 t3 t4 h c df | _ => none) .leaf .leaf))) (.node 33000 (fun o rd vs h c df => match vs with | [t0, t3, t4] => f33_L33000 o rd t0 t3 t4 h c df | _ => none) (.node 26000 (fun o rd vs h c df => match vs with | [t0, t1, t4, t5] => f26_L26000 o rd t0 t1 t4 t5 h c df | _ => none) (.node 25000 (fun o rd vs h c df => match vs with | [t2, t3, t4, t5] => f25_L25000 o rd t2 t3 t4 t5 h c df | _ => none) .leaf .leaf) (.node 31000 (fun o rd vs h c df => match vs with | [t2, t6, t7, t8] => f31_L31000 o rd t2 t6 t7 t8 h c df | _ => none) .leaf .leaf)) (.node 35001 (fun o rd vs h c df => match vs with | [t4, t5, t8, t9, t10, t11, t12, t13, t14, t15, t53, t54] => f35_L35001 o rd t4 t5 t8 t9 t10 t11 t12 t13 t14 t15 t53 t54 h c df | _ => none) (.node 35000 (fun o rd vs h c df => match vs with | [t4, t5, t8, t9, t10, t11, t12, t13, t14] => f35_L35000 o rd t4 t5 t8 t9 t10 t11 t12 t13 t14 h c df | _ => none) .leaf .leaf) .leaf))) (.node 46000 (fun o rd vs h c df => match vs with | [t1, t2, t3, t16, t17, t18] => f46_L46000 o rd t1 t2 t3 t16 t17 t18 h c df | _ => none) (.node 42001 (fun o rd vs h c df => match vs with | [t2, t45, t46, t47] => f42_L42001 o rd t2 t45 t46 t47 h c df | _ => none) (.node 40002 (fun o rd vs h c df => match vs with | [t2, t3, t6, t10, t14, t15, t16, t17, t78, t79, t80, t85] => f40_L40002 o rd t2 t3 t6 t10 t14 t15 t16 t17 t78 t79 t80 t85 h c df | _ => none) (.node 40001 (fun o rd vs h c df => match vs with | [t2, t3, t6, t10, t14, t78, t79, t80] => f40_L40001 o rd t2 t3 t6 t10 t14 t78 t79 t80 h c df | _ => none) .leaf .leaf) (.node 42000 (fun o rd vs h c df => match vs with | [t1, t2, t3, t4, t23, t24, t25] => f42_L42000 o rd t1 t2 t3 t4 t23 t24 t25 h c df | _ => none) .leaf .leaf)) (.node 45000 (fun o rd vs h c df => match vs with | [t2, t3, t4, t5, t6] => f45_L45000 o rd t2 t3 t4 t5 t6 h c df | _ => none) (.node 43000 (fun o rd vs h c df => match vs with | [t2, t3, t4, t5, t9, t10, t11] => f43_L43000 o rd t2 t3 t4 t5 t9 t10 t11 h c df | _ => none) .leaf .leaf) .leaf)) (.node 49001 (fun o rd vs h c df => match vs with | [t2, t3, t4, t5, t7, t8, t13, t14, t15, t25, t26, t27] => f49_L49001 o rd t2 t3 t4 t5 t7 t8 t13 t14 t15 t25 t26 t27 h c df | _ => none) (.node 48000 (fun o rd vs h c df => match vs with | [t0, t1, t2, t6, t7, t8] => f48_L48000 o rd t0 t1 t2 t6 t7 t8 h c df | _ => none) (.node 47000 (fun o rd vs h c df => match vs with | [t1, t2, t3, t4] => f47_L47000 o rd t1 t2 t3 t4 h c df | _ => none) .leaf .leaf) (.node 49000 (fun o rd vs h c df => match vs with | [t2, t3, t4, t5, t13, t14, t15] => f49_L49000 o rd t2 t3 t4 t5 t13 t14 t15 h c df | _ => none) .leaf .leaf)) (.node 50000 (fun o rd vs h c df => match vs with | [t1, t2, t3, t4] => f50_L50000 o rd t1 t2 t3 t4 h c df | _ => none) (.node 49002 (fun o rd vs h c df => match vs with | [t2, t3, t4, t5, t7, t8, t10, t13, t14, t15, t25, t26, t27, t31] => f49_L49002 o rd t2 t3 t4 t5 t7 t8 t10 t13 t14 t15 t25 t26 t27 t31 h c df | _ => none) .leaf .leaf) .leaf)))) (.node 78001 (fun o rd vs h c df => match vs with | [t0, t1, t3, t8, t9, t16, t17] => f78_L78001 o rd t0 t1 t3 t8 t9 t16 t17 h c df | _ => none) (.node 68000 (fun o rd vs h c df => match vs with | [t1, t5, t15, t16, t17] => f68_L68000 o rd t1 t5 t15 t16 t17 h c df | _ => none) (.node 59000 (fun o rd vs h c df => match vs with | [t0, t4] => f59_L59000 o rd t0 t4 h c df | _ => none) (.node 58002 (fun o rd vs h c df => match vs with | [t1, t4, t6, t8, t9, t26, t27] => f58_L58002 o rd t1 t4 t6 t8 t9 t26 t27 h c df | _ => none) (.node 58001 (fun o rd vs h c df => match vs with | [t1, t4, t6, t26, t27] => f58_L58001 o rd t1 t4 t6 t26 t27 h c df | _ => none) .leaf .leaf) (.node 58003 (fun o rd vs h c df => match vs with | [t1, t4, t6, t8, t9, t26, t27, t54, t55] => f58_L58003 o rd t1 t4 t6 t8 t9 t26 t27 t54 t55 h c df | _ => none) .leaf .leaf)) (.node 66000 (fun o rd vs h c df => match vs with | [t2, t3, t6, t7] => f66_L66000 o rd t2 t3 t6 t7 h c df | _ => none) (.node 60000 (fun o rd vs h c df => match vs with | [t2, t3, t6, t7] => f60_L60000 o rd t2 t3 t6 t7 h c df | _ => none) .leaf .leaf) (.node 67000 (fun o rd vs h c df => match vs with | [t0, t1, t4, t12, t13] => f67_L67000 o rd t0 t1 t4 t12 t13 h c df | _ => none) .leaf .leaf))) (.node 77000 (fun o rd vs h c df => match vs with | [t2, t3, t4, t10] => f77_L77000 o rd t2 t3 t4 t10 h c df | _ => none) (.node 73000 (fun o rd vs h c df => match vs with | [t3, t8, t9, t10, t11] => f73_L73000 o rd t3 t8 t9 t10 t11 h c df | _ => none) (.node 72000 (fun o rd vs h c df => match vs with | [t0, t1, t4, t7, t8] => f72_L72000 o rd t0 t1 t4 t7 t8 h c df | _ => none) .leaf .leaf) (.node 76000 (fun o rd vs h c df => match vs with | [t0, t1, t2, t6, t11, t12, t13] => f76_L76000 o rd t0 t1 t2 t6 t11 t12 t13 h c df | _ => none) .leaf .leaf)) (.node 78000 (fun o rd vs h c df => match vs with | [t0, t1, t8, t9] => f78_L78000 o rd t0 t1 t8 t9 h c df | _ => none) (.node 77001 (fun o rd vs h c df => match vs with | [t2, t3, t4, t5, t10, t31] => f77_L77001 o rd t2 t3 t4 t5 t10 t31 h c df | _ => none) .leaf .leaf) .leaf))) (.node 83000 (fun o rd vs h c df => match vs with | [t0, t1, t4, t10, t11] => f83_L83000 o rd t0 t1 t4 t10 t11 h c df | _ => none) (.node 81002 (fun o rd vs h c df => match vs with | [t0, t1, t2, t6, t7, t8] => f81_L81002 o rd t0 t1 t2 t6 t7 t8 h c df | _ => none) (.node 81000 (fun o rd vs h c df => match vs with | [t0, t1, t2, t6, t7, t8] => f81_L81000 o rd t0 t1 t2 t6 t7 t8 h c df | _ => none) (.node 80000 (fun o rd vs h c df => match vs with | [t0, t1, t4, t5, t12] => f80_L80000 o rd t0 t1 t4 t5 t12 h c df | _ => none) .leaf .leaf) (.node 81001 (fun o rd vs h c df => match vs with | [t0, t1, t2, t6] => f81_L81001 o rd t0 t1 t2 t6 h c df | _ => none) .leaf .leaf)) (.node 82001 (fun o rd vs h c df => match vs with | [t0, t1, t2, t3, t8, t9] => f82_L82001 o rd t0 t1 t2 t3 t8 t9 h c df | _ => none) (.node 82000 (fun o rd vs h c df => match vs with | [t0, t1, t2, t3, t8] => f82_L82000 o rd t0 t1 t2 t3 t8 h c df | _ => none) .leaf .leaf) .leaf)) (.node 83004 (fun o rd vs h c df => match vs with | [t0, t1, t2, t3, t4, t18, t19, t20, t21, t22] => f83_L83004 o rd t0 t1 t2 t3 t4 t18 t19 t20 t21 t22 h c df | _ => none) (.node 83002 (fun o rd vs h c df => match vs with | [t0, t2, t4, t14, t15] => f83_L83002 o rd t0 t2 t4 t14 t15 h c df | _ => none) (.node 83001 (fun o rd vs h c df => match vs with | [t0, t10, t13] => f83_L83001 o rd t0 t10 t13 h c df | _ => none) .leaf .leaf) (.node 83003 (fun o rd vs h c df => match vs with | [t0, t14, t17] => f83_L83003 o rd t0 t14 t17 h c df | _ => none) .leaf .leaf)) (.node 85000 (fun o rd vs h c df => match vs with | [t0, t1, t2, t3, t10] => f85_L85000 o rd t0 t1 t2 t3 t10 h c df | _ => none) (.node 84000 (fun o rd vs h c df => match vs with | [t0, t2, t4, t10, t11] => f84_L84000 o rd t0 t2 t4 t10 t11 h c df | _ => none) .leaf .leaf) .leaf)))))
noncomputable def tbR : List (Nat × List Nat × (Orc H → Nat → List Value → H → Nat → Option (Rt H))) := [(67, [51], (fun o l vs h c => match vs with | [t51, t2, t3, t9, t10] => f10_R10001 o l t51 t2 t3 t9 t10 h c | _ => none)), (71, [13, 14], (fun o l vs h c => match vs with | [t13, t14, t1, t2, t3] => f57_R57000 o l t13 t14 t1 t2 t3 h c | _ => none)), (49, [30], (fun o l vs h c => match vs with | [t30, t1, t5, t6, t7] => f68_R68001 o l t30 t1 t5 t6 t7 h c | _ => none))]
noncomputable def tab : Tab H := { F := fun f => tbF.look f, L := fun j => tbL.look j, R := fun nt ps => lookR nt ps tbR }
theorem tab_ok : TabOK (H := H) P bk K tab := ⟨fun f F e => BT.look_all (Q := FE P bk K) (t := tbF) (And.intro fe_50 (And.intro (And.intro fe_32 (And.intro (And.intro fe_20 (And.intro (And.intro fe_14 (And.intro (And.intro fe_10 (And.intro (And.intro fe_4 (And.intro trivial trivial)) (And.intro fe_13 (And.intro trivial trivial)))) (And.intro fe_16 (And.intro (And.intro fe_15 (And.intro trivial trivial)) trivial)))) (And.intro fe_26 (And.intro (And.intro fe_23 (And.intro (And.intro fe_22 (And.intro trivial trivial)) (And.intro fe_25 (And.intro trivial trivial)))) (And.intro fe_31 (And.intro (And.intro fe_28 (And.intro trivial trivial)) trivial)))))) (And.intro fe_42 (And.intro (And.intro fe_39 (And.intro (And.intro fe_34 (And.intro (And.intro fe_33 (And.intro trivial trivial)) (And.intro fe_35 (And.intro trivial trivial)))) (And.intro fe_41 (And.intro (And.intro fe_40 (And.intro trivial trivial)) trivial)))) (And.intro fe_47 (And.intro (And.intro fe_45 (And.intro (And.intro fe_43 (And.intro trivial trivial)) (And.intro fe_46 (And.intro trivial trivial)))) (And.intro fe_49 (And.intro (And.intro fe_48 (And.intro trivial trivial)) trivial)))))))) (And.intro fe_72 (And.intro (And.intro fe_63 (And.intro (And.intro fe_60 (And.intro (And.intro fe_58 (And.intro (And.intro fe_57 (And.intro trivial trivial)) (And.intro fe_59 (And.intro trivial trivial)))) (And.intro fe_62 (And.intro (And.intro fe_61 (And.intro trivial trivial)) trivial)))) (And.intro fe_67 (And.intro (And.intro fe_65 (And.intro (And.intro fe_64 (And.intro trivial trivial)) (And.intro fe_66 (And.intro trivial trivial)))) (And.intro fe_71 (And.intro (And.intro fe_68 (And.intro trivial trivial)) trivial)))))) (And.intro fe_79 (And.intro (And.intro fe_76 (And.intro (And.intro fe_74 (And.intro (And.intro fe_73 (And.intro trivial trivial)) (And.intro fe_75 (And.intro trivial trivial)))) (And.intro fe_78 (And.intro (And.intro fe_77 (And.intro trivial trivial)) trivial)))) (And.intro fe_83 (And.intro (And.intro fe_81 (And.intro (And.intro fe_80 (And.intro trivial trivial)) (And.intro fe_82 (And.intro trivial trivial)))) (And.intro fe_85 (And.intro (And.intro fe_84 (And.intro trivial trivial)) trivial)))))))))) e,
  fun j B lin b nt e hk => BT.look_all (Q := LE P K) (t := tbL) (And.intro le_58000 (And.intro (And.intro le_40000 (And.intro (And.intro le_23001 (And.intro (And.intro le_20002 (And.intro (And.intro le_20000 (And.intro (And.intro le_10000 (And.intro trivial trivial)) (And.intro le_20001 (And.intro trivial trivial)))) (And.intro le_22001 (And.intro (And.intro le_22000 (And.intro trivial trivial)) (And.intro le_23000 (And.intro trivial trivial)))))) (And.intro le_33000 (And.intro (And.intro le_26000 (And.intro (And.intro le_25000 (And.intro trivial trivial)) (And.intro le_31000 (And.intro trivial trivial)))) (And.intro le_35001 (And.intro (And.intro le_35000 (And.intro trivial trivial)) trivial)))))) (And.intro le_46000 (And.intro (And.intro le_42001 (And.intro (And.intro le_40002 (And.intro (And.intro le_40001 (And.intro trivial trivial)) (And.intro le_42000 (And.intro trivial trivial)))) (And.intro le_45000 (And.intro (And.intro le_43000 (And.intro trivial trivial)) trivial)))) (And.intro le_49001 (And.intro (And.intro le_48000 (And.intro (And.intro le_47000 (And.intro trivial trivial)) (And.intro le_49000 (And.intro trivial trivial)))) (And.intro le_50000 (And.intro (And.intro le_49002 (And.intro trivial trivial)) trivial)))))))) (And.intro le_78001 (And.intro (And.intro le_68000 (And.intro (And.intro le_59000 (And.intro (And.intro le_58002 (And.intro (And.intro le_58001 (And.intro trivial trivial)) (And.intro le_58003 (And.intro trivial trivial)))) (And.intro le_66000 (And.intro (And.intro le_60000 (And.intro trivial trivial)) (And.intro le_67000 (And.intro trivial trivial)))))) (And.intro le_77000 (And.intro (And.intro le_73000 (And.intro (And.intro le_72000 (And.intro trivial trivial)) (And.intro le_76000 (And.intro trivial trivial)))) (And.intro le_78000 (And.intro (And.intro le_77001 (And.intro trivial trivial)) trivial)))))) (And.intro le_83000 (And.intro (And.intro le_81002 (And.intro (And.intro le_81000 (And.intro (And.intro le_80000 (And.intro trivial trivial)) (And.intro le_81001 (And.intro trivial trivial)))) (And.intro le_82001 (And.intro (And.intro le_82000 (And.intro trivial trivial)) trivial)))) (And.intro le_83004 (And.intro (And.intro le_83002 (And.intro (And.intro le_83001 (And.intro trivial trivial)) (And.intro le_83003 (And.intro trivial trivial)))) (And.intro le_85000 (And.intro (And.intro le_84000 (And.intro trivial trivial)) trivial)))))))))) e lin b nt hk,
  fun nt ps D lin a b e hk => lookR_all (Q := RE P K) (l := tbR) (And.intro re_10001 (And.intro re_57000 (And.intro re_68001 trivial))) e lin a b hk⟩
theorem ev_run {n : Nat} {k : Key} {vs : List Value} {h : H} {c : Nat} {df : List Nat} {r : Rt H} (hk : KeyOK K k) (hi : InvL K h) (e : evT tab n k vs h c df = some r) : run P bk k vs h c df = some r := (evT_good tab_ok n k vs h c df r hk hi e).1
end Go.Proofs.Ytemkjcpfgmbibaa

/-! Rules for reading shallow texts over the plain heap. -/
namespace Go.Ab
open Go
set_option linter.unusedVariables false
set_option linter.unusedSimpArgs false

variable {P : Program}

@[simp] theorem boolK_bool {β : Type} (t : Bool) (a b : Option β) : boolK (.bool t) a b = cond t a b := rfl
@[simp] theorem gv_bool (b w : Bool) : gv (.bool b) w = some (b == w) := rfl
@[simp] theorem ret1_v {H : Type} (h : H) (c : Nat) (v : Value) : ret1 h c (some v) = some (v, h, c) := rfl
@[simp] theorem pickV_bool (t : Bool) (a b : Value) : pickV (.bool t) a b = some (cond t a b) := rfl
@[simp] theorem pickR_bool {H : Type} (h : H) (c : Nat) (t : Bool) (a b : Value) : pickR h c (.bool t) a b = some (cond t a b, h, c) := rfl
@[simp] theorem exIs_nn : exIs .normal .normal = true := rfl
@[simp] theorem exIs_rr : exIs .ret .ret = true := rfl
@[simp] theorem exIs_nr : exIs .normal .ret = false := rfl
@[simp] theorem exIs_rn : exIs .ret .normal = false := rfl
@[simp] theorem exIs_ne (i : Nat) : exIs .normal (.exit i) = false := rfl
@[simp] theorem exIs_re (i : Nat) : exIs .ret (.exit i) = false := rfl
@[simp] theorem exIs_en (i : Nat) : exIs (.exit i) .normal = false := rfl
@[simp] theorem exIs_er (i : Nat) : exIs (.exit i) .ret = false := rfl
@[simp] theorem exIs_ee (i j : Nat) : exIs (.exit i) (.exit j) = decide (i = j) := by
  show Nat.beq i j = _
  rw [Bool.eq_iff_iff]; simp
@[simp] theorem v_zero {H : Type} (e : Ex) (v : Value) (vs : List Value) (h : H) (c : Nat) (df : List Nat) : Rt.v { e := e, vs := v :: vs, h := h, c := c, df := df } 0 = v := rfl
@[simp] theorem v_succ {H : Type} (e : Ex) (v : Value) (vs : List Value) (h : H) (c : Nat) (df : List Nat) (i : Nat) :
    Rt.v { e := e, vs := v :: vs, h := h, c := c, df := df } (i + 1) = Rt.v { e := e, vs := vs, h := h, c := c, df := df } i := rfl

/-! ### Arithmetic -/
@[simp] theorem aBinOp_lss (t : TypeId) (k : IntKind) (a b : Int) : aBinOp P .lss t (.int k a) (.int k b) = some (.bool (decide (a < b))) := by rw [aBinOp_eq]; simp [aBinOp0, intBin]
@[simp] theorem aBinOp_leq (t : TypeId) (k : IntKind) (a b : Int) : aBinOp P .leq t (.int k a) (.int k b) = some (.bool (decide (a ≤ b))) := by rw [aBinOp_eq]; simp [aBinOp0, intBin]
@[simp] theorem aBinOp_gtr (t : TypeId) (k : IntKind) (a b : Int) : aBinOp P .gtr t (.int k a) (.int k b) = some (.bool (decide (b < a))) := by rw [aBinOp_eq]; simp [aBinOp0, intBin]
@[simp] theorem aBinOp_geq (t : TypeId) (k : IntKind) (a b : Int) : aBinOp P .geq t (.int k a) (.int k b) = some (.bool (decide (b ≤ a))) := by rw [aBinOp_eq]; simp [aBinOp0, intBin]
@[simp] theorem aBinOp_eql (t : TypeId) (k : IntKind) (a b : Int) : aBinOp P .eql t (.int k a) (.int k b) = some (.bool (decide (a = b))) := by rw [aBinOp_eq]; simp only [aBinOp0, intBin, decide_true, cond_true]; congr
@[simp] theorem aBinOp_neq (t : TypeId) (k : IntKind) (a b : Int) : aBinOp P .neq t (.int k a) (.int k b) = some (.bool (!decide (a = b))) := by rw [aBinOp_eq]; simp only [aBinOp0, intBin, decide_true, cond_true]; congr
theorem aBinOp_add_wrap (t : TypeId) (a b : Int) : aBinOp P .add t (.int .i64 a) (.int .i64 b) = some (.int .i64 (IntKind.i64.wrap (a + b))) := by rw [aBinOp_eq]; simp [aBinOp0, intBin]
@[simp] theorem aBinOp_add (t : TypeId) (a b : Int) (h1 : -9223372036854775808 ≤ a + b) (h2 : a + b < 9223372036854775808) : aBinOp P .add t (.int .i64 a) (.int .i64 b) = some (.int .i64 (a + b)) := by
  rw [aBinOp_add_wrap, wrap_i64 h1 h2]
@[simp] theorem aBinOp_sub (t : TypeId) (a b : Int) (h1 : -9223372036854775808 ≤ a - b) (h2 : a - b < 9223372036854775808) : aBinOp P .sub t (.int .i64 a) (.int .i64 b) = some (.int .i64 (a - b)) := by
  rw [aBinOp_eq]; simp only [aBinOp0, intBin, decide_true, cond_true, wrap_i64 h1 h2]
@[simp] theorem aBinOp_mul (t : TypeId) (a b : Int) (h1 : -9223372036854775808 ≤ a * b) (h2 : a * b < 9223372036854775808) : aBinOp P .mul t (.int .i64 a) (.int .i64 b) = some (.int .i64 (a * b)) := by
  rw [aBinOp_eq]; simp only [aBinOp0, intBin, decide_true, cond_true, wrap_i64 h1 h2]
@[simp] theorem aBinOp_quo (t : TypeId) (a b : Int) (h : b ≠ 0) (h1 : -9223372036854775808 ≤ a.tdiv b) (h2 : a.tdiv b < 9223372036854775808) : aBinOp P .quo t (.int .i64 a) (.int .i64 b) = some (.int .i64 (a.tdiv b)) := by
  rw [aBinOp_eq]; simp only [aBinOp0, intBin, decide_true, cond_true, wrap_i64 h1 h2, h, decide_false, cond_false]
@[simp] theorem aBinOp_rem (t : TypeId) (a b : Int) (h : b ≠ 0) : aBinOp P .rem t (.int .i64 a) (.int .i64 b) = some (.int .i64 (a.tmod b)) := by
  rw [aBinOp_eq]; simp only [aBinOp0, intBin, decide_true, cond_true, h, decide_false, cond_false]
@[simp] theorem aUnOp_not (b : Bool) : aUnOp .not (.bool b) = some (.bool (!b)) := rfl
@[simp] theorem aUnOp_neg (a : Int) (h1 : -9223372036854775808 ≤ -a) (h2 : -a < 9223372036854775808) : aUnOp .neg (.int .i64 a) = some (.int .i64 (-a)) := by
  simp only [aUnOp, Int.zero_sub, wrap_i64 h1 h2]
@[simp] theorem cnvI_i64 (k : IntKind) (a : Int) (h1 : -9223372036854775808 ≤ a) (h2 : a < 9223372036854775808) : cnvI .i64 (.int k a) = some (.int .i64 a) := by simp only [cnvI, wrap_i64 h1 h2]
@[simp] theorem foldV_max (a b : Int) : foldV max2 [.int .i64 a, .int .i64 b] = some (.int .i64 (max a b)) := by
  simp only [foldV, List.foldlM, max2, decide_true, cond_true]
  show some (Value.int .i64 _) = _
  congr 2
  split <;> omega
@[simp] theorem foldV_min (a b : Int) : foldV min2 [.int .i64 a, .int .i64 b] = some (.int .i64 (min a b)) := by
  simp only [foldV, List.foldlM, min2, decide_true, cond_true]
  show some (Value.int .i64 _) = _
  congr 2
  split <;> omega

/-! ### Addresses -/
@[simp] theorem lenS_sl (a : Option Addr) (n k : Nat) : lenS (.slice a n k) = some (.int .i64 n) := rfl
@[simp] theorem addOff_ptrTo (i n : Nat) : addOff (ptrTo i) n = some (.pointer (some ⟨i, n, none⟩)) := by simp [addOff, ptrTo, asPtr]
@[simp] theorem addOff_ptr (i o n : Nat) : addOff (.pointer (some ⟨i, o, none⟩)) n = some (.pointer (some ⟨i, o + n, none⟩)) := rfl
@[simp] theorem nilCheck_ptrTo (i : Nat) : aNilCheck (ptrTo i) = some (ptrTo i) := rfl
@[simp] theorem nilCheck_ptr (i o : Nat) : aNilCheck (.pointer (some ⟨i, o, none⟩)) = some (.pointer (some ⟨i, o, none⟩)) := rfl
theorem aIdx_int {len : Nat} {k : IntKind} {i : Int} (h1 : 0 ≤ i) (h2 : i < (len : Int)) : aIdx len (.int k i) = some i.toNat := by
  unfold aIdx
  cases i with
  | ofNat m =>
    dsimp only
    have : Nat.blt m len = true := by rw [Nat.blt_eq]; simpa using h2
    rw [this]; rfl
  | negSucc m => simp at h1
@[simp] theorem ixA_ptrTo (len sz b : Nat) (k : IntKind) (i : Int) (h1 : 0 ≤ i) (h2 : i < (len : Int)) : ixA len sz (ptrTo b) (.int k i) = some (.pointer (some ⟨b, i.toNat * sz, none⟩)) := by
  simp [ixA, aIdx_int h1 h2]
@[simp] theorem ixA_ptr (len sz b o : Nat) (k : IntKind) (i : Int) (h1 : 0 ≤ i) (h2 : i < (len : Int)) : ixA len sz (.pointer (some ⟨b, o, none⟩)) (.int k i) = some (.pointer (some ⟨b, o + i.toNat * sz, none⟩)) := by
  simp [ixA, aIdx_int h1 h2]
@[simp] theorem ixS_sl (sz b o n cap : Nat) (k : IntKind) (i : Int) (h1 : 0 ≤ i) (h2 : i < (n : Int)) : ixS sz (.slice (some ⟨b, o, none⟩) n cap) (.int k i) = some (.pointer (some ⟨b, o + i.toNat * sz, none⟩)) := by
  simp [ixS, aIdx_int h1 h2]

/-! ### Memory -/
theorem FH.get_def (h : FH) (i : Nat) : HeapC.get h i = h.f i := rfl
@[simp] theorem get_newB_same (h : FH) (i : Nat) (cs : List Value) : HeapC.get (newB h i cs) i = some (.cells false none cs) := by simp [newB, HeapC.get_set]
@[simp] theorem get_newB_ne (h : FH) (i j : Nat) (cs : List Value) (hne : j ≠ i) : HeapC.get (newB h i cs) j = HeapC.get h j := by simp [newB, HeapC.get_set, hne]

theorem FH.ext {a b : FH} (h : ∀ i, a.f i = b.f i) : a = b := by
  cases a; cases b
  congr
  exact funext h

theorem newB_f (h : FH) (i : Nat) (cs : List Value) (j : Nat) : (newB h i cs).f j = if j = i then some (.cells false none cs) else h.f j := HeapC.get_set (H := FH) h i _ j

@[simp] theorem newB_newB (h : FH) (i : Nat) (a b : List Value) : newB (newB h i a) i b = newB h i b := by
  apply FH.ext
  intro j
  simp only [newB_f]
  split <;> rfl

theorem newB_comm (h : FH) (i j : Nat) (a b : List Value) (hne : i ≠ j) : newB (newB h i a) j b = newB (newB h j b) i a := by
  apply FH.ext
  intro k
  simp only [newB_f]
  by_cases h1 : k = j
  · have h2 : ¬ k = i := by omega
    rw [if_pos h1, if_neg h2, if_pos h1]
  · rw [if_neg h1, if_neg h1]

theorem newB_same (h : FH) (i : Nat) (cs : List Value) (hg : HeapC.get h i = some (.cells false none cs)) : newB h i cs = h := by
  apply FH.ext
  intro k
  rw [newB_f]
  split
  · rename_i e; rw [e]; exact hg.symm
  · rfl

/-- the block b holds the cells cs -/
def Holds (h : FH) (b : Nat) (cs : List Value) : Prop := ∃ ro op, HeapC.get h b = some (.cells ro op cs)

theorem Holds.newB_same (h : FH) (i : Nat) (cs : List Value) : Holds (newB h i cs) i cs := ⟨_, _, get_newB_same h i cs⟩
theorem Holds.newB_ne {h : FH} {i j : Nat} {cs ds : List Value} (hne : j ≠ i) (hh : Holds h j ds) : Holds (newB h i cs) j ds := by
  obtain ⟨ro, op, e⟩ := hh
  exact ⟨ro, op, by rw [get_newB_ne h i j cs hne]; exact e⟩

theorem ld1_holds {h : FH} {b o : Nat} {cs : List Value} {v : Value} (hh : Holds h b cs) (hv : cs[o]? = some v) : ld1 h (.pointer (some ⟨b, o, none⟩)) = some v := by
  obtain ⟨ro, op, e⟩ := hh
  simp [ld1, asPtr, rdCell, getCells, e, hv]
theorem ldN_holds {h : FH} {n b o : Nat} {cs : List Value} (hh : Holds h b cs) (hv : o + n ≤ cs.length) : ldN h n (.pointer (some ⟨b, o, none⟩)) = some (.agg ((cs.drop o).take n).toArray) := by
  obtain ⟨ro, op, e⟩ := hh
  have : Nat.ble (o + n) cs.length = true := Nat.ble_eq_true_of_le hv
  simp [ldN, asPtr, rdCells, getCells, e, this]

@[simp] theorem ld1_newB_same (h : FH) (i o : Nat) (cs : List Value) : ld1 (newB h i cs) (.pointer (some ⟨i, o, none⟩)) = cs[o]? := by simp [ld1, asPtr, rdCell, getCells]
@[simp] theorem ld1_newB_ne (h : FH) (i j o : Nat) (cs : List Value) (hne : j ≠ i) : ld1 (newB h i cs) (.pointer (some ⟨j, o, none⟩)) = ld1 h (.pointer (some ⟨j, o, none⟩)) := by simp [ld1, asPtr, rdCell, getCells, hne]
@[simp] theorem ld1_ptrTo (h : FH) (i : Nat) : ld1 h (ptrTo i) = ld1 h (.pointer (some ⟨i, 0, none⟩)) := rfl
@[simp] theorem ldN_ptrTo (h : FH) (n i : Nat) : ldN h n (ptrTo i) = ldN h n (.pointer (some ⟨i, 0, none⟩)) := rfl
@[simp] theorem ldN_newB_same (h : FH) (n i o : Nat) (cs : List Value) (hl : o + n ≤ cs.length) : ldN (newB h i cs) n (.pointer (some ⟨i, o, none⟩)) = some (.agg ((cs.drop o).take n).toArray) :=
  ldN_holds (Holds.newB_same h i cs) hl
@[simp] theorem ldN_newB_ne (h : FH) (n i j o : Nat) (cs : List Value) (hne : j ≠ i) : ldN (newB h i cs) n (.pointer (some ⟨j, o, none⟩)) = ldN h n (.pointer (some ⟨j, o, none⟩)) := by simp [ldN, asPtr, rdCells, getCells, hne]

theorem stN_newB_same (h : FH) (n i o : Nat) (cs : List Value) (x : Value) (h1 : x.cells.size = n) (h2 : o + n ≤ cs.length) (h3 : x.cells.toList.all isFlat = true) :
    stN (newB h i cs) n (.pointer (some ⟨i, o, none⟩)) x = some (newB h i (splice cs o x.cells.toList)) := by
  have a : Nat.beq x.cells.size n = true := by rw [h1]; exact Nat.beq_refl n
  have b : Nat.ble (o + x.cells.toList.length) cs.length = true := Nat.ble_eq_true_of_le (by simpa [h1] using h2)
  simp only [stN, asPtr, Option.bind_some, a, cond_true, wrCells, get_newB_same, b, h3, Bool.and_self]
  have := newB_newB h i cs (splice cs o x.cells.toList)
  simp only [newB] at this ⊢
  rw [this]
@[simp] theorem stN_newB_ne (h : FH) (n i j o : Nat) (cs : List Value) (x : Value) (hne : j ≠ i) :
    stN (newB h i cs) n (.pointer (some ⟨j, o, none⟩)) x = (stN h n (.pointer (some ⟨j, o, none⟩)) x).map fun h' => newB h' i cs := by
  simp only [stN, asPtr, Option.bind_some]
  cases Nat.beq x.cells.size n with
  | false => rfl
  | true =>
    simp only [cond_true, wrCells, get_newB_ne h i j cs hne]
    split
    · rename_i op c _
      cases Nat.ble (o + x.cells.toList.length) c.length && x.cells.toList.all isFlat with
      | false => rfl
      | true =>
        simp only [cond_true, Option.map_some]
        congr 1
        apply FH.ext
        intro k
        have g : ∀ (h : FH) (i : Nat) (b : ABlk) (k : Nat), (HeapC.set h i b).f k = if k = i then some b else h.f k := fun h i b k => HeapC.get_set (H := FH) h i b k
        simp only [newB_f, g]
        by_cases hk : k = j
        · have h2 : ¬ k = i := by omega
          rw [if_pos hk, if_neg h2, if_pos hk]
        · rw [if_neg hk, if_neg hk]
    · rfl
@[simp] theorem stN_ptrTo (h : FH) (n i : Nat) (x : Value) : stN h n (ptrTo i) x = stN h n (.pointer (some ⟨i, 0, none⟩)) x := rfl

/-! ### What is forgotten -/
theorem mrg_f (c : Nat) (h A : FH) (i : Nat) : (mrg c h A).f i = if i < 256 * c then h.f i else A.f i := rfl
@[simp] theorem mrg_self (c : Nat) (A : FH) : mrg c A A = A := by
  apply FH.ext; intro i; rw [mrg_f]; split <;> rfl
@[simp] theorem mrg_new (c : Nat) (h A : FH) (i : Nat) (cs : List Value) (hi : 256 * c ≤ i) : mrg c (newB h i cs) A = mrg c h A := by
  apply FH.ext; intro j
  rw [mrg_f, mrg_f, newB_f]
  split
  · rw [if_neg (by omega)]
  · rfl
@[simp] theorem mrg_old (c : Nat) (h A : FH) (i : Nat) (cs : List Value) (hi : i < 256 * c) : mrg c (newB h i cs) A = newB (mrg c h A) i cs := by
  apply FH.ext; intro j
  simp only [mrg_f, newB_f]
  by_cases e : j = i
  · rw [if_pos e, if_pos e, if_pos (by omega)]
  · rw [if_neg e, if_neg e]

theorem GcH.refl (c : Nat) (A : FH) : GcH c A A := fun _ _ => .inl rfl
theorem GcH.new {c i : Nat} {h A : FH} {cs : List Value} (hi : 256 * c ≤ i) (hh : GcH c h A) : GcH c (newB h i cs) A := by
  intro j hj
  rw [newB_f, if_neg (by omega)]
  exact hh j hj
theorem GcH.old {c i : Nat} {h A : FH} {cs : List Value} (hc : OkVs c cs) (hh : GcH c h A) : GcH c (newB h i cs) A := by
  intro j hj
  rw [newB_f]
  split
  · exact .inr hc
  · exact hh j hj

/-- integers, as values -/
def ints (l : List Int) : List Value := l.map (.int .i64)
@[simp] theorem ints_length (l : List Int) : (ints l).length = l.length := by simp [ints]
theorem ints_get (l : List Int) (i : Nat) : (ints l)[i]? = l[i]?.map (.int .i64) := by simp [ints]
theorem ints_flat (l : List Int) : (ints l).all isFlat = true := by simp [ints, isFlat]
theorem OkVs.ints (c : Nat) (l : List Int) : OkVs c (ints l) := by
  intro v hv
  obtain ⟨n, _, rfl⟩ := List.mem_map.1 hv
  exact OkV.int c _ n
theorem ints_drop (l : List Int) (n : Nat) : (ints l).drop n = ints (l.drop n) := by simp [ints]
theorem ints_take (l : List Int) (n : Nat) : (ints l).take n = ints (l.take n) := by simp [ints]
theorem ints_append (l m : List Int) : ints l ++ ints m = ints (l ++ m) := by simp [ints]
theorem ints_set (l : List Int) (i : Nat) (x : Int) : (ints l).set i (.int .i64 x) = ints (l.set i x) := by simp [ints, List.map_set]
theorem splice_one (cs : List Value) (o : Nat) (v : Value) (h : o < cs.length) : splice cs o [v] = cs.set o v := by
  unfold splice
  rw [List.set_eq_take_append_cons_drop, if_pos h]
  simp

@[simp] theorem ints_getElem (l : List Int) (i : Nat) (h : i < (ints l).length) : (ints l)[i] = .int .i64 (l[i]'(by simpa using h)) := by simp [ints]

/-! ### Arrays of integers as values -/
def av (l : List Int) : Value := .agg (ints l).toArray
theorem av_flat (l : List Int) : (av l).cells.toList.all isFlat = true := by simp [av, Value.cells, ints, isFlat]
theorem av_cells (l : List Int) : (av l).cells.toList = ints l := by simp [av, Value.cells]
theorem av_size (l : List Int) : (av l).cells.size = l.length := by simp [av, Value.cells]
theorem OkV.av (c : Nat) (l : List Int) : OkV c (av l) := OkV.agg (OkVs.ints c l)
theorem ixV_av (l : List Int) (len : Nat) (k : IntKind) (i : Int) (h1 : 0 ≤ i) (h2 : i < (len : Int)) (h3 : l.length = len) : ixV len false 1 (av l) (.int k i) = some (.int .i64 (l.getD i.toNat 0)) := by
  have h4 : i.toNat < l.length := by omega
  have h5 : (ints l)[i.toNat * 1]? = some (.int .i64 (l.getD i.toNat 0)) := by rw [Nat.mul_one, ints_get, List.getElem?_eq_getElem h4]; simp [List.getD, List.getElem?_eq_getElem h4]
  simp only [ixV, av, aggL, Option.bind_some, aIdx_int h1 h2, partN, cond_false, List.toList_toArray]
  exact h5
theorem ixV_avs (l : List Int) (len sz : Nat) (k : IntKind) (i : Int) (h1 : 0 ≤ i) (h2 : i < (len : Int)) (h3 : l.length = len * sz) : ixV len true sz (av l) (.int k i) = some (av ((l.drop (i.toNat * sz)).take sz)) := by
  have h4 : i.toNat < len := by omega
  have h5 : i.toNat * sz + sz ≤ len * sz := by have := Nat.mul_le_mul_right sz (Nat.succ_le_of_lt h4); rw [Nat.succ_mul] at this; exact this
  have h6 : Nat.ble (i.toNat * sz + sz) (ints l).length = true := Nat.ble_eq_true_of_le (by simpa [h3] using h5)
  simp only [ixV, av, aggL, Option.bind_some, aIdx_int h1 h2, partN, cond_true, List.toList_toArray, h6, ints_drop, ints_take]

/-! ### What lies below the counter -/
def Same (c : Nat) (h h' : FH) : Prop := ∀ i, i < 256 * c → h'.f i = h.f i
theorem Same.refl (c : Nat) (h : FH) : Same c h h := fun _ _ => rfl
theorem Same.newB {c i : Nat} {h h' : FH} {cs : List Value} (hi : 256 * c ≤ i) (hh : Same c h h') : Same c h (newB h' i cs) := by
  intro j hj
  rw [newB_f, if_neg (by omega)]
  exact hh j hj
theorem set_f (h : FH) (i : Nat) (b : ABlk) (j : Nat) : (HeapC.set h i b).f j = if j = i then some b else h.f j := HeapC.get_set (H := FH) h i b j
theorem del_f (h : FH) (i : Nat) (j : Nat) : (HeapC.del h i).f j = if j = i then none else h.f j := HeapC.get_del (H := FH) h i j
theorem Same.set {c i : Nat} {h h' : FH} {b : ABlk} (hi : 256 * c ≤ i) (hh : Same c h h') : Same c h (HeapC.set h' i b) := by
  intro j hj
  rw [set_f, if_neg (by omega)]
  exact hh j hj
theorem Same.mono {c c' : Nat} {h h' : FH} (hc : c ≤ c') (hh : Same c' h h') : Same c h h' := fun i hi => hh i (by omega)
theorem Same.trans {c : Nat} {a b d : FH} (h : Same c a b) (k : Same c b d) : Same c a d := fun i hi => (k i hi).trans (h i hi)

/-- s reads n elements of sz integers each, all blocks below c -/
def SlI (h : FH) (c : Nat) (s : Value) (sz n : Nat) (G : List Int) : Prop :=
  G.length = n * sz ∧ n ≤ 9223372036854775807 ∧ ∃ a cap, s = .slice a n cap ∧ (n = 0 ∧ OkV c s ∨ ∃ b o cs, a = some ⟨b, o, none⟩ ∧ b < 256 * c ∧ Holds h b cs ∧ (cs.drop o).take (n * sz) = ints G)

theorem SlI.same {h h' : FH} {c : Nat} {s : Value} {sz n : Nat} {G : List Int} (hs : SlI h c s sz n G) (hh : Same c h h') : SlI h' c s sz n G := by
  obtain ⟨h1, h2, a, cap, h3, h4⟩ := hs
  refine ⟨h1, h2, a, cap, h3, h4.imp id ?_⟩
  rintro ⟨b, o, cs, e1, e2, ⟨ro, op, e3⟩, e4⟩
  exact ⟨b, o, cs, e1, e2, ⟨ro, op, (hh b e2).trans e3⟩, e4⟩
theorem SlI.mono {h : FH} {c c' : Nat} {s : Value} {sz n : Nat} {G : List Int} (hs : SlI h c s sz n G) (hc : c ≤ c') : SlI h c' s sz n G := by
  obtain ⟨h1, h2, a, cap, h3, h4⟩ := hs
  refine ⟨h1, h2, a, cap, h3, ?_⟩
  rcases h4 with ⟨e, v', hv⟩ | ⟨b, o, cs, e1, e2, e3, e4⟩
  · refine .inl ⟨e, ?_⟩
    subst h3
    cases a with
    | none => exact OkV.sl0 _ _ _
    | some a =>
      cases hv with
      | sl h _ _ => exact OkV.sl (by have := nuD_dom (c := c) (i := _) (by rw [h]; simp); omega)
      | slE h => exact OkV.sl (by have := nuD_dom (c := c) (i := _) (by rw [h]; simp); omega)
  · exact .inr ⟨b, o, cs, e1, by omega, e3, e4⟩
theorem SlI.okV {h : FH} {c : Nat} {s : Value} {sz n : Nat} {G : List Int} (hs : SlI h c s sz n G) : OkV c s := by
  obtain ⟨h1, h2, a, cap, rfl, h4⟩ := hs
  rcases h4 with ⟨e, hv⟩ | ⟨b, o, cs, rfl, e2, e3, e4⟩
  · exact hv
  · exact OkV.sl e2
theorem SlI.len {h : FH} {c : Nat} {s : Value} {sz n : Nat} {G : List Int} (hs : SlI h c s sz n G) : lenS s = some (.int .i64 n) := by
  obtain ⟨h1, h2, a, cap, rfl, h4⟩ := hs
  rfl
/-- an element's address, and what lies there -/
theorem SlI.ix {h : FH} {c : Nat} {s : Value} {sz n : Nat} {G : List Int} (hs : SlI h c s sz n G) (k : IntKind) (i : Int) (h1 : 0 ≤ i) (h2 : i < (n : Int)) :
    ∃ b o cs, ixS sz s (.int k i) = some (.pointer (some ⟨b, o + i.toNat * sz, none⟩)) ∧ b < 256 * c ∧ Holds h b cs ∧ (cs.drop o).take (n * sz) = ints G := by
  obtain ⟨g1, g2, a, cap, rfl, h4⟩ := hs
  rcases h4 with ⟨e, hv⟩ | ⟨b, o, cs, rfl, e2, e3, e4⟩
  · omega
  · exact ⟨b, o, cs, ixS_sl sz b o n cap k i h1 h2, e2, e3, e4⟩

theorem win_get {cs : List Value} {o m : Nat} {G : List Int} (e : (cs.drop o).take m = ints G) {j : Nat} (hj : j < G.length) : cs[o + j]? = some (.int .i64 (G.getD j 0)) := by
  have h1 : ((cs.drop o).take m)[j]? = some (.int .i64 (G.getD j 0)) := by
    rw [e, ints_get, List.getElem?_eq_getElem hj]; simp [List.getD, List.getElem?_eq_getElem hj]
  have hjm : j < m := by
    have := (List.getElem?_eq_some_iff.1 h1).1
    simp at this; omega
  rw [List.getElem?_take_of_lt hjm, List.getElem?_drop] at h1
  exact h1
theorem win_len {cs : List Value} {o m : Nat} {G : List Int} (e : (cs.drop o).take m = ints G) (h : 0 < G.length) : o + G.length ≤ cs.length := by
  have := congrArg List.length e
  simp at this; omega
theorem win_sub {cs : List Value} {o m : Nat} {G : List Int} (e : (cs.drop o).take m = ints G) {j q : Nat} (hj : j + q ≤ G.length) : (cs.drop (o + j)).take q = ints ((G.drop j).take q) := by
  rw [← ints_take, ← ints_drop, ← e, List.drop_take, List.drop_drop, List.take_take]
  have hm : G.length ≤ m := by have := congrArg List.length e; simp at this; omega
  congr 1
  omega
theorem ld1_win {h : FH} {b o m : Nat} {cs : List Value} {G : List Int} (hh : Holds h b cs) (e : (cs.drop o).take m = ints G) {j : Nat} (hj : j < G.length) : ld1 h (.pointer (some ⟨b, o + j, none⟩)) = some (.int .i64 (G.getD j 0)) :=
  ld1_holds hh (win_get e hj)
theorem ldN_win {h : FH} {b o m q : Nat} {cs : List Value} {G : List Int} (hh : Holds h b cs) (e : (cs.drop o).take m = ints G) {j : Nat} (hj : j + q ≤ G.length) (hq : 0 < q) : ldN h q (.pointer (some ⟨b, o + j, none⟩)) = some (av ((G.drop j).take q)) := by
  have := win_len e (by omega)
  rw [ldN_holds hh (by omega), win_sub e hj]
  rfl

theorem gcR_same {A : FH} {c : Nat} {df : List Nat} {e : Ex} {vs : List Value} {c' : Nat} (h1 : OkVs c vs) : gcR A c df { e := e, vs := vs, h := A, c := c', df := df } = { e := e, vs := vs, h := A, c := c, df := df } := by
  rw [gcR_of h1 (GcH.refl c A), mrg_self]

theorem callF_of {o : Orc FH} {g : FuncId} {args : List Value} {h h' : FH} {c c' : Nat} {v : Value} {e : Ex} {df : List Nat} (e1 : o (.fn g) args h c [] = some { e := e, vs := [v], h := h', c := c', df := df }) : callF o g args h c = some (v, h', c') := by
  simp only [callF, e1, Option.bind_some]

attribute [simp] OkV.bool OkV.int OkV.str OkV.ptr0 OkV.sl0 OkV.map0 OkV.nilFunc OkVs.nil OkVs.cons_iff OkV.av OkVs.ints OkV.ptr OkV.ptrTo OkV.sl OkV.map GcH.refl av_flat av_cells av_size

/-- x answers, and Q holds of the answer -/
def Ans {α : Type} (x : Option α) (Q : α → Prop) : Prop := ∃ r, x = some r ∧ Q r
theorem Ans.intro {α : Type} {x : Option α} {Q : α → Prop} {r : α} (h : x = some r) (hq : Q r) : Ans x Q := ⟨r, h, hq⟩
theorem Ans.mono {α : Type} {x : Option α} {Q Q' : α → Prop} (h : Ans x Q) (hq : ∀ r, Q r → Q' r) : Ans x Q' := let ⟨r, a, b⟩ := h; ⟨r, a, hq r b⟩

@[simp] theorem Ans_some {α : Type} {r : α} {Q : α → Prop} : Ans (some r) Q ↔ Q r := ⟨fun ⟨_, e, h⟩ => by cases e; exact h, fun h => ⟨r, rfl, h⟩⟩
theorem Ans.eq {α : Type} {x : Option α} {r : α} (h : Ans x (fun q => q = r)) : x = some r := by
  obtain ⟨q, e, rfl⟩ := h
  exact e

theorem gcR_pure {A h : FH} {c : Nat} {df : List Nat} {e : Ex} {vs : List Value} {c' : Nat} (h1 : OkVs c vs) (h2 : Same c A h) : gcR A c df { e := e, vs := vs, h := h, c := c', df := df } = { e := e, vs := vs, h := A, c := c, df := df } := by
  rw [gcR_of h1 (fun i hi => .inl (h2 i hi))]
  have : mrg c h A = A := by
    apply FH.ext
    intro i
    rw [mrg_f]
    split
    · rename_i hi; exact h2 i hi
    · rfl
  rw [this]

/-- a call that leaves what was there alone, and returns nothing that it has laid -/
theorem pure_of {X S : Option (Rt FH)} {h : FH} {c : Nat} {v : Value} (hgo : ∀ r, S = some r → X = some (gcR h c [] r)) (hv : OkV c v) (hS : Ans S (fun r => r.e = .ret ∧ r.vs = [v] ∧ Same c h r.h ∧ r.df = [])) :
    X = some { e := .ret, vs := [v], h := h, c := c, df := [] } := by
  obtain ⟨⟨re, rv, rh, rc, rd⟩, e, h1, h2, h3, h4⟩ := hS
  simp only at h1 h2 h3 h4
  subst h1 h2 h4
  rw [hgo _ e, gcR_pure (OkVs.cons hv (OkVs.nil c)) h3]

attribute [simp] Same.refl
@[simp] theorem Same_newB {c i : Nat} {h h' : FH} {cs : List Value} (hi : 256 * c ≤ i) : Same c h (newB h' i cs) ↔ Same c h h' := by
  refine ⟨fun hh j hj => ?_, fun hh => hh.newB hi⟩
  have := hh j hj
  rw [newB_f, if_neg (by omega)] at this
  exact this
@[simp] theorem Same_set {c i : Nat} {h h' : FH} {b : ABlk} (hi : 256 * c ≤ i) : Same c h (HeapC.set h' i b) ↔ Same c h h' := by
  refine ⟨fun hh j hj => ?_, fun hh => hh.set hi⟩
  have := hh j hj
  rw [set_f, if_neg (by omega)] at this
  exact this

attribute [simp] ints_flat ints_take ints_drop
@[simp] theorem agg_ints (l : List Int) : Value.agg (ints l).toArray = av l := rfl
@[simp] theorem takeAll_nil {H : Type} [HeapC H] (h : H) : takeAll h [] = some h := rfl

/-- B is A but for blocks below the counter that name nothing new -/
def Upto (c : Nat) (A B : FH) : Prop := ∀ i, (256 * c ≤ i → B.f i = A.f i) ∧ (i < 256 * c → B.f i = A.f i ∨ OkB c (B.f i))
@[simp] theorem Upto.refl (c : Nat) (A : FH) : Upto c A A := fun _ => ⟨fun _ => rfl, fun _ => .inl rfl⟩
theorem Upto.old {c b : Nat} {A B : FH} {cs : List Value} (hb : b < 256 * c) (hc : OkVs c cs) (h : Upto c A B) : Upto c A (newB B b cs) := by
  intro i
  rw [newB_f]
  refine ⟨fun hi => ?_, fun hi => ?_⟩
  · rw [if_neg (by omega)]; exact (h i).1 hi
  · split
    · exact .inr hc
    · exact (h i).2 hi
theorem Upto.both {c b : Nat} {A B : FH} {ds cs : List Value} (hc : OkVs c cs) (h : Upto c A B) (hb : b < 256 * c) : Upto c (newB A b ds) (newB B b cs) := by
  intro i
  rw [newB_f, newB_f]
  refine ⟨fun hi => ?_, fun hi => ?_⟩
  · rw [if_neg (by omega), if_neg (by omega)]; exact (h i).1 hi
  · by_cases e : i = b
    · rw [if_pos e]; exact .inr hc
    · rw [if_neg e, if_neg e]; exact (h i).2 hi
theorem gcR_to {A h B : FH} {c : Nat} {df : List Nat} {e : Ex} {vs : List Value} {c' : Nat} (h1 : OkVs c vs) (h2 : Same c B h) (h3 : Upto c A B) : gcR A c df { e := e, vs := vs, h := h, c := c', df := df } = { e := e, vs := vs, h := B, c := c, df := df } := by
  rw [gcR_of h1 (fun i hi => by rw [h2 i hi]; exact (h3 i).2 hi)]
  have : mrg c h A = B := by
    apply FH.ext
    intro i
    rw [mrg_f]
    split
    · rename_i hi; exact h2 i hi
    · exact ((h3 i).1 (by omega)).symm
  rw [this]
theorem gcR_upd {h : FH} {b c : Nat} {df : List Nat} {e : Ex} {vs cs cs' : List Value} {c' : Nat} (hb : b < 256 * c) (h1 : OkVs c vs) (h2 : OkVs c cs') :
    gcR (newB h b cs) c df { e := e, vs := vs, h := newB h b cs', c := c', df := df } = { e := e, vs := vs, h := newB h b cs', c := c, df := df } :=
  gcR_to h1 (Same.refl _ _) (Upto.both h2 (Upto.refl _ _) hb)

theorem ints_cons (a : Int) (l : List Int) : ints (a :: l) = .int .i64 a :: ints l := rfl
theorem ints_nil : ints [] = [] := rfl
@[simp] theorem st1_int (h : FH) (i o : Nat) (cs : List Value) (k : IntKind) (x : Int) (ho : o < cs.length) : stN (newB h i cs) 1 (.pointer (some ⟨i, o, none⟩)) (.int k x) = some (newB h i (cs.set o (.int k x))) := by
  rw [stN_newB_same h 1 i o cs (.int k x) rfl (by omega) rfl]
  show some (newB h i (splice cs o [.int k x])) = _
  rw [splice_one cs o _ ho]
@[simp] theorem st1_bool (h : FH) (i o : Nat) (cs : List Value) (x : Bool) (ho : o < cs.length) : stN (newB h i cs) 1 (.pointer (some ⟨i, o, none⟩)) (.bool x) = some (newB h i (cs.set o (.bool x))) := by
  rw [stN_newB_same h 1 i o cs (.bool x) rfl (by omega) rfl]
  show some (newB h i (splice cs o [.bool x])) = _
  rw [splice_one cs o _ ho]
@[simp] theorem ints_set' (l : List Int) (i : Nat) (x : Int) : (ints l).set i (.int .i64 x) = ints (l.set i x) := ints_set l i x
@[simp] theorem stN_all (h : FH) (i n : Nat) (cs : List Value) (l : List Int) (h1 : l.length = n) (h2 : cs.length = n) : stN (newB h i cs) n (.pointer (some ⟨i, 0, none⟩)) (av l) = some (newB h i (ints l)) := by
  rw [stN_newB_same h n i 0 cs (av l) (by simp [h1]) (by omega) (by simp)]
  simp only [av_cells, splice, List.take_zero, List.nil_append, Nat.zero_add, ints_length]
  rw [List.drop_of_length_le (by omega), List.append_nil]

@[simp] theorem isFlat_int (k : IntKind) (n : Int) : isFlat (.int k n) = true := rfl
@[simp] theorem isFlat_bool (n : Bool) : isFlat (.bool n) = true := rfl
@[simp] theorem isFlat_sl (a : Option Addr) (n k : Nat) : isFlat (.slice a n k) = true := rfl
@[simp] theorem isFlat_ptr (a : Option Addr) : isFlat (.pointer a) = true := rfl
theorem ld1_ints (h : FH) (i o : Nat) (l : List Int) (ho : o < l.length) : ld1 (newB h i (ints l)) (.pointer (some ⟨i, o, none⟩)) = some (.int .i64 (l.getD o 0)) := by
  rw [ld1_newB_same, ints_get, List.getElem?_eq_getElem ho]; simp [List.getD, List.getElem?_eq_getElem ho]
theorem bld4 (a b c d : Int) : bldV [(.int .i64 0), (.int .i64 0), (.int .i64 0), (.int .i64 0)] [(0, 1, .int .i64 a), (1, 1, .int .i64 b), (2, 1, .int .i64 c), (3, 1, .int .i64 d)] = some (av [a, b, c, d]) := (rfl)
theorem bld2 (a b : Int) : bldV [(.int .i64 0), (.int .i64 0)] [(0, 1, .int .i64 a), (1, 1, .int .i64 b)] = some (av [a, b]) := (rfl)
theorem bld5 (a : Int) (p : List Int) (hp : p.length = 4) : bldV [(.int .i64 0), (.int .i64 0), (.int .i64 0), (.int .i64 0), (.int .i64 0)] [(0, 1, .int .i64 a), (1, 4, av p)] = some (av (a :: p)) := by
  match p, hp with
  | [a, b, c, d], _ => rfl

/-! ### Step by step -/
theorem Ans.step {α β : Type} {x : Option α} {v : α} {f : α → Option β} {Q : β → Prop} (h : x = some v) (k : Ans (f v) Q) : Ans (x.bind f) Q := by rw [h]; exact k
theorem Ans.bt {β : Type} {v : Value} {x y : Option β} {Q : β → Prop} (h : v = .bool true) (k : Ans x Q) : Ans (boolK v x y) Q := by rw [h]; exact k
theorem Ans.bf {β : Type} {v : Value} {x y : Option β} {Q : β → Prop} (h : v = .bool false) (k : Ans y Q) : Ans (boolK v x y) Q := by rw [h]; exact k
theorem Ans.ct {β : Type} {b : Bool} {x y : Option β} {Q : β → Prop} (h : b = true) (k : Ans x Q) : Ans (cond b x y) Q := by rw [h]; exact k
theorem Ans.cf {β : Type} {b : Bool} {x y : Option β} {Q : β → Prop} (h : b = false) (k : Ans y Q) : Ans (cond b x y) Q := by rw [h]; exact k
theorem Ans.done {α : Type} {r : α} {Q : α → Prop} (h : Q r) : Ans (some r) Q := ⟨r, rfl, h⟩
theorem Ans.head {α β : Type} {x : Option α} {f : α → Option β} {Q : β → Prop} {R : α → Prop} (h : Ans x R) (k : ∀ a, R a → Ans (f a) Q) : Ans (x.bind f) Q := by
  obtain ⟨a, e, hr⟩ := h
  exact Ans.step e (k a hr)

@[simp] theorem ints_getD (l : List Int) (o : Nat) (h : o < l.length) : (ints l)[o]? = some (.int .i64 (l.getD o 0)) := by
  rw [ints_get, List.getElem?_eq_getElem h]; simp [List.getD, List.getElem?_eq_getElem h]

end Go.Ab

/-! Running with some calls answered by heart, over any heap. -/
namespace Go.Ab
open Go
set_option linter.unusedVariables false
set_option linter.unusedSimpArgs false
set_option linter.unusedSectionVars false

variable {H : Type} [HeapC H] {P : Program}

/-- What a table of calls is good for, over any heap. -/
def FnOKX (P : Program) (oc : Fo H) : Prop :=
  ∀ (f : FuncId) (args : List Value) (A : H) (c : Nat) (r : Rt H), oc f args A c = some r →
    (∀ avs w, (callFunc f avs).run P w = .ok (.enter f avs) w) ∧
    ∀ (μ : Mu) (w : World) (args' : List Value), VRs μ args args' → R μ A w → Fresh μ c → Calls P f args'.toArray w (CallR μ A c w r)

def answerX (P : Program) (bk : FuncId → Option AFun) (ext : Fo H) (o : Orc H) : Orc H
  | .fn f, args, h, c, df =>
    match ext f args h c with
    | some r => some r
    | none => answer P bk o (.fn f) args h c df
  | k, vs, h, c, df => answer P bk o k vs h c df

theorem OS.stepX {bk : FuncId → Option AFun} {ext : Fo H} (hbk : BookOK P bk) (hext : FnOKX P ext) {o : Orc H} {k : Nat} (hO : OS P o) (hL : LoopOK P o k) (hmix : P.follows .mixedOrders = true) : OS P (answerX P bk ext o) where
  fn := by
    intro f args A c df r e
    simp only [answerX] at e
    cases he : ext f args A c with
    | some q =>
      rw [he] at e
      cases e
      exact hext f args A c _ he
    | none =>
      rw [he] at e
      exact (OS.step hbk hO hL hmix).fn f args A c df r e
  rnd := by
    intro nt lin fr params l x y vs A c df r e μ w ts m ro n f hm ht hR hf
    exact (OS.step hbk hO hL hmix).rnd nt lin fr params l x y vs A c df r e μ w ts m ro n f hm ht hR hf

theorem LoopOK.stepX {bk : FuncId → Option AFun} {ext : Fo H} {o : Orc H} {k : Nat} (hO : OS P o) (hL : LoopOK P o k) (hmix : P.follows .mixedOrders = true) : LoopOK P (answerX P bk ext o) (k + 1) :=
  fun j lin fr b nt rd vs A c df r e => LoopOK.step (bk := bk) hO hL hmix j lin fr b nt rd vs A c df r e

def orcX (P : Program) (bk : FuncId → Option AFun) (ext : Fo H) : Nat → Orc H
  | 0 => fun _ _ _ _ _ => none
  | n + 1 => answerX P bk ext (orcX P bk ext n)

theorem orcX_ok {bk : FuncId → Option AFun} {ext : Fo H} (hbk : BookOK P bk) (hext : FnOKX P ext) (hmix : P.follows .mixedOrders = true) : ∀ n, OS P (orcX P bk ext n) ∧ LoopOK P (orcX P bk ext n) n
  | 0 => ⟨⟨(fun _ _ _ _ _ _ e => by cases e), (fun _ _ _ _ _ _ _ _ _ _ _ _ e => by cases e)⟩, fun _ _ _ _ _ _ _ _ _ _ _ e => by cases e⟩
  | n + 1 => ⟨OS.stepX hbk hext (orcX_ok hbk hext hmix n).1 (orcX_ok hbk hext hmix n).2 hmix, LoopOK.stepX (orcX_ok hbk hext hmix n).1 (orcX_ok hbk hext hmix n).2 hmix⟩

theorem answerX_ev {bk : FuncId → Option AFun} {ext : Fo H} {ox : Orc H} {os : Nat → Orc H} (hF : Fam ox os) : Fam (answerX P bk ext ox) (fun n => answerX P bk ext (os n)) := by
  intro k args h c df r e
  cases k with
  | fn f =>
    simp only [answerX] at e ⊢
    cases he : ext f args h c with
    | some q => rw [he] at e; exact Ev.const e
    | none => rw [he] at e; exact answer_ev hF _ _ _ _ _ _ e
  | rnd nt lin fr params l a b => exact answer_ev (P := P) (bk := bk) hF (.rnd nt lin fr params l a b) args h c df r e
  | lp j lin fr b nt rd => exact answer_ev (P := P) (bk := bk) hF (.lp j lin fr b nt rd) args h c df r e

theorem orcX_succ_le {bk : FuncId → Option AFun} {ext : Fo H} : ∀ n k args (h : H) c df r, orcX P bk ext n k args h c df = some r → orcX P bk ext (n + 1) k args h c df = some r
  | 0, k, args, h, c, df, r, e => by cases e
  | n + 1, k, args, h, c, df, r, e => by
    have hF : Fam (orcX P bk ext n) (fun _ => orcX P bk ext (n + 1)) := fun k args h c df r e => Ev.const (orcX_succ_le n k args h c df r e)
    obtain ⟨m, hm⟩ := answerX_ev hF k args h c df r e
    exact hm m (Nat.le_refl _)

theorem orcX_le {bk : FuncId → Option AFun} {ext : Fo H} {n m : Nat} (hnm : n ≤ m) {k : Key} {args : List Value} {h : H} {c : Nat} {df : List Nat} {r : Rt H} (e : orcX P bk ext n k args h c df = some r) : orcX P bk ext m k args h c df = some r := by
  induction hnm with
  | refl => exact e
  | step _ ih => exact orcX_succ_le _ _ _ _ _ _ _ ih

open Classical in
noncomputable def runX (P : Program) (bk : FuncId → Option AFun) (ext : Fo H) : Orc H := fun k args h c df =>
  if hx : ∃ n r, orcX P bk ext n k args h c df = some r then orcX P bk ext (Classical.choose hx) k args h c df else none

theorem runX_of {bk : FuncId → Option AFun} {ext : Fo H} {n : Nat} {k : Key} {args : List Value} {h : H} {c : Nat} {df : List Nat} {r : Rt H} (e : orcX P bk ext n k args h c df = some r) : runX P bk ext k args h c df = some r := by
  have hx : ∃ n r, orcX P bk ext n k args h c df = some r := ⟨n, r, e⟩
  unfold runX
  rw [dif_pos hx]
  obtain ⟨r', h'⟩ := Classical.choose_spec hx
  have h1 := orcX_le (Nat.le_max_left (Classical.choose hx) n) h'
  have h2 := orcX_le (Nat.le_max_right (Classical.choose hx) n) e
  rw [h1] at h2
  rw [h', h2]

theorem runX_some {bk : FuncId → Option AFun} {ext : Fo H} {k : Key} {args : List Value} {h : H} {c : Nat} {df : List Nat} {r : Rt H} (e : runX P bk ext k args h c df = some r) : ∃ n, orcX P bk ext n k args h c df = some r := by
  unfold runX at e
  split at e
  · exact ⟨_, e⟩
  · cases e

theorem runX_fam {bk : FuncId → Option AFun} {ext : Fo H} : Fam (runX P bk ext) (orcX P bk ext) := by
  intro k args h c df r e
  obtain ⟨n, hn⟩ := runX_some e
  exact ⟨n, fun m hm => orcX_le hm hn⟩

theorem runX_step {bk : FuncId → Option AFun} {ext : Fo H} {k : Key} {args : List Value} {h : H} {c : Nat} {df : List Nat} {r : Rt H} (e : answerX P bk ext (runX P bk ext) k args h c df = some r) : runX P bk ext k args h c df = some r := by
  obtain ⟨n, hn⟩ := answerX_ev (runX_fam (P := P) (bk := bk) (ext := ext)) k args h c df r e
  exact runX_of (n := n + 1) (hn n (Nat.le_refl _))

theorem orcX_lp_length {bk : FuncId → Option AFun} {ext : Fo H} : ∀ n j lin fr b nt rd vs (h : H) c df r, orcX P bk ext n (.lp j lin fr b nt rd) vs h c df = some r → r.vs.length = lin.length
  | 0, _, _, _, _, _, _, _, _, _, _, _, e => by cases e
  | n + 1, j, lin, fr, b, nt, rd, vs, h, c, df, r, e => by
    simp only [orcX, answerX, answer, Option.bind_eq_some_iff] at e
    obtain ⟨q, hq, ws, hw, e⟩ := e
    cases hq1 : q.1 with
    | normal => rw [hq1] at e; exact orcX_lp_length n j lin fr b nt rd _ _ _ _ r e
    | exit id => rw [hq1] at e; cases e; exact vals_length hw
    | ret => rw [hq1] at e; cases e; exact vals_length hw

theorem runX_olen {bk : FuncId → Option AFun} {ext : Fo H} : OLen (runX P bk ext) := fun _ _ _ _ _ _ _ _ _ _ _ e => by
  obtain ⟨n, hn⟩ := runX_some e
  exact orcX_lp_length _ _ _ _ _ _ _ _ _ _ _ _ hn

/-- **What is answered is what the call does.** -/
theorem runX_calls {bk : FuncId → Option AFun} {ext : Fo H} (hbk : BookOK P bk) (hext : FnOKX P ext) (hmix : P.follows .mixedOrders = true) {f : FuncId} {args args' : List Value} {A : H} {c : Nat} {r : Rt H} (e : runX P bk ext (.fn f) args A c [] = some r) {μ : Mu} {w : World}
    (hv : VRs μ args args') (hR : R μ A w) (hfr : Fresh μ c) : Calls P f args'.toArray w (CallR μ A c w r) := by
  obtain ⟨n, hn⟩ := runX_some e
  exact ((orcX_ok hbk hext hmix n).1.fn f args A c [] r hn).2 μ w args' hv hR hfr

theorem runX_fn {bk : FuncId → Option AFun} {ext : Fo H} {f : FuncId} {a : AFun} (ha : bk f = some a) (hfr : a.fr = []) {args : List Value} {h : H} {c : Nat} (hxt : ext f args h c = none) {df : List Nat} {r : Rt H} (hlen : Nat.ble args.length a.nt = true)
    (e : jx P (runX P bk ext) a.nt none a.code (tmOf (List.range args.length) args) h c [] (Kfn P a.res) = some r) : runX P bk ext (.fn f) args h c df = some r := by
  refine runX_step ?_
  obtain ⟨e1, tm1, tm1', h1, c1, df1, hx, hl, hk⟩ := jx_sound runX_olen e (Tm.le_refl _)
  simp only [answerX, hxt, answer, ha, Option.bind_some, hlen, cond_true, hx, hfr, dropBs]
  cases e1 with
  | exit id => cases hk
  | normal =>
    simp only [Kfn, resK_eq, Option.bind_eq_some_iff] at hk ⊢
    obtain ⟨h2, ht, vs, hv, hk⟩ := hk
    exact ⟨h2, ht, vs, resOf_le hl hv, hk⟩
  | ret =>
    simp only [Kfn, resK_eq, Option.bind_eq_some_iff] at hk ⊢
    obtain ⟨h2, ht, vs, hv, hk⟩ := hk
    exact ⟨h2, ht, vs, resOf_le hl hv, hk⟩

theorem runX_lp_next {bk : FuncId → Option AFun} {ext : Fo H} {j nt : Nat} {lin : List Nat} {b : ACode} {rd : Option Nat} {vs : List Value} {h : H} {c : Nat} {df : List Nat} {q r : Rt H}
    (e : jx P (runX P bk ext) nt rd b (tmOf lin vs) h c df (Klp lin) = some q) (hq : q.e = .normal) (k : runX P bk ext (.lp j lin [] b nt rd) q.vs q.h q.c q.df = some r) : runX P bk ext (.lp j lin [] b nt rd) vs h c df = some r := by
  refine runX_step ?_
  obtain ⟨e1, tm1, tm1', h1, c1, df1, hx, hl, hk⟩ := jx_sound runX_olen e (Tm.le_refl _)
  simp only [Klp, Option.bind_eq_some_iff] at hk
  obtain ⟨ws, hw, hk⟩ := hk
  cases hk
  simp only at hq
  subst hq
  simp only [answerX, answer, hx, Option.bind_some, vals_le hl hw, dropBs]
  exact k

theorem runX_lp_last {bk : FuncId → Option AFun} {ext : Fo H} {j nt : Nat} {lin : List Nat} {b : ACode} {rd : Option Nat} {vs : List Value} {h : H} {c : Nat} {df : List Nat} {q : Rt H}
    (e : jx P (runX P bk ext) nt rd b (tmOf lin vs) h c df (Klp lin) = some q) (hq : q.e ≠ .normal) : runX P bk ext (.lp j lin [] b nt rd) vs h c df = some q := by
  refine runX_step ?_
  obtain ⟨e1, tm1, tm1', h1, c1, df1, hx, hl, hk⟩ := jx_sound runX_olen e (Tm.le_refl _)
  simp only [Klp, Option.bind_eq_some_iff] at hk
  obtain ⟨ws, hw, hk⟩ := hk
  cases hk
  simp only at hq
  simp only [answerX, answer, hx, Option.bind_some, vals_le hl hw, dropBs]

theorem runX_rnd {bk : FuncId → Option AFun} {ext : Fo H} {nt l : Nat} {lin params : List Nat} {a b : ACode} {vs : List Value} {h : H} {c : Nat} {df : List Nat} {r : Rt H}
    (e : jx P (runX P bk ext) nt (some l) a (tmOf (params ++ lin) vs) h c [] (fun e tm h c df => match e with
      | .normal => (beginSt h l).bind fun h1 => jx P (runX P bk ext) nt (some l) b tm h1 c df (Krd l)
      | .exit _ => none
      | .ret => none) = some r) : runX P bk ext (.rnd nt lin [] params l a b) vs h c df = some r := by
  refine runX_step ?_
  obtain ⟨e1, tm1, tm1', h1, c1, df1, hx, hl, hk⟩ := jx_sound runX_olen e (Tm.le_refl _)
  cases e1 with
  | exit id => cases hk
  | ret => cases hk
  | normal =>
    simp only [Option.bind_eq_some_iff] at hk
    obtain ⟨h2, hb, hk⟩ := hk
    obtain ⟨e3, tm3, tm3', h3, c3, df3, hx3, hl3, hk3⟩ := jx_sound runX_olen hk hl
    simp only [answerX, answer, hx, Option.bind_some, hb, hx3, dropBs]
    exact hk3

theorem runX_ext {bk : FuncId → Option AFun} {ext : Fo H} {f : FuncId} {args : List Value} {h : H} {c : Nat} {df : List Nat} {r : Rt H} (e : ext f args h c = some r) : runX P bk ext (.fn f) args h c df = some r := by
  refine runX_step ?_
  simp only [answerX, e]

/-- a table of functions, some of them answered by heart -/
structure TabX (P : Program) (bk : FuncId → Option AFun) (K : LB) (ext : Fo H) (T : Tab H) : Prop where
  F : ∀ f F, T.F f = some F → ((∀ args h c, ext f args h c = none) ∧ FE P bk K f F) ∨ (∀ o args h c r, F o args h c = some r → ext f args h c = some r ∧ r.h = h)
  L : ∀ j B, T.L j = some B → LE P K j B
  R : ∀ nt ps D, T.R nt ps = some D → RE P K nt ps D

theorem evX_good {bk : FuncId → Option AFun} {K : LB} {ext : Fo H} {T : Tab H} (hT : TabX P bk K ext T) : ∀ n, GoodO K (evT T n) (runX P bk ext)
  | 0 => fun _ _ _ _ _ _ _ _ e => by cases e
  | n + 1 => by
    have ih := evX_good hT n
    intro key args h c df r hk hi e
    cases key with
    | fn f =>
      simp only [evT_succ, Option.bind_eq_some_iff] at e
      obtain ⟨F, hF, e⟩ := e
      rcases hT.F f F hF with ⟨hx, a, ha, hfr, hok, h1⟩ | h1
      · obtain ⟨hlen, h2⟩ := h1 _ _ _ _ _ e
        obtain ⟨e1, tm1, h3, c1, df1, h4, h5, h6⟩ := jx_good ih hok hi h2
        exact ⟨runX_fn ha hfr (hx _ _ _) hlen (by rw [h6]; exact h4), Kfn_inv h5 h4⟩
      · obtain ⟨h2, h3⟩ := h1 _ _ _ _ _ e
        exact ⟨runX_ext h2, by rw [h3]; exact hi⟩
    | lp j lin fr b nt rd =>
      obtain ⟨rfl, hkl⟩ := hk
      simp only [evT_succ, Option.bind_eq_some_iff] at e
      obtain ⟨B, hB, q, hq, e⟩ := e
      obtain ⟨hok, h1⟩ := hT.L j B hB lin b nt hkl
      have h2 := h1 _ _ _ _ _ _ _ hq
      obtain ⟨e1, tm1, h3, c1, df1, h4, h5, h6⟩ := jx_good ih hok hi h2
      have h7 : jx P (runX P bk ext) nt rd b (tmOf lin args) h c df (Klp lin) = some q := by rw [h6]; exact h4
      have hqe : q.e = e1 ∧ InvL K q.h := by
        simp only [Klp, Option.bind_eq_some_iff] at h4
        obtain ⟨ws, _, h4⟩ := h4
        cases h4
        exact ⟨rfl, h5⟩
      cases hx : q.e with
      | normal =>
        rw [hx] at e
        obtain ⟨h8, h9⟩ := ih (.lp j lin [] b nt rd) _ _ _ _ _ ⟨rfl, hkl⟩ hqe.2 e
        exact ⟨runX_lp_next h7 hx h8, h9⟩
      | exit i =>
        rw [hx] at e
        have : r = q := by obtain ⟨qe, qv, qh, qc, qd⟩ := q; simp only at hx; subst hx; cases e; rfl
        subst this
        exact ⟨runX_lp_last h7 (by rw [hx]; simp), hqe.2⟩
      | ret =>
        rw [hx] at e
        have : r = q := by obtain ⟨qe, qv, qh, qc, qd⟩ := q; simp only at hx; subst hx; cases e; rfl
        subst this
        exact ⟨runX_lp_last h7 (by rw [hx]; simp), hqe.2⟩
    | rnd nt lin fr params l a b =>
      obtain ⟨rfl, hkr⟩ := hk
      simp only [evT_succ, Option.bind_eq_some_iff] at e
      obtain ⟨D, hD, e⟩ := e
      obtain ⟨hoa, hob, h1⟩ := hT.R nt params D hD lin a b hkr
      have h2 := h1 _ _ _ _ _ _ e
      obtain ⟨e1, tm1, h3, c1, df1, h4, h5, h6⟩ := jx_good ih hoa hi h2
      cases e1 with
      | exit i => cases h4
      | ret => cases h4
      | normal =>
        simp only [rndK, Option.bind_eq_some_iff] at h4
        obtain ⟨h7, hb, h8⟩ := h4
        obtain ⟨e2, tm2, h9, c2, df2, h10, h11, h12⟩ := jx_good ih hob (beginSt_inv h5 hb) h8
        refine ⟨runX_rnd (by rw [h6]; simp only [hb, Option.bind_some]; rw [h12]; exact h10), ?_⟩
        simp only [Krd, Option.bind_eq_some_iff] at h10
        obtain ⟨h13, hs, h14⟩ := h10
        obtain ⟨_, h14⟩ := cond_some h14
        cases h14
        exact setState_inv h11 hs

/-- values without pointers -/
def Plain : Value → Value → Prop := fun v v' => v' = v ∧ ∀ μ, VR μ v v

/-- a call whose arguments hold no pointers, and whose answer holds none, found on any heap, answers anywhere -/
theorem plain_ok {H' : Type} [HeapC H'] {f : FuncId} {args args0 : List Value} {v : Value} {A0 : H'} {r0 : Rt H'} (hv : r0.vs = [v])
    (hargs : ∀ (μ : Mu) (args' : List Value), VRs μ args args' → VRs (fun _ => none) args args') (hres : ∀ (μ μ' : Mu) (v' : Value), VR μ v v' → VR μ' v v')
    (e : ∀ (μ : Mu) (w : World) (args' : List Value), VRs μ args args' → R μ A0 w → Fresh μ 0 → Calls P f args'.toArray w (CallR μ A0 0 w r0))
    (A : H) (c : Nat) (μ : Mu) (w : World) (args' : List Value) (ha : VRs μ args args') (hR : R μ A w) (hf : Fresh μ c) : Calls P f args'.toArray w (CallR μ A c w { e := .ret, vs := [v], h := A, c := c, df := [] }) := by
  have h0 : R (fun _ => none : Mu) A0 w := ⟨(fun i m e => by cases e), (fun i j mi mj ei => by cases ei), (fun i m e => by cases e)⟩
  refine (e _ w args' (hargs μ args' ha) h0 (fun i hi => rfl)).mono ?_
  rintro en w' ⟨u, v', μ', h1, h2, h3, hE⟩
  rw [hv] at h1
  cases h1
  have hfr : ∀ b, b < w.heap.size → w'.heap[b]? = w.heap[b]? := fun b hb => hE.fr b hb (fun i m e => (by cases e))
  refine ⟨_, v', μ, rfl, h2, hres μ' μ v' h3, ?_⟩
  refine { mu := fun i m e => e, new := fun i e0 e1 => absurd e0 e1, cle := Nat.le_refl _, rel := ?_, af := fun i e0 hi _ => rfl, os := hE.os, tape := hE.tape, output := hE.output, size := hE.size, fr := fun b hb _ => hfr b hb, wrm := fun i m e hw => hw, newb := fun i m e0 e1 => (by rw [e0] at e1; cases e1), dd := fun i m e hd => hd }
  refine ⟨fun i m em => ?_, hR.inj, fun i m em => Nat.lt_of_lt_of_le (hR.lt i m em) hE.size⟩
  have hb := hR.blk i m em
  have hl := hR.lt i m em
  unfold BlkR at hb ⊢
  rw [hfr m.b hl]
  exact hb

end Go.Ab

/-! Permutations of four, computed fast. -/
namespace Go.Ab
open Go
set_option linter.unusedVariables false
set_option linter.unusedSimpArgs false

/-- one of four, by a number below 4 -/
def s4 {α β : Type} (a b c d : α) (x : Nat) (k : α → Option β) : Option β :=
  cond (Nat.beq x 0) (k a) (cond (Nat.beq x 1) (k b) (cond (Nat.beq x 2) (k c) (cond (Nat.beq x 3) (k d) none)))

theorem s4_some {α β : Type} {a b c d : α} {x : Nat} {k : α → Option β} {r : β} (e : s4 a b c d x k = some r) : x < 4 ∧ k ([a, b, c, d].getD x a) = some r := by
  unfold s4 at e
  match x, e with
  | 0, e => exact ⟨by omega, e⟩
  | 1, e => exact ⟨by omega, e⟩
  | 2, e => exact ⟨by omega, e⟩
  | 3, e => exact ⟨by omega, e⟩
  | n + 4, e => cases e

/-- the four entries of a value -/
noncomputable def perm4 {β : Type} (v : Value) (k : Nat → Nat → Nat → Nat → Option β) : Option β :=
  match v with
  | .agg ⟨[.int .i64 (.ofNat a), .int .i64 (.ofNat b), .int .i64 (.ofNat c), .int .i64 (.ofNat d)]⟩ => k a b c d
  | _ => none

theorem perm4_some {β : Type} {v : Value} {k : Nat → Nat → Nat → Nat → Option β} {r : β} (e : perm4 v k = some r) : ∃ a b c d : Nat, v = av [(a : Int), (b : Int), (c : Int), (d : Int)] ∧ k a b c d = some r := by
  unfold perm4 at e
  split at e
  · exact ⟨_, _, _, _, rfl, e⟩
  · cases e

noncomputable def fastValid (v : Value) : Option Value := perm4 v fun a b c d =>
  s4 1 2 4 8 a fun a => s4 1 2 4 8 b fun b => s4 1 2 4 8 c fun c => s4 1 2 4 8 d fun d => cond (Nat.beq (a + b + c + d) 15) (some (.bool true)) (some (.bool false))

def whereIs {β : Type} (a b c d j : Nat) (k : Int → Option β) : Option β :=
  cond (Nat.beq a j) (k 0) (cond (Nat.beq b j) (k 1) (cond (Nat.beq c j) (k 2) (cond (Nat.beq d j) (k 3) none)))

noncomputable def invN (a b c d : Nat) : Option (List Int) := whereIs a b c d 0 fun i => whereIs a b c d 1 fun j => whereIs a b c d 2 fun k => whereIs a b c d 3 fun l => some [i, j, k, l]
noncomputable def below4 {β : Type} (a : Nat) (k : Option β) : Option β := cond (Nat.blt a 4) k none
theorem below4_some {β : Type} {a : Nat} {k : Option β} {r : β} (e : below4 a k = some r) : a < 4 ∧ k = some r := by
  obtain ⟨h1, h2⟩ := cond_some e
  exact ⟨Nat.le_of_ble_eq_true h1, h2⟩
def listV : List Int → List Value
  | [] => []
  | x :: xs => .int .i64 x :: listV xs
theorem listV_eq (l : List Int) : listV l = ints l := by
  induction l with
  | nil => rfl
  | cons x l ih => rw [listV, ih]; rfl
noncomputable def fastInv (v : Value) : Option Value := perm4 v fun a b c d => below4 a <| below4 b <| below4 c <| below4 d <| (invN a b c d).bind fun l => some (.agg ⟨listV l⟩)

noncomputable def fastComp (v w : Value) : Option Value := perm4 v fun a b c d => perm4 w fun x y z u =>
  s4 a b c d x fun i => s4 a b c d y fun j => s4 a b c d z fun k => s4 a b c d u fun l =>
    some (.agg ⟨[.int .i64 (.ofNat i), .int .i64 (.ofNat j), .int .i64 (.ofNat k), .int .i64 (.ofNat l)]⟩)

/-- plain values answer in any relation -/
theorem av_vr {μ μ' : Mu} {l : List Int} {v' : Value} (h : VR μ (av l) v') : VR μ' (av l) v' := by
  obtain ⟨cs', rfl, h2⟩ := h.agg_left
  refine VR.agg_iff.2 ?_
  have : ∀ (l : List Int) (ys : List Value), VRs μ (ints l) ys → VRs μ' (ints l) ys := by
    intro l
    induction l with
    | nil => intro ys h; rw [h.nil_left]; exact VRs.nil _
    | cons x l ih =>
      intro ys h
      obtain ⟨y, zs, rfl, h1, h2⟩ := h.left
      obtain rfl := h1.int_left
      exact VRs.cons (.int _ _) (ih _ h2)
  exact this l _ h2

theorem av_vrs1 {μ μ' : Mu} {l : List Int} {ys : List Value} (h : VRs μ [av l] ys) : VRs μ' [av l] ys := by
  obtain ⟨y, zs, rfl, h1, h2⟩ := h.left
  rw [h2.nil_left]
  exact VRs.cons (av_vr h1) (VRs.nil _)
theorem av_vrs2 {μ μ' : Mu} {l m : List Int} {ys : List Value} (h : VRs μ [av l, av m] ys) : VRs μ' [av l, av m] ys := by
  obtain ⟨y, zs, rfl, h1, h2⟩ := h.left
  exact VRs.cons (av_vr h1) (av_vrs1 h2)
theorem bool_vr {μ μ' : Mu} {b : Bool} {v' : Value} (h : VR μ (.bool b) v') : VR μ' (.bool b) v' := by
  rw [h.bool_left]; exact .bool _

/-- all below 4, by going through them -/
theorem all256 {Q : Nat → Nat → Nat → Nat → Bool} (h : ((List.range 256).all fun n => Q (n / 64) (n / 16 % 4) (n / 4 % 4) (n % 4)) = true) {a b c d : Nat} (ha : a < 4) (hb : b < 4) (hc : c < 4) (hd : d < 4) : Q a b c d = true := by
  have := List.all_eq_true.1 h (64 * a + 16 * b + 4 * c + d) (by simp; omega)
  have e1 : (64 * a + 16 * b + 4 * c + d) / 64 = a := by omega
  have e2 : (64 * a + 16 * b + 4 * c + d) / 16 % 4 = b := by omega
  have e3 : (64 * a + 16 * b + 4 * c + d) / 4 % 4 = c := by omega
  have e4 : (64 * a + 16 * b + 4 * c + d) % 4 = d := by omega
  simpa only [e1, e2, e3, e4] using this

theorem fastValid_some {v r : Value} (e : fastValid v = some r) : ∃ a b c d : Nat, v = av [(a : Int), (b : Int), (c : Int), (d : Int)] ∧ a < 4 ∧ b < 4 ∧ c < 4 ∧ d < 4 ∧ r = .bool (Nat.beq (2 ^ a + 2 ^ b + 2 ^ c + 2 ^ d) 15) := by
  obtain ⟨a, b, c, d, hv, e0⟩ := perm4_some e
  clear e
  subst hv
  have e := e0
  clear e0
  obtain ⟨h1, e⟩ := s4_some (α := Nat) (β := Value) e
  obtain ⟨h2, e⟩ := s4_some (α := Nat) (β := Value) e
  obtain ⟨h3, e⟩ := s4_some (α := Nat) (β := Value) e
  obtain ⟨h4, e⟩ := s4_some (α := Nat) (β := Value) e
  have p : ∀ x : Nat, x < 4 → [1, 2, 4, 8].getD x 1 = 2 ^ x := by
    intro x hx
    match x, hx with
    | 0, _ => rfl
    | 1, _ => rfl
    | 2, _ => rfl
    | 3, _ => rfl
    | n + 4, h => omega
  rw [p a h1, p b h2, p c h3, p d h4] at e
  refine ⟨a, b, c, d, rfl, h1, h2, h3, h4, ?_⟩
  cases hh : Nat.beq (2 ^ a + 2 ^ b + 2 ^ c + 2 ^ d) 15 with
  | true => rw [hh] at e; cases e; rfl
  | false => rw [hh] at e; cases e; rfl

theorem fastInv_some {v r : Value} (e : fastInv v = some r) : ∃ (a b c d : Nat) (l : List Int), v = av [(a : Int), (b : Int), (c : Int), (d : Int)] ∧ a < 4 ∧ b < 4 ∧ c < 4 ∧ d < 4 ∧ invN a b c d = some l ∧ r = av l := by
  obtain ⟨a, b, c, d, hv, e0⟩ := perm4_some e
  clear e
  subst hv
  obtain ⟨h1, e⟩ := below4_some e0
  obtain ⟨h2, e⟩ := below4_some e
  obtain ⟨h3, e⟩ := below4_some e
  obtain ⟨h4, e⟩ := below4_some e
  simp only [Option.bind_eq_some_iff] at e
  obtain ⟨l, hl, e⟩ := e
  rw [listV_eq] at e
  cases e
  exact ⟨a, b, c, d, l, rfl, h1, h2, h3, h4, hl, rfl⟩

theorem fastComp_some {v w r : Value} (e : fastComp v w = some r) : ∃ a b c d x y z u : Nat, v = av [(a : Int), (b : Int), (c : Int), (d : Int)] ∧ w = av [(x : Int), (y : Int), (z : Int), (u : Int)] ∧ x < 4 ∧ y < 4 ∧ z < 4 ∧ u < 4 ∧
    r = av ([(x : Int), (y : Int), (z : Int), (u : Int)].map fun t => [(a : Int), (b : Int), (c : Int), (d : Int)].getD t.toNat 0) := by
  obtain ⟨a, b, c, d, hv, e0⟩ := perm4_some e
  obtain ⟨x, y, z, u, hw, e1⟩ := perm4_some e0
  clear e e0
  subst hv hw
  have e := e1
  clear e1
  obtain ⟨h1, e⟩ := s4_some (α := Nat) (β := Value) e
  obtain ⟨h2, e⟩ := s4_some (α := Nat) (β := Value) e
  obtain ⟨h3, e⟩ := s4_some (α := Nat) (β := Value) e
  obtain ⟨h4, e⟩ := s4_some (α := Nat) (β := Value) e
  cases e
  refine ⟨a, b, c, d, x, y, z, u, rfl, rfl, h1, h2, h3, h4, ?_⟩
  have p : ∀ t : Nat, t < 4 → [(a : Int), (b : Int), (c : Int), (d : Int)].getD (t : Int).toNat 0 = (([a, b, c, d].getD t a : Nat) : Int) := by
    intro t ht
    match t, ht with
    | 0, _ => rfl
    | 1, _ => rfl
    | 2, _ => rfl
    | 3, _ => rfl
    | n + 4, h => omega
  simp only [List.map_cons, List.map_nil]
  rw [p x h1, p y h2, p z h3, p u h4]
  rfl
end Go.Ab

/-! Gluings as lists of numbers: permutations, faces, what Check says. -/
namespace Go.Ab
open Go
set_option maxRecDepth 100000
set_option linter.unusedVariables false
set_option linter.unusedSimpArgs false

def orB (a b : Int) : Int := IntKind.i64.wrap ((BitVec.ofInt 64 a ||| BitVec.ofInt 64 b).toNat)

def shB (x : Int) : Int := IntKind.i64.wrap (1 * 2 ^ (min x.toNat 64))

/-- what the loop of Valid comes to from some entries on -/
def validL : List Int → Int → Option Int
  | [], m => some m
  | x :: xs, m => if x < 0 ∨ 3 < x then none else validL xs (orB m (shB x))

def validB (p : List Int) : Bool := decide (validL p 0 = some 15)

/-- what the loop of inverse lays -/
def invL : List Int → Nat → List Int → List Int
  | [], _, out => out
  | x :: xs, i, out => invL xs (i + 1) (out.set x.toNat i)

theorem invL_length : ∀ (p : List Int) (i : Nat) (out : List Int), (invL p i out).length = out.length
  | [], _, _ => rfl
  | x :: xs, i, out => by rw [invL, invL_length]; simp

def inv (p : List Int) : List Int := invL p 0 [0, 0, 0, 0]

def InR (p : List Int) : Prop := ∀ x ∈ p, 0 ≤ x ∧ x < 4

def comp (p q : List Int) : List Int := q.map fun x => p.getD x.toNat 0

/-- what lies at a face -/
def faceL (Gl : List Int) (t f : Nat) : List Int := (Gl.drop (20 * t + 5 * f)).take 5

def rowL (Gl : List Int) (t : Nat) : List Int := (Gl.drop (20 * t)).take 20

theorem faceL_length {Gl : List Int} {n t f : Nat} (hG : Gl.length = n * 20) (ht : t < n) (hf : f < 4) : (faceL Gl t f).length = 5 := by
  simp [faceL]; omega

theorem rowL_length {Gl : List Int} {n t : Nat} (hG : Gl.length = n * 20) (ht : t < n) : (rowL Gl t).length = 20 := by
  simp [rowL]; omega

theorem row_face {Gl : List Int} {t f : Nat} (hf : f < 4) : ((rowL Gl t).drop (f * 5)).take 5 = faceL Gl t f := by
  unfold rowL faceL
  rw [List.drop_take, List.drop_drop, List.take_take]
  congr 1
  · omega
  · congr 1; omega

theorem Ans.bind {α β : Type} {x : Option α} {f : α → Option β} {Q : β → Prop} (h : Ans x (fun a => Ans (f a) Q)) : Ans (x.bind f) Q := by
  obtain ⟨a, e, b, e2, hq⟩ := h
  exact ⟨b, by rw [e]; exact e2, hq⟩

theorem validL_range : ∀ (p : List Int) (m m' : Int), validL p m = some m' → InR p
  | [], _, _, _ => fun x hx => by cases hx
  | x :: xs, m, m', e => by
    simp only [validL] at e
    by_cases h : x < 0 ∨ 3 < x
    · rw [if_pos h] at e; cases e
    · rw [if_neg h] at e
      intro y hy
      rcases List.mem_cons.1 hy with rfl | hy
      · omega
      · exact validL_range xs _ _ e y hy

theorem validB_range {p : List Int} (h : validB p = true) : InR p := by
  unfold validB at h
  exact validL_range p 0 15 (by simpa using h)

def tetL (x : List Int) : Int := x.getD 0 0

def permL (x : List Int) : List Int := (x.drop 1).take 4

theorem permL_length {x : List Int} (h : x.length = 5) : (permL x).length = 4 := by simp [permL, h]

def noneL : List Int := [-1, 0, 0, 0, 0]

/-- a face is glued as it should be -/
def okFace (Gl : List Int) (n t f : Nat) : Bool :=
  decide (faceL Gl t f = noneL) ||
  (decide (0 ≤ tetL (faceL Gl t f)) && decide (tetL (faceL Gl t f) < n) && validB (permL (faceL Gl t f)) &&
   !(decide (tetL (faceL Gl t f) = t) && decide ((permL (faceL Gl t f)).getD f 0 = f)) &&
   decide (faceL Gl (tetL (faceL Gl t f)).toNat ((permL (faceL Gl t f)).getD f 0).toNat = (t : Int) :: inv (permL (faceL Gl t f))))

/-- all faces are glued as they should be -/
def okUpTo (Gl : List Int) (n : Nat) (k : Nat) : Prop := ∀ j, j < k → okFace Gl n (j / 4) (j % 4) = true

def okAll (Gl : List Int) (n : Nat) : Bool := (List.range (4 * n)).all fun j => okFace Gl n (j / 4) (j % 4)

theorem okAll_iff (Gl : List Int) (n : Nat) : okAll Gl n = true ↔ okUpTo Gl n (4 * n) := by simp [okAll, okUpTo]

theorem validB_eq {a b c d : Nat} (ha : a < 4) (hb : b < 4) (hc : c < 4) (hd : d < 4) : validB [(a : Int), (b : Int), (c : Int), (d : Int)] = Nat.beq (2 ^ a + 2 ^ b + 2 ^ c + 2 ^ d) 15 := by
  have h := all256 (Q := fun a b c d => validB [(a : Int), (b : Int), (c : Int), (d : Int)] == Nat.beq (2 ^ a + 2 ^ b + 2 ^ c + 2 ^ d) 15) (by kernel_rfl) ha hb hc hd
  simpa using h

theorem inv_eq {a b c d : Nat} {l : List Int} (ha : a < 4) (hb : b < 4) (hc : c < 4) (hd : d < 4) (h : invN a b c d = some l) : inv [(a : Int), (b : Int), (c : Int), (d : Int)] = l := by
  have h1 := all256 (Q := fun a b c d => match invN a b c d with | some l => inv [(a : Int), (b : Int), (c : Int), (d : Int)] == l | none => true) (by kernel_rfl) ha hb hc hd
  rw [h] at h1
  simpa using h1

theorem inR4 {a b c d : Nat} (ha : a < 4) (hb : b < 4) (hc : c < 4) (hd : d < 4) : InR [(a : Int), (b : Int), (c : Int), (d : Int)] := by
  intro t ht
  simp only [List.mem_cons, List.not_mem_nil, or_false] at ht
  omega

def bools (l : List Bool) : List Value := l.map .bool
theorem bools_length (l : List Bool) : (bools l).length = l.length := by simp [bools]
theorem OkVs.bools (c : Nat) (l : List Bool) : OkVs c (bools l) := by
  intro v hv
  simp only [Go.Ab.bools, List.mem_map] at hv
  obtain ⟨b, _, rfl⟩ := hv
  exact OkV.bool c b
theorem bools_set (l : List Bool) (i : Nat) (x : Bool) : (bools l).set i (.bool x) = bools (l.set i x) := by simp [bools, List.map_set]
theorem bools_get (l : List Bool) (o : Nat) (h : o < l.length) : (bools l)[o]? = some (.bool (l.getD o false)) := by
  simp [bools, List.getD, List.getElem?_eq_getElem h]

/-- Valid of the reference, from some entries on -/
def refV : List Int → List Bool → Bool
  | [], _ => true
  | x :: xs, met => if x < 0 ∨ 3 < x then false else if met.getD x.toNat false = true then false else refV xs (met.set x.toNat true)


theorem refV_out : ∀ (p : List Int) (m : List Bool), (∃ x ∈ p, x < 0 ∨ 3 < x) → refV p m = false
  | [], m, h => by obtain ⟨x, hx, _⟩ := h; cases hx
  | y :: p, m, h => by
    unfold refV
    by_cases h1 : y < 0 ∨ 3 < y
    · rw [if_pos h1]
    · rw [if_neg h1]
      split
      · rfl
      · refine refV_out p _ ?_
        obtain ⟨x, hx, h2⟩ := h
        rcases List.mem_cons.1 hx with rfl | hx
        · exact absurd h2 h1
        · exact ⟨x, hx, h2⟩
theorem validB_out {p : List Int} (h : ∃ x ∈ p, x < 0 ∨ 3 < x) : validB p = false := by
  cases hv : validB p with
  | false => rfl
  | true =>
    obtain ⟨x, hx, h2⟩ := h
    have := validB_range hv x hx
    omega
theorem refV_eq (p : List Int) (hp : p.length = 4) : refV p [false, false, false, false] = validB p := by
  by_cases h : ∃ x ∈ p, x < 0 ∨ 3 < x
  · rw [refV_out p _ h, validB_out h]
  · match p, hp with
    | [a, b, c, d], _ =>
      have hh : ∀ x ∈ [a, b, c, d], 0 ≤ x ∧ x < 4 := fun x hx => by
        by_cases h2 : x < 0 ∨ 3 < x
        · exact absurd ⟨x, hx, h2⟩ h
        · omega
      have ha := hh a (by simp)
      have hb := hh b (by simp)
      have hc := hh c (by simp)
      have hd := hh d (by simp)
      have := all256 (Q := fun a b c d => refV [(a : Int), (b : Int), (c : Int), (d : Int)] [false, false, false, false] == validB [(a : Int), (b : Int), (c : Int), (d : Int)]) (by kernel_rfl)
        (a := a.toNat) (b := b.toNat) (c := c.toNat) (d := d.toNat) (by omega) (by omega) (by omega) (by omega)
      simp only [beq_iff_eq] at this
      have ea : ((a.toNat : Nat) : Int) = a := by omega
      have eb : ((b.toNat : Nat) : Int) = b := by omega
      have ec : ((c.toNat : Nat) : Int) = c := by omega
      have ed : ((d.toNat : Nat) : Int) = d := by omega
      rw [ea, eb, ec, ed] at this
      exact this
end Go.Ab

namespace Go.Proofs.Ytemkjcpfgmbibaa
open Go Go.Ab Go.Proofs
set_option maxRecDepth 100000
set_option linter.unusedVariables false
set_option linter.unusedSimpArgs false


theorem aBinOp_or (t : TypeId) (a b : Int) : aBinOp P .or t (.int .i64 a) (.int .i64 b) = some (.int .i64 (orB a b)) := by rw [aBinOp_eq]; simp [aBinOp0, intBin, orB]; rfl
theorem aBinOp_shl1 (t : TypeId) (x : Int) (h : 0 ≤ x) : aBinOp P .shl t (.int .i64 1) (.int .i64 x) = some (.int .i64 (shB x)) := by
  rw [aBinOp_eq]
  have : ¬ x < 0 := by omega
  simp [aBinOp0, shiftBin, shB, this]; rfl

theorem valid_loop (p : List Int) (hp : p.length = 4) (h : FH) (c : Nat) (df : List Nat) : ∀ (k i : Nat) (m : Int), i + k = 4 →
    Ans (G (f60_k60000 none) [.bool false, .int .i64 m, av p, .int .i64 i] h c df) fun r => r.h = h ∧ r.c = c ∧ r.df = df ∧
      (match validL (p.drop i) m with
        | some m' => r.e = .exit 0 ∧ r.v 1 = .int .i64 m'
        | none => r.e = .ret ∧ r.v 0 = .bool false) := by
  intro k
  induction k with
  | zero =>
    intro i m hi
    obtain rfl : i = 4 := by omega
    rw [List.drop_of_length_le (by omega)]
    have e1 : ¬ ((4 : Nat) : Int) < 4 := by omega
    refine .intro (f60_Z60000 (q := ⟨.exit 0, [.bool false, .int .i64 m, av p, .int .i64 (4 : Nat)], h, c + 1, df⟩) (by unfold f60_L60000; simp [e1]) (by simp)) ?_
    rw [gcR_same (by simp)]
    simp [validL]
  | succ k ih =>
    intro i m hi
    have hlt : i < p.length := by omega
    have e0 : (i : Int) < 4 := by omega
    rw [List.drop_eq_getElem_cons hlt]
    have hx : p.getD i 0 = p[i] := by simp [List.getD, List.getElem?_eq_getElem hlt]
    by_cases hc : p[i] < 0 ∨ 3 < p[i]
    · simp only [validL, hc, if_true]
      refine .intro (f60_Z60000 (q := ⟨.ret, [.bool false, .int .i64 m, av p, .int .i64 i], h, _, df⟩) (by
        unfold f60_L60000
        by_cases h1 : p[i] < 0
        · simp (disch := omega) [e0, ixV_av, hx, h1, -List.getD_eq_getElem?_getD]; rfl
        · have h2 : 3 < p[i] := by omega
          simp (disch := omega) [e0, ixV_av, hx, h1, h2, -List.getD_eq_getElem?_getD] <;> rfl) (by simp)) ?_
      rw [gcR_same (by simp)]
      simp
    · have h1 : ¬ p[i] < 0 := by omega
      have h2 : ¬ 3 < p[i] := by omega
      simp only [validL, hc, if_false]
      obtain ⟨r, hr, hq⟩ := ih (i + 1) (orB m (shB p[i])) (by omega)
      refine .intro (f60_N60000 (q := ⟨.normal, [.bool false, .int .i64 (orB m (shB p[i])), av p, .int .i64 (i + 1 : Nat)], h, c + 1 + 1 + 1 + 1 + 1, df⟩) (by
        unfold f60_L60000
        simp (disch := omega) [e0, ixV_av, hx, h1, h2, aBinOp_shl1 _ p[i] (by omega), aBinOp_or, -List.getD_eq_getElem?_getD]) rfl ?_) hq
      rw [gcR_same (by simp)]
      exact hr

theorem valid_sp (p : List Int) (hp : p.length = 4) (h : FH) (c : Nat) (df : List Nat) :
    G (.fn 60) [av p] h c df = some { e := .ret, vs := [.bool (validB p)], h := h, c := c, df := [] } := by
  refine pure_of (fun r e => f60_go e) (by simp) ?_
  obtain ⟨⟨re, rv, rh, rc, rd⟩, hr, h1, h2, h3, h4⟩ := valid_loop p hp (newB h (256 * c) (ints p)) (c + 1 + 1 + 1) [] 4 0 0 rfl
  simp only at h1 h2 h3
  subst h1 h2 h3
  unfold f60_S
  simp only [List.drop_zero] at h4
  have e1 : p.take 4 = p := List.take_of_length_le (by omega)
  simp only [Int.ofNat_eq_natCast, Int.cast_ofNat_Int] at hr
  unfold validB
  cases hv : validL p 0 with
  | none =>
    rw [hv] at h4
    obtain ⟨rfl, h5⟩ := h4
    simp [hr, e1, hp, h5]
  | some m =>
    rw [hv] at h4
    obtain ⟨rfl, h5⟩ := h4
    simp [hr, e1, hp, h5]

theorem inverse_loop (p : List Int) (hp : p.length = 4) (hr : InR p) (h : FH) (b1 b3 c : Nat) (hb1 : b1 < 256 * c) (hb : b3 < 256 * c) (df : List Nat) : ∀ (k i : Nat) (out : List Int), i + k = 4 → out.length = 4 →
    G (f66_k66000 none) [ptrTo b1, ptrTo b3, av p, .int .i64 i] (newB h b3 (ints out)) c df =
      some { e := .exit 0, vs := [ptrTo b1, ptrTo b3, av p, .int .i64 4], h := newB h b3 (ints (invL (p.drop i) i out)), c := c, df := df } := by
  intro k
  induction k with
  | zero =>
    intro i out hi ho
    obtain rfl : i = 4 := by omega
    rw [List.drop_of_length_le (by omega)]
    refine (f66_Z66000 (q := ⟨.exit 0, [ptrTo b1, ptrTo b3, av p, .int .i64 4], newB h b3 (ints out), c + 1, df⟩) (by unfold f66_L66000; simp) (by simp)).trans ?_
    rw [gcR_same (by simp [hb1, hb])]
    rfl
  | succ k ih =>
    intro i out hi ho
    have hlt : i < p.length := by omega
    have e0 : (i : Int) < 4 := by omega
    rw [List.drop_eq_getElem_cons hlt]
    have hx : p.getD i 0 = p[i] := by simp [List.getD, List.getElem?_eq_getElem hlt]
    have hxr := hr p[i] (List.getElem_mem hlt)
    refine f66_N66000 (q := ⟨.normal, [ptrTo b1, ptrTo b3, av p, .int .i64 (i + 1 : Nat)], newB h b3 (ints (out.set p[i].toNat i)), c + 1 + 1 + 1 + 1, df⟩) ?_ rfl ?_
    · unfold f66_L66000
      simp (disch := (first | omega | (simp <;> omega) | fail)) [e0, ixV_av, hx, hxr, ho, -List.getD_eq_getElem?_getD]
    · rw [gcR_upd hb (by simp [hb1, hb]) (by simp)]
      exact ih (i + 1) _ (by omega) (by simpa using ho)

theorem inverse_sp (p : List Int) (hp : p.length = 4) (hr : InR p) (h : FH) (c : Nat) (df : List Nat) :
    G (.fn 66) [av p] h c df = some { e := .ret, vs := [av (inv p)], h := h, c := c, df := [] } := by
  refine pure_of (fun r e => f66_go e) (by simp) ?_
  have e1 : p.take 4 = p := List.take_of_length_le (by omega)
  have hl := inverse_loop p hp hr (newB (newB h (256 * c) (ints p)) (256 * c + 1) (ints [0, 0, 0, 0])) (256 * c + 1) (256 * (c + 1)) (c + 1 + 1 + 1) (by omega) (by omega) [] 4 0 [0, 0, 0, 0] rfl rfl
  have hl2 : (invL p 0 [0, 0, 0, 0]).length = 4 := invL_length p 0 [0, 0, 0, 0]
  have e2 : (invL p 0 [0, 0, 0, 0]).take 4 = invL p 0 [0, 0, 0, 0] := List.take_of_length_le (by omega)
  unfold f66_S
  simp only [ints_cons, ints_nil, Int.ofNat_eq_natCast, Int.cast_ofNat_Int, List.drop_zero] at hl
  simp (disch := (first | omega | (simp <;> omega) | fail)) [hl, e1, e2, hp, hl2, inv]

theorem compose_sp (p q : List Int) (hp : p.length = 4) (hq : q.length = 4) (hr : InR q) (h : FH) (c : Nat) (df : List Nat) :
    G (.fn 65) [av p, av q] h c df = some { e := .ret, vs := [av (comp p q)], h := h, c := c, df := [] } := by
  refine pure_of (fun r e => f65_go e) (by simp) ?_
  have g : ∀ i, i < 4 → 0 ≤ q.getD i 0 ∧ q.getD i 0 < 4 := fun i hi => by
    have : i < q.length := by omega
    have := hr q[i] (List.getElem_mem this)
    simpa [List.getD, List.getElem?_eq_getElem (by omega : i < q.length)] using this
  have g0 := g 0 (by omega)
  have g1 := g 1 (by omega)
  have g2 := g 2 (by omega)
  have g3 := g 3 (by omega)
  have e1 : comp p q = [p.getD (q.getD 0 0).toNat 0, p.getD (q.getD 1 0).toNat 0, p.getD (q.getD 2 0).toNat 0, p.getD (q.getD 3 0).toNat 0] := by
    match q, hq with
    | [a, b, d, e], _ => rfl
  rw [e1]
  unfold f65_S
  simp (disch := (first | omega | (simp <;> omega) | fail)) [hp, hq, ld1_ints, bld4, g0, g1, g2, g3, -List.getD_eq_getElem?_getD, -ld1_newB_same]
end Go.Proofs.Ytemkjcpfgmbibaa

/-! Ranges over functions, over the plain heap. -/
namespace Go.Ab
open Go
set_option linter.unusedVariables false
set_option linter.unusedSimpArgs false

variable {P : Program}

theorem callV_yield {o : Orc FH} {h : FH} {c l : Nat} {st : ALoop} {args : List Value} {Q : Value × FH × Nat → Prop} (hg : HeapC.get h l = some (.loop st)) (hs : st.state = .ready)
    (hok : (Nat.beq args.length st.params.length && nodupB st.params && st.params.all (Nat.blt · st.nt)) = true)
    (hr : Ans (o (.rnd st.nt st.lin st.fr st.params l st.assign st.body) (args ++ st.vals) h c []) fun r => ∃ v, r.vs = [v] ∧ Q (v, r.h, r.c)) : Ans (callV o h c (.func (.yield l) #[] #[]) args) Q := by
  obtain ⟨r, e, v, hv, hq⟩ := hr
  have h1 : (decide (st.state = LoopState.ready) && Nat.beq args.length st.params.length && nodupB st.params && st.params.all (Nat.blt · st.nt)) = true := by
    simp only [Bool.and_eq_true] at hok ⊢
    exact ⟨⟨⟨by simp [hs], hok.1.1⟩, hok.1.2⟩, hok.2⟩
  refine ⟨(v, r.h, r.c), ?_, hq⟩
  simp only [callV, Array.size_empty, Nat.beq_refl, Bool.and_self, cond_true, hg, h1, e, Option.bind_some, hv]

/-- the record of a range over a function, at its entry -/
def entryL (nt : Nat) (lin : List Nat) (ps : Array Tmp) (a b : ACode) (vs : List Value) (d : Nat) : ALoop :=
  { state := .ready, pending := none, nt := nt, vals := vs, lin := lin, fr := [], params := ps.toList, assign := a, body := b, dfr := d }

/-- the heap at the entry of a range over a function -/
noncomputable def entryH (h : FH) (c nt : Nat) (lin : List Nat) (ps : Array Tmp) (a b : ACode) (vs : List Value) : FH :=
  HeapC.set (HeapC.set h (256 * c + 1) .dfr) (256 * c) (.loop (entryL nt lin ps a b vs (256 * c + 1)))

theorem entryH_f (h : FH) (c nt : Nat) (lin : List Nat) (ps : Array Tmp) (a b : ACode) (vs : List Value) (i : Nat) :
    (entryH h c nt lin ps a b vs).f i = if i = 256 * c then some (.loop (entryL nt lin ps a b vs (256 * c + 1))) else if i = 256 * c + 1 then some .dfr else h.f i := by
  simp only [entryH, set_f]
theorem entryH_same (h : FH) (c nt : Nat) (lin : List Nat) (ps : Array Tmp) (a b : ACode) (vs : List Value) : Same c h (entryH h c nt lin ps a b vs) := by
  intro i hi
  rw [entryH_f, if_neg (by omega), if_neg (by omega)]

/-- a range over a function, outside of rounds -/
theorem rangeV_of {o : Orc FH} {nt : Nat} {lin : List Nat} {ps : Array Tmp} {a b : ACode} {g : FuncId} {cap : Array Value} {vs : List Value} {h : FH} {c : Nat} {df : List Nat} {Q : Ex × FH × Nat × List Nat → Prop}
    (hr : Ans (o (.fn g) (.func (.yield (256 * c)) #[] #[] :: cap.toList) (entryH h c nt lin ps a b vs) (c + 1) []) fun r =>
      ∃ st e, HeapC.get r.h (256 * c) = some (.loop st) ∧ st.state ≠ .busy ∧ exOf st.pending = some e ∧ Q (e, HeapC.del r.h (256 * c), r.c, (256 * c + 1) :: df)) :
    Ans (rangeV o nt none lin [] ps a b (.func (.func g) [].toArray cap) vs h c df) Q := by
  obtain ⟨r, e1, st, e, hg, hs, he, hq⟩ := hr
  refine ⟨_, ?_, hq⟩
  simp only [entryH, entryL] at e1
  have hs' : decide (st.state = LoopState.busy) = false := decide_eq_false hs
  simp only [rangeV, enterDfr, Option.bind_some, List.nil_append, List.singleton_append, e1, hg, hs', cond_false, he]

theorem beginSt_of {h : FH} {l : Nat} {st : ALoop} (hg : HeapC.get h l = some (.loop st)) (hs : st.state = .ready) : beginSt h l = some (HeapC.set h l (.loop { st with state := .busy })) := by
  simp [beginSt, hg, hs]
theorem setState_of {h : FH} {l : Nat} {st : ALoop} (hg : HeapC.get h l = some (.loop st)) (s : LoopState) (pd : Option Code) : setState h l s pd = some (HeapC.set h l (.loop { st with state := s, pending := pd })) := by
  simp [setState, hg]

@[simp] theorem get_set_same (h : FH) (i : Nat) (b : ABlk) : HeapC.get (HeapC.set h i b) i = some b := by simp [HeapC.get_set]
@[simp] theorem get_set_ne (h : FH) (i j : Nat) (b : ABlk) (hne : j ≠ i) : HeapC.get (HeapC.set h i b) j = HeapC.get h j := by simp [HeapC.get_set, hne]
@[simp] theorem get_del_ne (h : FH) (i j : Nat) (hne : j ≠ i) : HeapC.get (HeapC.del h i) j = HeapC.get h j := by simp [HeapC.get_del, hne]
@[simp] theorem ld1_set_ne (h : FH) (i j o : Nat) (b : ABlk) (hne : j ≠ i) : ld1 (HeapC.set h i b) (.pointer (some ⟨j, o, none⟩)) = ld1 h (.pointer (some ⟨j, o, none⟩)) := by simp [ld1, asPtr, rdCell, getCells, hne]
@[simp] theorem ldN_set_ne (h : FH) (n i j o : Nat) (b : ABlk) (hne : j ≠ i) : ldN (HeapC.set h i b) n (.pointer (some ⟨j, o, none⟩)) = ldN h n (.pointer (some ⟨j, o, none⟩)) := by simp [ldN, asPtr, rdCells, getCells, hne]
@[simp] theorem ld1_del_ne (h : FH) (i j o : Nat) (hne : j ≠ i) : ld1 (HeapC.del h i) (.pointer (some ⟨j, o, none⟩)) = ld1 h (.pointer (some ⟨j, o, none⟩)) := by simp [ld1, asPtr, rdCell, getCells, hne]
@[simp] theorem ldN_del_ne (h : FH) (n i j o : Nat) (hne : j ≠ i) : ldN (HeapC.del h i) n (.pointer (some ⟨j, o, none⟩)) = ldN h n (.pointer (some ⟨j, o, none⟩)) := by simp [ldN, asPtr, rdCells, getCells, hne]

theorem Holds.set_ne {h : FH} {i j : Nat} {b : ABlk} {ds : List Value} (hne : j ≠ i) (hh : Holds h j ds) : Holds (HeapC.set h i b) j ds := by
  obtain ⟨ro, op, e⟩ := hh
  exact ⟨ro, op, by rw [get_set_ne h i j b hne]; exact e⟩
theorem Holds.same {h h' : FH} {c j : Nat} {ds : List Value} (hj : j < 256 * c) (hs : Same c h h') (hh : Holds h j ds) : Holds h' j ds := by
  obtain ⟨ro, op, e⟩ := hh
  exact ⟨ro, op, (hs j hj).trans e⟩
theorem ld1_holds' {h : FH} {b o : Nat} {cs : List Value} (hh : Holds h b cs) : ld1 h (.pointer (some ⟨b, o, none⟩)) = cs[o]? := by
  obtain ⟨ro, op, e⟩ := hh
  simp [ld1, asPtr, rdCell, getCells, e]

/-- writing into a block that may be written -/
theorem st1_get {h : FH} {b o : Nat} {op : Option Nat} {cs : List Value} {v : Value} (hg : HeapC.get h b = some (.cells false op cs)) (ho : o < cs.length) (hv : v.cells = #[v]) (hf : isFlat v = true) :
    stN h 1 (.pointer (some ⟨b, o, none⟩)) v = some (HeapC.set h b (.cells false op (cs.set o v))) := by
  have h1 : Nat.ble (o + 1) cs.length = true := Nat.ble_eq_true_of_le (by omega)
  simp [stN, asPtr, hv, wrCells, hg, h1, hf, splice_one cs o v ho]


@[simp] theorem sameB_self (x : Option Nat) (h : FH) : sameB x h h = true := by
  unfold sameB
  split
  · show @decide _ (Classical.propDecidable _) = true
    simp
  · rfl
theorem getD_drop (l : List Int) (i j : Nat) : (l.drop i).getD j 0 = l.getD (i + j) 0 := by simp [List.getD]
theorem getD_take (l : List Int) (i j : Nat) (h : j < i) : (l.take i).getD j 0 = l.getD j 0 := by simp [List.getD, List.getElem?_take, h]

@[simp] theorem set_set (h : FH) (i : Nat) (a b : ABlk) : HeapC.set (HeapC.set h i a) i b = HeapC.set h i b := by
  apply FH.ext; intro j; simp only [set_f]; split <;> rfl
@[simp] theorem setState_set (h : FH) (l : Nat) (st : ALoop) (s : LoopState) (pd : Option Code) : setState (HeapC.set h l (.loop st)) l s pd = some (HeapC.set h l (.loop { st with state := s, pending := pd })) := by
  rw [setState_of (get_set_same h l (.loop st)), set_set]
theorem set_comm (h : FH) (i j : Nat) (a b : ABlk) (hne : i ≠ j) : HeapC.set (HeapC.set h i a) j b = HeapC.set (HeapC.set h j b) i a := by
  apply FH.ext; intro k; simp only [set_f]
  by_cases h1 : k = j
  · have : ¬ k = i := by omega
    rw [if_pos h1, if_neg this, if_pos h1]
  · rw [if_neg h1, if_neg h1]
@[simp] theorem setState_newB (h : FH) (l i : Nat) (cs : List Value) (s : LoopState) (pd : Option Code) (hne : l ≠ i) : setState (newB h i cs) l s pd = (setState h l s pd).map fun h' => newB h' i cs := by
  unfold setState
  rw [get_newB_ne _ _ _ _ hne]
  split
  · simp only [Option.map_some, newB]
    rw [set_comm _ _ _ _ _ (Ne.symm hne)]
  · rfl
@[simp] theorem setState_set_ne (h : FH) (l i : Nat) (b : ABlk) (s : LoopState) (pd : Option Code) (hne : l ≠ i) : setState (HeapC.set h i b) l s pd = (setState h l s pd).map fun h' => HeapC.set h' i b := by
  unfold setState
  rw [get_set_ne _ _ _ _ hne]
  split
  · simp only [Option.map_some]
    rw [set_comm _ _ _ _ _ (Ne.symm hne)]
  · rfl

@[simp] theorem gv_undef (w : Bool) : gv undef w = some false := rfl

end Go.Ab

namespace Go.Proofs.Ytemkjcpfgmbibaa
open Go Go.Ab Go.Proofs
set_option maxRecDepth 100000
set_option linter.unusedVariables false
set_option linter.unusedSimpArgs false

theorem eq_face5 (a0 a1 a2 a3 a4 b0 b1 b2 b3 b4 : Int) : aBinOp0 P .eql 72 (av [a0, a1, a2, a3, a4]) (av [b0, b1, b2, b3, b4]) =
    (cond (a0 == b0) ((cond (a1 == b1) (cond (a2 == b2) (cond (a3 == b3) (cond (a4 == b4) (some true) (some false)) (some false)) (some false)) (some false)).bind fun r => cond r (some true) (some false)) (some false)).bind fun b => some (.bool b) := by kernel_rfl
theorem eq_face (x y : List Int) (hx : x.length = 5) (hy : y.length = 5) : aBinOp P .eql 72 (av x) (av y) = some (.bool (decide (x = y))) := by
  match x, hx, y, hy with
  | [a0, a1, a2, a3, a4], _, [b0, b1, b2, b3, b4], _ =>
    rw [aBinOp_eq, eq_face5]
    by_cases h0 : a0 = b0 <;> by_cases h1 : a1 = b1 <;> by_cases h2 : a2 = b2 <;> by_cases h3 : a3 = b3 <;> by_cases h4 : a4 = b4 <;> simp [h0, h1, h2, h3, h4, Bool.cond_eq_ite]
theorem neq_face (x y : List Int) (hx : x.length = 5) (hy : y.length = 5) : aBinOp P .neq 72 (av x) (av y) = some (.bool (!decide (x = y))) := by
  have h := eq_face x y hx hy
  rw [aBinOp_eq] at h ⊢
  have e1 : aBinOp0 P .eql 72 (av x) (av y) = cond (guardOk P 72 (av x)) ((aEq P eqDepth 72 (av x) (av y)).bind fun b => some (.bool b)) none := rfl
  have e2 : aBinOp0 P .neq 72 (av x) (av y) = cond (guardOk P 72 (av x)) ((aEq P eqDepth 72 (av x) (av y)).bind fun b => some (.bool (!b))) none := rfl
  rw [e1] at h
  rw [e2]
  cases hg : guardOk P 72 (av x) with
  | false => rw [hg] at h; cases h
  | true =>
    rw [hg] at h
    simp only [cond_true] at h ⊢
    cases hq : aEq P eqDepth 72 (av x) (av y) with
    | none => rw [hq] at h; cases h
    | some b => rw [hq] at h; simp only [Option.bind_some, Option.some.injEq, Value.bool.injEq] at h ⊢; rw [h]

structure FacesI (y : Value) (s : Value) (n : Nat) (Gl : List Int) (gb : Nat) (I : Nat → FH → Nat → Prop) (J : FH → Nat → Prop) : Prop where
  stab : ∀ k h c h' c', I k h c → c ≤ c' → Same c h h' → I k h' c'
  jstab : ∀ h c h' c', J h c → c ≤ c' → Same c h h' → J h' c'
  read : ∀ k h c, I k h c → Holds h gb [s] ∧ SlI h c s 20 n Gl
  step : ∀ t f h c, t < n → f < 4 → I (4 * t + f) h c →
    Ans (callV G h c y [av [(t : Int), (f : Int)], av (faceL Gl t f)]) (fun q => c ≤ q.2.2 ∧ ((q.1 = .bool true ∧ I (4 * t + f + 1) q.2.1 q.2.2) ∨ (q.1 = .bool false ∧ J q.2.1 q.2.2)))

theorem faces_in {y s : Value} {n : Nat} {Gl : List Int} {gb : Nat} {I : Nat → FH → Nat → Prop} {J : FH → Nat → Prop} (hI : FacesI y s n Gl gb I J) (hG : Gl.length = n * 20) (t : Nat) (ht : t < n) (df : List Nat) :
    ∀ (k f : Nat) (h : FH) (c : Nat), f + k = 4 → I (4 * t + f) h c →
    Ans (G (f78_k78001 none) [y, ptrTo gb, .int .i64 t, .int .i64 n, .int .i64 t, av (rowL Gl t), .int .i64 f] h c df) fun r => c ≤ r.c ∧ r.df = df ∧
      ((r.e = .exit 2 ∧ r.vs = [y, ptrTo gb, .int .i64 t, .int .i64 n, .int .i64 t, av (rowL Gl t), .int .i64 4] ∧ I (4 * t + 4) r.h r.c) ∨ (r.e = .ret ∧ r.vs.length = 7 ∧ J r.h r.c)) := by
  intro k
  induction k with
  | zero =>
    intro f h c hf hi
    obtain rfl : f = 4 := by omega
    refine .intro (f78_Z78001 (q := ⟨.exit 2, _, h, c + 1, df⟩) (by unfold f78_L78001; simp; rfl) (by simp)) ?_
    exact ⟨by simp, rfl, .inl ⟨rfl, rfl, hI.stab _ _ _ _ _ hi (by simp) (Same.refl _ _)⟩⟩
  | succ k ih =>
    intro f h c hf hi
    have hf4 : f < 4 := by omega
    have e0 : (f : Int) < 4 := by omega
    have hl := faceL_length hG ht hf4
    have hrl := rowL_length hG ht
    have hb : ∀ cs, Same c h (newB h (256 * (c + 1) + 2) cs) := fun cs => (Same.refl _ _).newB (by omega)
    obtain ⟨q, hq, hcq, hcase⟩ := hI.step t f (newB h (256 * (c + 1) + 2) (ints (faceL Gl t f))) (c + 1 + 1 + 1) ht hf4 (hI.stab _ _ _ _ _ hi (by omega) (hb _))
    have e1 : (faceL Gl t f).take 5 = faceL Gl t f := List.take_of_length_le (by omega)
    have body : f78_L78001 G none y (ptrTo gb) (.int .i64 t) (.int .i64 n) (.int .i64 t) (av (rowL Gl t)) (.int .i64 f) h c df =
        (aUnOp .not q.1).bind fun t27 => boolK t27 (some { e := .ret, vs := [y, ptrTo gb, .int .i64 t, .int .i64 n, .int .i64 t, av (rowL Gl t), .int .i64 f], h := q.2.1, c := q.2.2, df := df })
          (some { e := .normal, vs := [y, ptrTo gb, .int .i64 t, .int .i64 n, .int .i64 t, av (rowL Gl t), .int .i64 (f + 1 : Nat)], h := q.2.1, c := q.2.2 + 1, df := df }) := by
      unfold f78_L78001
      simp (disch := (first | omega | (simp <;> omega) | fail)) [e0, ixV_avs, hrl, row_face hf4, hl, e1, bld2, hq]
    rcases hcase with ⟨hv, hi2⟩ | ⟨hv, hj⟩
    · rw [hv] at body
      simp only [aUnOp_not, Option.bind_some, boolK_bool, Bool.not_true, cond_false] at body
      refine (ih (f + 1) q.2.1 (q.2.2 + 1) (by omega) (hI.stab _ _ _ _ _ hi2 (by omega) (Same.refl _ _))).elim fun r ⟨hr, h1, h2⟩ => ?_
      exact .intro (f78_N78001 body rfl hr) ⟨by omega, h2⟩
    · rw [hv] at body
      simp only [aUnOp_not, Option.bind_some, boolK_bool, Bool.not_false, cond_true] at body
      exact .intro (f78_Z78001 body (by simp)) ⟨by simp; omega, rfl, .inr ⟨rfl, rfl, hj⟩⟩

theorem faces_out {y s : Value} {n : Nat} {Gl : List Int} {gb : Nat} {I : Nat → FH → Nat → Prop} {J : FH → Nat → Prop} (hI : FacesI y s n Gl gb I J) (hG : Gl.length = n * 20) (hn : n ≤ 9223372036854775807) (df : List Nat) :
    ∀ (k t : Nat) (h : FH) (c : Nat), t + k = n → I (4 * t) h c →
    Ans (G (f78_k78000 none) [y, ptrTo gb, .int .i64 n, .int .i64 t] h c df) fun r => c ≤ r.c ∧ r.df = df ∧
      ((r.e = .exit 0 ∧ I (4 * n) r.h r.c) ∨ (r.e = .ret ∧ J r.h r.c)) := by
  intro k
  induction k with
  | zero =>
    intro t h c ht hi
    obtain rfl : t = n := by omega
    refine .intro (f78_Z78000 (q := ⟨.exit 0, _, h, c + 1, df⟩) (by unfold f78_L78000; simp; rfl) (by simp)) ?_
    exact ⟨by simp, rfl, .inl ⟨rfl, hI.stab _ _ _ _ _ hi (by simp) (Same.refl _ _)⟩⟩
  | succ k ih =>
    intro t h c ht hi
    have htn : t < n := by omega
    have e0 : (t : Int) < n := by omega
    obtain ⟨hgb, hs⟩ := hI.read _ _ _ hi
    obtain ⟨b, o, cs, e1, hb, hh, hw⟩ := hs.ix .i64 t (by omega) e0
    have e2 : ld1 h (.pointer (some ⟨gb, 0, none⟩)) = some s := by rw [ld1_holds' hgb]; rfl
    have e3 : ldN h 20 (.pointer (some ⟨b, o + t * 20, none⟩)) = some (av (rowL Gl t)) := by
      have := ldN_win hh hw (j := t * 20) (q := 20) (by omega) (by omega)
      rw [this]; unfold rowL; rw [Nat.mul_comm]
    simp only [Int.toNat_natCast] at e1
    obtain ⟨r, hr, hcr, hdf, hcase⟩ := faces_in hI hG t htn df 4 0 h (c + 1 + 1 + 1) rfl (hI.stab _ _ _ _ _ hi (by omega) (Same.refl _ _))
    have body : f78_L78000 G none y (ptrTo gb) (.int .i64 n) (.int .i64 t) h c df =
        cond (exIs r.e (.exit 2)) ((aBinOp P .add 3 (r.v 4) (.int .i64 1)).bind fun t29 => some { e := .normal, vs := [(r.v 0), (r.v 1), (r.v 3), t29], h := r.h, c := (r.c + 1), df := r.df })
          (cond (exIs r.e .ret) (some { e := .ret, vs := [(r.v 0), (r.v 1), (r.v 3), (r.v 4)], h := r.h, c := r.c, df := r.df }) none) := by
      unfold f78_L78000
      simp only [Int.ofNat_eq_natCast, Int.cast_ofNat_Int] at hr
      simp (disch := (first | omega | (simp <;> omega) | fail)) [e0, e2, e1, e3, hr]
    obtain ⟨re, rv, rh, rc, rd⟩ := r
    simp only at hcase hcr hdf
    subst hdf
    rcases hcase with ⟨rfl, rfl, hi2⟩ | ⟨rfl, hl, hj⟩
    · simp (disch := omega) at body
      refine (ih (t + 1) rh (rc + 1) (by omega) (hI.stab _ _ _ _ _ hi2 (by omega) (Same.refl _ _))).elim fun r ⟨hr2, h1, h2⟩ => ?_
      exact .intro (f78_N78000 body rfl (by simpa using hr2)) ⟨by omega, h2⟩
    · simp at body
      exact .intro (f78_Z78000 body (by simp)) ⟨by simp; omega, rfl, .inr ⟨rfl, hj⟩⟩

theorem faces_sp {y s : Value} {n : Nat} {Gl : List Int} {gb : Nat} {I : Nat → FH → Nat → Prop} {J : FH → Nat → Prop} (hI : FacesI y s n Gl gb I J) {h : FH} {c : Nat} (hi : I 0 h c) (df : List Nat) :
    Ans (G (.fn 78) [y, ptrTo gb] h c df) fun r => r.e = .ret ∧ r.vs = [.tuple #[]] ∧ r.df = [] ∧ c ≤ r.c ∧ (I (4 * n) r.h r.c ∨ J r.h r.c) := by
  obtain ⟨hgb, hs⟩ := hI.read _ _ _ hi
  obtain ⟨r, hr, hcr, hdf, hcase⟩ := faces_out hI hs.1 hs.2.1 [] n 0 h (c + 1) (by omega) (hI.stab _ _ _ _ _ hi (by omega) (Same.refl _ _))
  have e2 : ld1 h (.pointer (some ⟨gb, 0, none⟩)) = some s := by rw [ld1_holds' hgb]; rfl
  obtain ⟨re, rv, rh, rc, rd⟩ := r
  simp only at hcase hcr hdf
  subst hdf
  simp only [Int.ofNat_eq_natCast, Int.cast_ofNat_Int] at hr
  rcases hcase with ⟨rfl, hi2⟩ | ⟨rfl, hj⟩
  · refine .intro (f78_go (r := { e := .ret, vs := [.tuple #[]], h := rh, c := rc, df := [] }) (by unfold f78_S; simp [e2, hs.len, hr])) ?_
    exact ⟨rfl, rfl, rfl, by simp; omega, .inl hi2⟩
  · refine .intro (f78_go (r := { e := .ret, vs := [.tuple #[]], h := rh, c := rc, df := [] }) (by unfold f78_S; simp [e2, hs.len, hr])) ?_
    exact ⟨rfl, rfl, rfl, by simp; omega, .inr hj⟩
end Go.Proofs.Ytemkjcpfgmbibaa



namespace Go.Proofs.Ytemkjcpfgmbibaa
open Go Go.Ab Go.Proofs
set_option maxRecDepth 100000
set_option linter.unusedVariables false
set_option linter.unusedSimpArgs false

theorem callF_valid (p : List Int) (hp : p.length = 4) (h : FH) (c : Nat) : callF G 60 [av p] h c = some (.bool (validB p), h, c) := callF_of (valid_sp p hp h c [])
theorem callF_inverse (p : List Int) (hp : p.length = 4) (hr : InR p) (h : FH) (c : Nat) : callF G 66 [av p] h c = some (av (inv p), h, c) := callF_of (inverse_sp p hp hr h c [])

theorem check_rnd (s : Value) (n : Nat) (Gl : List Int) (gb rb nb l c0 c : Nat) (st : ALoop) (h : FH) (hc : c0 ≤ c) (t f : Nat) (ht : t < n) (hf : f < 4)
    (hgb : gb < 256 * c0) (hrb : rb < 256 * c0) (hnb : nb < 256 * c0) (hl : l < 256 * c0) (hlr : l ≠ rb) (hlg : l ≠ gb) (hln : l ≠ nb)
    (h1 : Holds h gb [s]) (h2 : SlI h c0 s 20 n Gl) (h3 : Holds h nb (ints noneL)) (h4 : HeapC.get h rb = some (.cells false none [.int .i64 0])) (h5 : HeapC.get h l = some (.loop st)) (h6 : st.state = .ready) :
    Ans (f57_R57000 G l (av [(t : Int), (f : Int)]) (av (faceL Gl t f)) (ptrTo gb) (ptrTo rb) (ptrTo nb) h c) fun r => c ≤ r.c ∧ r.e = .ret ∧ r.df = [] ∧ r.vs = [.bool (okFace Gl n t f)] ∧
      r.h.f l = some (.loop { st with state := if okFace Gl n t f then .ready else .done, pending := if okFace Gl n t f then none else some .ret }) ∧
      (∀ i, i < 256 * c → i ≠ l → r.h.f i = if i = rb ∧ okFace Gl n t f = false then some (.cells false none [.int .i64 7]) else h.f i) := by
  have hx := faceL_length h2.1 ht hf
  have hp := permL_length hx
  have ht5 : (faceL Gl t f).take 5 = faceL Gl t f := List.take_of_length_le (by omega)
  have hnl : noneL.length = 5 := rfl
  obtain ⟨H, hH⟩ : ∃ H, H = HeapC.set (newB (newB h (256 * c) (ints [(t : Int), (f : Int)])) (256 * (c + 1)) (ints (faceL Gl t f))) l (.loop { st with state := .busy }) := ⟨_, rfl⟩
  have hb : beginSt (newB (newB h (256 * c) (ints [(t : Int), (f : Int)])) (256 * (c + 1)) (ints (faceL Gl t f))) l = some H := by
    rw [hH]
    exact beginSt_of (by rw [get_newB_ne _ _ _ _ (by omega), get_newB_ne _ _ _ _ (by omega)]; exact h5) h6
  have r0 : ∀ j, j < 256 * c → j ≠ l → H.f j = h.f j := by
    intro j hj hne
    rw [hH, set_f, if_neg hne, newB_f, if_neg (by omega), newB_f, if_neg (by omega)]
  have hol : ∀ b cs, b < 256 * c0 → Holds h b cs → Holds H b cs := by
    intro b cs hb ⟨ro, op, e⟩
    have hne : b ≠ l := by
      rintro rfl
      rw [h5] at e; cases e
    exact ⟨ro, op, (r0 b (by omega) hne).trans e⟩
  have hA : Holds H (256 * c) (ints [(t : Int), (f : Int)]) := by
    rw [hH]
    exact (((Holds.newB_same h _ _).newB_ne (by omega)).set_ne (by omega))
  have hB : Holds H (256 * (c + 1)) (ints (faceL Gl t f)) := by
    rw [hH]
    exact ((Holds.newB_same _ _ _).set_ne (by omega))
  have a0 : ld1 H (.pointer (some ⟨256 * c, 0, none⟩)) = some (.int .i64 t) := by rw [ld1_holds' hA]; rfl
  have a1 : ld1 H (.pointer (some ⟨256 * c, 1, none⟩)) = some (.int .i64 f) := by rw [ld1_holds' hA]; rfl
  have b0 : ldN H 5 (.pointer (some ⟨256 * (c + 1), 0, none⟩)) = some (av (faceL Gl t f)) := by
    rw [ldN_holds hB (by simp [hx])]; simp [ht5]
  have b1 : ld1 H (.pointer (some ⟨256 * (c + 1), 0, none⟩)) = some (.int .i64 (tetL (faceL Gl t f))) := by
    rw [ld1_holds' hB, ints_get, List.getElem?_eq_getElem (by omega)]
    simp [tetL, List.getD, List.getElem?_eq_getElem (by omega : 0 < (faceL Gl t f).length)]
  have b2 : ldN H 4 (.pointer (some ⟨256 * (c + 1), 1, none⟩)) = some (av (permL (faceL Gl t f))) := by
    rw [ldN_holds hB (by simp [hx])]; rw [ints_drop, ints_take]; rfl
  have b3 : ld1 H (.pointer (some ⟨256 * (c + 1), 1 + f, none⟩)) = some (.int .i64 ((permL (faceL Gl t f)).getD f 0)) := by
    have hlt : 1 + f < (faceL Gl t f).length := by omega
    rw [ld1_holds' hB, ints_get, List.getElem?_eq_getElem hlt]
    unfold permL
    rw [getD_take _ _ _ hf, getD_drop]
    simp [List.getD, List.getElem?_eq_getElem hlt]
  have e1 : ldN H 5 (.pointer (some ⟨nb, 0, none⟩)) = some (av noneL) := by
    rw [ldN_holds (hol nb _ hnb h3) (by simp [noneL])]; rfl
  have e2 : ld1 H (.pointer (some ⟨gb, 0, none⟩)) = some s := by rw [ld1_holds' (hol gb _ hgb h1)]; rfl
  have e3 := h2.len
  -- the two ends
  have endT : ∀ c', c ≤ c' → okFace Gl n t f = true → Ans ((setState H l .ready none).bind fun h37 => some ({ e := .ret, vs := [.bool true], h := h37, c := c', df := [] } : Rt FH)) fun r => c ≤ r.c ∧ r.e = .ret ∧ r.df = [] ∧ r.vs = [.bool (okFace Gl n t f)] ∧
      r.h.f l = some (.loop { st with state := if okFace Gl n t f then .ready else .done, pending := if okFace Gl n t f then none else some .ret }) ∧
      (∀ i, i < 256 * c → i ≠ l → r.h.f i = if i = rb ∧ okFace Gl n t f = false then some (.cells false none [.int .i64 7]) else h.f i) := by
    intro c' hc' ok
    rw [ok, hH, setState_set]
    simp only [Option.bind_some, Ans_some, if_true, Bool.true_eq_false, and_false, if_false]
    refine ⟨hc', trivial, trivial, trivial, by rw [set_f, if_pos rfl], fun i hi hne => ?_⟩
    rw [set_f, if_neg hne, newB_f, if_neg (by omega), newB_f, if_neg (by omega)]
  have endF : ∀ c', c ≤ c' → okFace Gl n t f = false → ∃ H', stN H 1 (.pointer (some ⟨rb, 0, none⟩)) (.int .i64 7) = some H' ∧ Ans ((setState H' l .done (some .ret)).bind fun h36 => some ({ e := .ret, vs := [.bool false], h := h36, c := c', df := [] } : Rt FH)) fun r => c ≤ r.c ∧ r.e = .ret ∧ r.df = [] ∧ r.vs = [.bool (okFace Gl n t f)] ∧
      r.h.f l = some (.loop { st with state := if okFace Gl n t f then .ready else .done, pending := if okFace Gl n t f then none else some .ret }) ∧
      (∀ i, i < 256 * c → i ≠ l → r.h.f i = if i = rb ∧ okFace Gl n t f = false then some (.cells false none [.int .i64 7]) else h.f i) := by
    intro c' hc' ok
    have hg : HeapC.get H rb = some (.cells false none [.int .i64 0]) := (r0 rb (by omega) (Ne.symm hlr)).trans h4
    refine ⟨_, st1_get (cs := [.int .i64 0]) hg (by simp) rfl rfl, ?_⟩
    rw [ok, setState_set_ne _ _ _ _ _ _ hlr, hH, setState_set]
    simp only [Option.map_some, Option.bind_some, Ans_some, Bool.false_eq_true, if_false, and_true]
    refine ⟨hc', trivial, trivial, trivial, by rw [set_f, if_neg hlr, set_f, if_pos rfl], fun i hi hne => ?_⟩
    rw [set_f]
    split
    · rfl
    · rw [set_f, if_neg hne, newB_f, if_neg (by omega), newB_f, if_neg (by omega)]
  clear hH
  have hface : ∀ u j : Int, 0 ≤ u → u < n → 0 ≤ j → j < 4 → ∃ b o, ixS 20 s (.int .i64 u) = some (.pointer (some ⟨b, o + u.toNat * 20, none⟩)) ∧ ldN H 5 (.pointer (some ⟨b, o + u.toNat * 20 + j.toNat * 5, none⟩)) = some (av (faceL Gl u.toNat j.toNat)) := by
    intro u j u1 u2 j1 j2
    obtain ⟨b, o, cs, x1, x2, x3, x4⟩ := h2.ix .i64 u u1 u2
    refine ⟨b, o, x1, ?_⟩
    have := h2.1
    rw [Nat.add_assoc, ldN_win (hol b cs x2 x3) x4 (j := u.toNat * 20 + j.toNat * 5) (q := 5) (by omega) (by omega)]
    unfold faceL
    rw [Nat.mul_comm 20, Nat.mul_comm 5]
  unfold f57_R57000
  rw [stN_ptrTo, Nat.add_zero, stN_all _ _ 2 _ [(t : Int), (f : Int)] rfl rfl]
  simp only [Option.bind_some]
  rw [stN_ptrTo, Nat.add_zero, stN_all _ _ 5 _ _ hx rfl]
  simp only [Option.bind_some, hb]
  by_cases q1 : faceL Gl t f = noneL
  · have ok : okFace Gl n t f = true := by simp [okFace, q1]
    refine Ans.step (v := ({ e := .normal, vs := [], h := H, c := c + 1 + 1 + 1, df := [] } : Rt FH)) ?_ (endT (c + 1 + 1 + 1) (by omega) ok)
    apply Ans.eq
    repeat (first
      | (with_reducible refine Ans.bt ?_ ?_; exact rfl)
      | (with_reducible refine Ans.bf ?_ ?_; exact rfl)
      | (with_reducible refine Ans.ct ?_ ?_; focus (simp; done))
      | (with_reducible refine Ans.cf ?_ ?_; focus (simp; done))
      | refine Ans.step (by (simp (disch := (first | omega | (simp <;> omega) | fail)) [b0, e1, eq_face, hx, hnl, q1, -List.getD_eq_getElem?_getD]) <;> rfl) ?_)
    exact Ans.done rfl
  · by_cases q2 : tetL (faceL Gl t f) < 0
    · have ok : okFace Gl n t f = false := by
        have : ¬ (0 ≤ tetL (faceL Gl t f)) := by omega
        simp [okFace, q1, this]
      obtain ⟨H', x1, x2⟩ := endF (c + 1 + 1 + 1 + 1 + 1) (by omega) ok
      refine Ans.step (v := ({ e := .ret, vs := [], h := H', c := c + 1 + 1 + 1 + 1 + 1, df := [] } : Rt FH)) ?_ x2
      apply Ans.eq
      repeat (first
        | (with_reducible refine Ans.bt ?_ ?_; exact rfl)
        | (with_reducible refine Ans.bf ?_ ?_; exact rfl)
        | (with_reducible refine Ans.ct ?_ ?_; focus (simp; done))
        | (with_reducible refine Ans.cf ?_ ?_; focus (simp; done))
        | refine Ans.step (by (simp (disch := (first | omega | (simp <;> omega) | fail)) [b0, b1, e1, eq_face, hx, hnl, q1, q2, x1, -List.getD_eq_getElem?_getD]) <;> rfl) ?_)
      exact Ans.done rfl
    · by_cases q3 : (n : Int) ≤ tetL (faceL Gl t f)
      · have ok : okFace Gl n t f = false := by
          have : ¬ (tetL (faceL Gl t f) < n) := by omega
          simp [okFace, q1, this]
        obtain ⟨H', x1, x2⟩ := endF (c + 1 + 1 + 1 + 1 + 1) (by omega) ok
        refine Ans.step (v := ({ e := .ret, vs := [], h := H', c := c + 1 + 1 + 1 + 1 + 1, df := [] } : Rt FH)) ?_ x2
        apply Ans.eq
        repeat (first
          | (with_reducible refine Ans.bt ?_ ?_; exact rfl)
          | (with_reducible refine Ans.bf ?_ ?_; exact rfl)
          | (with_reducible refine Ans.ct ?_ ?_; focus (simp; done))
          | (with_reducible refine Ans.cf ?_ ?_; focus (simp; done))
          | refine Ans.step (by (simp (disch := (first | omega | (simp <;> omega) | fail)) [b0, b1, e1, e2, e3, eq_face, hx, hnl, q1, q2, q3, x1, -List.getD_eq_getElem?_getD]) <;> rfl) ?_)
        exact Ans.done rfl
      · cases q4 : validB (permL (faceL Gl t f)) with
        | false =>
          have ok : okFace Gl n t f = false := by simp [okFace, q1, q4]
          obtain ⟨H', x1, x2⟩ := endF (c + 1 + 1 + 1 + 1 + 1) (by omega) ok
          refine Ans.step (v := ({ e := .ret, vs := [], h := H', c := c + 1 + 1 + 1 + 1 + 1, df := [] } : Rt FH)) ?_ x2
          apply Ans.eq
          repeat (first
            | (with_reducible refine Ans.bt ?_ ?_; exact rfl)
            | (with_reducible refine Ans.bf ?_ ?_; exact rfl)
            | (with_reducible refine Ans.ct ?_ ?_; focus (simp; done))
            | (with_reducible refine Ans.cf ?_ ?_; focus (simp; done))
            | refine Ans.step (by (simp (disch := (first | omega | (simp <;> omega) | fail)) [b0, b1, b2, e1, e2, e3, eq_face, hx, hnl, q1, q2, q3, q4, x1, callF_valid, hp, -List.getD_eq_getElem?_getD]) <;> rfl) ?_)
          exact Ans.done rfl
        | true =>
          have hr := validB_range q4
          have hpr : 0 ≤ (permL (faceL Gl t f)).getD f 0 ∧ (permL (faceL Gl t f)).getD f 0 < 4 := by
            have hlt : f < (permL (faceL Gl t f)).length := by omega
            have := hr _ (List.getElem_mem hlt)
            simpa [List.getD, List.getElem?_eq_getElem hlt] using this
          have ft : (f : Int) < 4 := by omega
          by_cases q5 : tetL (faceL Gl t f) = t ∧ (permL (faceL Gl t f)).getD f 0 = f
          · obtain ⟨q5, q6⟩ := q5
            have ok : okFace Gl n t f = false := by simp [okFace, q1, q5, q6, -List.getD_eq_getElem?_getD]
            obtain ⟨H', x1, x2⟩ := endF (c + 1 + 1 + 1 + 1 + 1) (by omega) ok
            have q2' : ¬ (t : Int) < 0 := by omega
            have q3' : ¬ (n : Int) ≤ t := by omega
            refine Ans.step (v := ({ e := .ret, vs := [], h := H', c := c + 1 + 1 + 1 + 1 + 1, df := [] } : Rt FH)) ?_ x2
            apply Ans.eq
            repeat (first
              | (with_reducible refine Ans.bt ?_ ?_; exact rfl)
              | (with_reducible refine Ans.bf ?_ ?_; exact rfl)
              | (with_reducible refine Ans.ct ?_ ?_; focus (simp; done))
              | (with_reducible refine Ans.cf ?_ ?_; focus (simp; done))
              | refine Ans.step (by (simp (disch := (first | omega | (simp <;> omega) | fail)) [b0, b1, b2, b3, a0, a1, e1, e2, e3, eq_face, hx, hnl, q1, q2', q3', q4, q5, q6, ft, x1, callF_valid, hp, -List.getD_eq_getElem?_getD]) <;> rfl) ?_)
            exact Ans.done rfl
          · obtain ⟨b, o, f1, f2⟩ := hface (tetL (faceL Gl t f)) ((permL (faceL Gl t f)).getD f 0) (by omega) (by omega) hpr.1 hpr.2
            have hfl : (faceL Gl (tetL (faceL Gl t f)).toNat ((permL (faceL Gl t f)).getD f 0).toNat).length = 5 := faceL_length h2.1 (by omega) (by omega)
            have hil : (inv (permL (faceL Gl t f))).length = 4 := invL_length _ _ _
            have hil5 : ((t : Int) :: inv (permL (faceL Gl t f))).length = 5 := by rw [List.length_cons, hil]
            have q5d : (decide (tetL (faceL Gl t f) = (t : Int)) && decide ((permL (faceL Gl t f)).getD f 0 = (f : Int))) = false := by simpa [-List.getD_eq_getElem?_getD] using q5
            have key : ∀ X : Bool, decide (faceL Gl (tetL (faceL Gl t f)).toNat ((permL (faceL Gl t f)).getD f 0).toNat = (t : Int) :: inv (permL (faceL Gl t f))) = X → okFace Gl n t f = X := by
              intro X hX
              unfold okFace
              rw [hX, q5d, q4]
              have z1 : 0 ≤ tetL (faceL Gl t f) := by omega
              have z2 : tetL (faceL Gl t f) < n := by omega
              simp [q1, z1, z2]
            have dd : ∃ X : Bool, decide (tetL (faceL Gl t f) = (t : Int)) = X ∧ (X = true → decide ((permL (faceL Gl t f)).getD f 0 = (f : Int)) = false) := by
              refine ⟨_, rfl, fun e => ?_⟩
              rw [e] at q5d
              simpa only [Bool.true_and] using q5d
            obtain ⟨X, d5, d6⟩ := dd
            cases q7 : decide (faceL Gl (tetL (faceL Gl t f)).toNat ((permL (faceL Gl t f)).getD f 0).toNat = (t : Int) :: inv (permL (faceL Gl t f))) with
            | true =>
              have ok := key _ q7
              refine Ans.step (v := ({ e := .normal, vs := [], h := H, c := c + 1 + 1 + 1 + 1 + 1, df := [] } : Rt FH)) ?_ (endT (c + 1 + 1 + 1 + 1 + 1) (by omega) ok)
              apply Ans.eq
              cases X with
              | true =>
                have d6' := d6 rfl
                repeat (first
                  | (with_reducible refine Ans.bt ?_ ?_; exact rfl)
                  | (with_reducible refine Ans.bf ?_ ?_; exact rfl)
                  | (with_reducible refine Ans.ct ?_ ?_; focus (simp; done))
                  | (with_reducible refine Ans.cf ?_ ?_; focus (simp; done))
                  | refine Ans.step (by (simp (disch := (first | omega | (simp <;> omega) | fail)) [b0, b1, b2, b3, a0, a1, e1, e2, e3, eq_face, neq_face, hx, hnl, q1, q2, q3, q4, d5, d6', ft, callF_valid, callF_inverse, hp, hr, hpr, f1, f2, bld5, hil, hfl, q7, -List.getD_eq_getElem?_getD]) <;> rfl) ?_)
                exact Ans.done rfl
              | false =>
                repeat (first
                  | (with_reducible refine Ans.bt ?_ ?_; exact rfl)
                  | (with_reducible refine Ans.bf ?_ ?_; exact rfl)
                  | (with_reducible refine Ans.ct ?_ ?_; focus (simp; done))
                  | (with_reducible refine Ans.cf ?_ ?_; focus (simp; done))
                  | refine Ans.step (by (simp (disch := (first | omega | (simp <;> omega) | fail)) [b0, b1, b2, b3, a0, a1, e1, e2, e3, eq_face, neq_face, hx, hnl, q1, q2, q3, q4, d5, ft, callF_valid, callF_inverse, hp, hr, hpr, f1, f2, bld5, hil, hfl, q7, -List.getD_eq_getElem?_getD]) <;> rfl) ?_)
                exact Ans.done rfl
            | false =>
              have ok := key _ q7
              obtain ⟨H', x1, x2⟩ := endF (c + 1 + 1 + 1 + 1 + 1 + 1) (by omega) ok
              refine Ans.step (v := ({ e := .ret, vs := [], h := H', c := c + 1 + 1 + 1 + 1 + 1 + 1, df := [] } : Rt FH)) ?_ x2
              apply Ans.eq
              cases X with
              | true =>
                have d6' := d6 rfl
                repeat (first
                  | (with_reducible refine Ans.bt ?_ ?_; exact rfl)
                  | (with_reducible refine Ans.bf ?_ ?_; exact rfl)
                  | (with_reducible refine Ans.ct ?_ ?_; focus (simp; done))
                  | (with_reducible refine Ans.cf ?_ ?_; focus (simp; done))
                  | refine Ans.step (by (simp (disch := (first | omega | (simp <;> omega) | fail)) [b0, b1, b2, b3, a0, a1, e1, e2, e3, eq_face, neq_face, hx, hnl, q1, q2, q3, q4, d5, d6', ft, callF_valid, callF_inverse, hp, hr, hpr, f1, f2, bld5, hil, hfl, q7, x1, -List.getD_eq_getElem?_getD]) <;> rfl) ?_)
                exact Ans.done rfl
              | false =>
                repeat (first
                  | (with_reducible refine Ans.bt ?_ ?_; exact rfl)
                  | (with_reducible refine Ans.bf ?_ ?_; exact rfl)
                  | (with_reducible refine Ans.ct ?_ ?_; focus (simp; done))
                  | (with_reducible refine Ans.cf ?_ ?_; focus (simp; done))
                  | refine Ans.step (by (simp (disch := (first | omega | (simp <;> omega) | fail)) [b0, b1, b2, b3, a0, a1, e1, e2, e3, eq_face, neq_face, hx, hnl, q1, q2, q3, q4, d5, ft, callF_valid, callF_inverse, hp, hr, hpr, f1, f2, bld5, hil, hfl, q7, x1, -List.getD_eq_getElem?_getD]) <;> rfl) ?_)
                exact Ans.done rfl
end Go.Proofs.Ytemkjcpfgmbibaa

namespace Go.Proofs.Ytemkjcpfgmbibaa
open Go Go.Ab Go.Proofs
set_option maxRecDepth 100000
set_option linter.unusedVariables false
set_option linter.unusedSimpArgs false

structure ChkI (s : Value) (n : Nat) (Gl : List Int) (gb gi rb nb l : Nat) (st : ALoop) (c0 ce : Nat) (h0 : FH) (k : Nat) (h : FH) (c : Nat) : Prop where
  lc : c0 ≤ c
  g : Holds h gb [s]
  i : Holds h gi [s]
  sl : SlI h c0 s 20 n Gl
  nn : Holds h nb (ints noneL)
  res : h.f rb = some (.cells false none [.int .i64 0])
  loop : h.f l = some (.loop st)
  dfr : h.f (l + 1) = some .dfr
  same : Same ce h0 h
  ok : okUpTo Gl n k

structure ChkJ (n : Nat) (Gl : List Int) (rb l : Nat) (st : ALoop) (c0 ce : Nat) (h0 : FH) (h : FH) (c : Nat) : Prop where
  lc : c0 ≤ c
  res : h.f rb = some (.cells false none [.int .i64 7])
  loop : h.f l = some (.loop { st with state := .done, pending := some .ret })
  dfr : h.f (l + 1) = some .dfr
  same : Same ce h0 h
  bad : ∃ j, j < 4 * n ∧ okFace Gl n (j / 4) (j % 4) = false

theorem check_sp (s : Value) (n : Nat) (Gl : List Int) (h0 : FH) (ce : Nat) (df : List Nat) (hs : SlI h0 ce s 20 n Gl) :
    G (.fn 57) [.agg #[s]] h0 ce df = some { e := .ret, vs := [.int .i64 (if n ≤ 1000 ∧ okAll Gl n = true then 0 else 7)], h := h0, c := ce, df := [] } := by
  refine pure_of (fun r e => f57_go e) (by simp) ?_
  have hflat : ((Value.agg #[s]).cells.toList.all isFlat) = true := by
    obtain ⟨_, _, a, cap, rfl, _⟩ := hs
    rfl
  have hcell : (Value.agg #[s]).cells.toList = [s] := rfl
  have hlen := hs.len
  unfold f57_S
  rw [hflat, hcell]
  simp only [cond_true]
  by_cases hn : n ≤ 1000
  · have hn' : ¬ (1000 : Int) < n := by omega
    have hbn : bldV [.int .i64 0, .int .i64 0, .int .i64 0, .int .i64 0, .int .i64 0] [(0, 1, .int .i64 (-1))] = some (av noneL) := rfl
    have hnl : noneL.length = 5 := rfl
    repeat (first
      | (with_reducible refine Ans.bt ?_ ?_; exact rfl)
      | (with_reducible refine Ans.bf ?_ ?_; exact rfl)
      | (with_reducible refine Ans.ct ?_ ?_; focus (simp; done))
      | (with_reducible refine Ans.cf ?_ ?_; focus (simp; done))
      | refine Ans.step (by (simp (disch := (first | omega | (simp <;> omega) | fail)) [hlen, hn', hbn, hnl, -List.getD_eq_getElem?_getD]) <;> rfl) ?_)
    obtain ⟨H, hH⟩ : ∃ H, H = newB (newB (newB h0 (256 * ce) [s]) (256 * ce + 1) [.int .i64 0]) (256 * (ce + 1 + 1) + 1) (ints noneL) := ⟨_, rfl⟩
    have hc130 : callF G 71 [.agg #[s]] H (ce + 1 + 1 + 1 + 1) = some (.func (.func 78) [].toArray [ptrTo (256 * (ce + 1 + 1 + 1 + 1))].toArray, newB H (256 * (ce + 1 + 1 + 1 + 1)) [s], ce + 1 + 1 + 1 + 1 + 1 + 1) := by
      refine callF_of (f71_go (r := { e := .ret, vs := [_], h := _, c := _, df := [] }) ?_)
      unfold f71_S
      rw [hflat, hcell]
      simp
    rw [← hH]
    refine Ans.step hc130 ?_
    dsimp only
    simp only [Nat.add_zero]
    -- the range over all faces
    obtain ⟨l, hl⟩ : ∃ l, l = 256 * (ce + 1 + 1 + 1 + 1 + 1 + 1) := ⟨_, rfl⟩
    obtain ⟨st, hst⟩ : ∃ st, st = entryL 71 [1, 2, 3] #[13, 14] f57_a57000 f57_c57000 [ptrTo (256 * ce), ptrTo (256 * ce + 1), ptrTo (256 * (ce + 1 + 1) + 1)] (l + 1) := ⟨_, rfl⟩
    have hI : FacesI (.func (.yield l) #[] #[]) s n Gl (256 * (ce + 1 + 1 + 1 + 1))
        (ChkI s n Gl (256 * ce) (256 * (ce + 1 + 1 + 1 + 1)) (256 * ce + 1) (256 * (ce + 1 + 1) + 1) l st (ce + 1 + 1 + 1 + 1 + 1 + 1 + 1) ce h0)
        (ChkJ n Gl (256 * ce + 1) l st (ce + 1 + 1 + 1 + 1 + 1 + 1 + 1) ce h0) := by
      refine ⟨fun k h c h' c' hi hc hs => ?_, fun h c h' c' hj hc hs => ?_, fun k h c hi => ⟨hi.i, hi.sl.mono hi.lc⟩, fun t f h c ht hf hi => ?_⟩
      · have := hi.lc
        exact ⟨by omega, hi.g.same (by omega) hs, hi.i.same (by omega) hs, hi.sl.same (hs.mono (by omega)), hi.nn.same (by omega) hs, (hs _ (by omega)).trans hi.res, (hs _ (by omega)).trans hi.loop, (hs _ (by omega)).trans hi.dfr, hi.same.trans (hs.mono (by omega)), hi.ok⟩
      · have := hj.lc
        exact ⟨by omega, (hs _ (by omega)).trans hj.res, (hs _ (by omega)).trans hj.loop, (hs _ (by omega)).trans hj.dfr, hj.same.trans (hs.mono (by omega)), hj.bad⟩
      · have hlc := hi.lc
        refine callV_yield (st := st) hi.loop (by rw [hst]; rfl) (by rw [hst]; rfl) ?_
        obtain ⟨r, hr, r1, r2, r3, r4, r5, r6⟩ := check_rnd s n Gl (256 * ce) (256 * ce + 1) (256 * (ce + 1 + 1) + 1) l (ce + 1 + 1 + 1 + 1 + 1 + 1 + 1) c st h hlc t f ht hf (by omega) (by omega) (by omega) (by omega) (by omega) (by omega) (by omega)
          hi.g hi.sl hi.nn hi.res hi.loop (by rw [hst]; rfl)
        have hk : G (.rnd st.nt st.lin st.fr st.params l st.assign st.body) ([av [(t : Int), (f : Int)], av (faceL Gl t f)] ++ st.vals) h c [] = some r := by rw [hst]; exact f57_G57000 hr
        refine .intro hk ⟨_, r4, r1, ?_⟩
        dsimp only
        have hk4 : (4 * t + f) / 4 = t ∧ (4 * t + f) % 4 = f := by omega
        have hold : ∀ b cs, b < 256 * c → b ≠ l → b ≠ 256 * ce + 1 → Holds h b cs → Holds r.h b cs := by
          intro b cs h1 h2 h3 ⟨ro, op, e⟩
          refine ⟨ro, op, ?_⟩
          have := r6 b h1 h2
          rw [if_neg (fun hh => h3 hh.1)] at this
          exact this.trans e
        cases hok : okFace Gl n t f with
        | true =>
          left
          rw [hok] at r5 r6
          refine ⟨rfl, ?_⟩
          have hfe : ∀ i, i < 256 * c → r.h.f i = h.f i := by
            intro i hi'
            by_cases e : i = l
            · rw [e, r5, hi.loop]; rw [hst]; rfl
            · rw [r6 i hi' e, if_neg (fun hh => by cases hh.2)]
          have hsm : Same c h r.h := hfe
          refine ⟨by omega, hi.g.same (by omega) hsm, hi.i.same (by omega) hsm, hi.sl.same (hsm.mono (by omega)), hi.nn.same (by omega) hsm, (hsm _ (by omega)).trans hi.res, (hsm _ (by omega)).trans hi.loop, (hsm _ (by omega)).trans hi.dfr, hi.same.trans (hsm.mono (by omega)), ?_⟩
          intro j hj
          by_cases e : j = 4 * t + f
          · rw [e, hk4.1, hk4.2]; exact hok
          · exact hi.ok j (by omega)
        | false =>
          right
          rw [hok] at r5 r6
          refine ⟨rfl, by omega, ?_, ?_, ?_, ?_, ⟨4 * t + f, by omega, by rw [hk4.1, hk4.2]; exact hok⟩⟩
          · rw [r6 _ (by omega) (by omega), if_pos ⟨rfl, rfl⟩]
          · rw [r5]; rfl
          · rw [r6 _ (by omega) (by omega), if_neg (by omega)]; exact hi.dfr
          · intro i hi'
            rw [r6 i (by omega) (by omega), if_neg (by omega)]
            exact hi.same i hi'
    have hH0 : ∀ i, i < 256 * ce → H.f i = h0.f i := by
      intro i hi'
      rw [hH, newB_f, if_neg (by omega), newB_f, if_neg (by omega), newB_f, if_neg (by omega)]
    obtain ⟨E, hE⟩ : ∃ E, E = entryH (newB H (256 * (ce + 1 + 1 + 1 + 1)) [s]) (ce + 1 + 1 + 1 + 1 + 1 + 1) 71 [1, 2, 3] #[13, 14] f57_a57000 f57_c57000 [ptrTo (256 * ce), ptrTo (256 * ce + 1), ptrTo (256 * (ce + 1 + 1) + 1)] := ⟨_, rfl⟩
    have hEf : ∀ i, i < l → E.f i = (newB H (256 * (ce + 1 + 1 + 1 + 1)) [s]).f i := by
      intro i hi'
      rw [hE, entryH_f, if_neg (by omega), if_neg (by omega)]
    have hI0 : ChkI s n Gl (256 * ce) (256 * (ce + 1 + 1 + 1 + 1)) (256 * ce + 1) (256 * (ce + 1 + 1) + 1) l st (ce + 1 + 1 + 1 + 1 + 1 + 1 + 1) ce h0 0 E (ce + 1 + 1 + 1 + 1 + 1 + 1 + 1) := by
      have hsame : Same ce h0 E := by
        intro i hi'
        rw [hEf i (by omega), newB_f, if_neg (by omega)]
        exact hH0 i hi'
      refine ⟨Nat.le_refl _, ⟨false, none, ?_⟩, ⟨false, none, ?_⟩, (hs.same hsame).mono (by omega), ⟨false, none, ?_⟩, ?_, ?_, ?_, hsame, fun j hj => by omega⟩
      · show E.f _ = _
        rw [hEf _ (by omega), newB_f, if_neg (by omega), hH, newB_f, if_neg (by omega), newB_f, if_neg (by omega), newB_f, if_pos rfl]
      · show E.f _ = _
        rw [hEf _ (by omega), newB_f, if_pos rfl]
      · show E.f _ = _
        rw [hEf _ (by omega), newB_f, if_neg (by omega), hH, newB_f, if_pos rfl]
      · rw [hEf _ (by omega), newB_f, if_neg (by omega), hH, newB_f, if_neg (by omega), newB_f, if_pos rfl]
      · rw [hE, entryH_f, if_pos hl, hst, hl]
      · rw [hE, entryH_f, if_neg (by omega), if_pos (by omega)]
    obtain ⟨⟨re, rv, rh, rc, rd⟩, hr, r1, r2, r3, r4, r5⟩ := faces_sp hI hI0 []
    simp only at r1 r2 r3 r4 r5
    subst r1 r2 r3
    rw [hl, hE] at hr
    rcases r5 with r5 | r5
    · have hall : okAll Gl n = true := (okAll_iff Gl n).2 r5.ok
      rw [if_pos ⟨hn, hall⟩]
      have hlc := r5.lc
      have hg : HeapC.get rh (256 * ce + 1) = some (.cells false none [.int .i64 0]) := r5.res
      refine Ans.head (R := fun q => q = (Ex.normal, HeapC.del rh l, rc, [l + 1])) (rangeV_of (.intro hr ⟨st, .normal, by rw [← hl]; exact r5.loop, by rw [hst]; simp [entryL], by rw [hst]; rfl, by rw [hl]⟩)) ?_
      rintro _ rfl
      have e1 : stN (HeapC.del rh l) 1 (.pointer (some ⟨256 * ce + 1, 0, none⟩)) (.int .i64 0) = some (HeapC.set (HeapC.del rh l) (256 * ce + 1) (.cells false none [.int .i64 0])) :=
        st1_get (cs := [.int .i64 0]) (by rw [get_del_ne _ _ _ (by omega)]; exact hg) (by simp) rfl rfl
      have e2 : takeAll (HeapC.set (HeapC.del rh l) (256 * ce + 1) (.cells false none [.int .i64 0])) [l + 1] = some (HeapC.del (HeapC.set (HeapC.del rh l) (256 * ce + 1) (.cells false none [.int .i64 0])) (l + 1)) := by
        have : HeapC.get (HeapC.set (HeapC.del rh l) (256 * ce + 1) (.cells false none [.int .i64 0])) (l + 1) = some .dfr := by
          rw [get_set_ne _ _ _ _ (by omega), get_del_ne _ _ _ (by omega)]; exact r5.dfr
        simp [takeAll, this]
      have e3 : ld1 (HeapC.del (HeapC.set (HeapC.del rh l) (256 * ce + 1) (.cells false none [.int .i64 0])) (l + 1)) (.pointer (some ⟨256 * ce + 1, 0, none⟩)) = some (.int .i64 0) := by
        rw [ld1_del_ne _ _ _ _ (by omega)]
        exact ld1_holds ⟨_, _, get_set_same _ _ _⟩ rfl
      repeat (first
        | (with_reducible refine Ans.bt ?_ ?_; exact rfl)
        | (with_reducible refine Ans.bf ?_ ?_; exact rfl)
        | (with_reducible refine Ans.ct ?_ ?_; focus (simp; done))
        | (with_reducible refine Ans.cf ?_ ?_; focus (simp; done))
        | refine Ans.step (by (simp (disch := (first | omega | (simp <;> omega) | fail)) [e1, e2, e3, -List.getD_eq_getElem?_getD]) <;> rfl) ?_)
      refine Ans.done ⟨rfl, rfl, ?_, rfl⟩
      intro i hi'
      show (HeapC.del (HeapC.set (HeapC.del rh l) (256 * ce + 1) (.cells false none [.int .i64 0])) (l + 1)).f i = _
      rw [del_f, if_neg (by omega), set_f, if_neg (by omega), del_f, if_neg (by omega)]
      exact r5.same i hi'
    · have hall : ¬ (n ≤ 1000 ∧ okAll Gl n = true) := by
        rintro ⟨_, h⟩
        obtain ⟨j, h1, h2⟩ := r5.bad
        have := (okAll_iff Gl n).1 h j h1
        rw [h2] at this; cases this
      rw [if_neg hall]
      have hlc := r5.lc
      have hg : HeapC.get rh (256 * ce + 1) = some (.cells false none [.int .i64 7]) := r5.res
      refine Ans.head (R := fun q => q = (Ex.ret, HeapC.del rh l, rc, [l + 1])) (rangeV_of (.intro hr ⟨_, .ret, by rw [← hl]; exact r5.loop, by simp, rfl, by rw [hl]⟩)) ?_
      rintro _ rfl
      have e2 : takeAll (HeapC.del rh l) [l + 1] = some (HeapC.del (HeapC.del rh l) (l + 1)) := by
        have : HeapC.get (HeapC.del rh l) (l + 1) = some .dfr := by
          rw [get_del_ne _ _ _ (by omega)]; exact r5.dfr
        simp [takeAll, this]
      have e3 : ld1 (HeapC.del (HeapC.del rh l) (l + 1)) (.pointer (some ⟨256 * ce + 1, 0, none⟩)) = some (.int .i64 7) := by
        rw [ld1_del_ne _ _ _ _ (by omega), ld1_del_ne _ _ _ _ (by omega)]
        exact ld1_holds ⟨_, _, hg⟩ rfl
      repeat (first
        | (with_reducible refine Ans.bt ?_ ?_; exact rfl)
        | (with_reducible refine Ans.bf ?_ ?_; exact rfl)
        | (with_reducible refine Ans.ct ?_ ?_; focus (simp; done))
        | (with_reducible refine Ans.cf ?_ ?_; focus (simp; done))
        | refine Ans.step (by (simp (disch := (first | omega | (simp <;> omega) | fail)) [e2, e3, -List.getD_eq_getElem?_getD]) <;> rfl) ?_)
      refine Ans.done ⟨rfl, rfl, ?_, rfl⟩
      intro i hi'
      show (HeapC.del (HeapC.del rh l) (l + 1)).f i = _
      rw [del_f, if_neg (by omega), del_f, if_neg (by omega)]
      exact r5.same i hi'
  · have hn' : (1000 : Int) < n := by omega
    have : ¬ (n ≤ 1000 ∧ okAll Gl n = true) := fun h => hn h.1
    rw [if_neg this]
    repeat (first
      | (with_reducible refine Ans.bt ?_ ?_; exact rfl)
      | (with_reducible refine Ans.bf ?_ ?_; exact rfl)
      | (with_reducible refine Ans.ct ?_ ?_; focus (simp; done))
      | (with_reducible refine Ans.cf ?_ ?_; focus (simp; done))
      | refine Ans.step (by (simp (disch := (first | omega | (simp <;> omega) | fail)) [hlen, hn', -List.getD_eq_getElem?_getD]) <;> rfl) ?_)
    refine Ans.done ?_
    simp (disch := omega)
end Go.Proofs.Ytemkjcpfgmbibaa

namespace Go.Proofs.Ytemkjcpfgmbibaa
open Go Go.Ab Go.Proofs
set_option maxRecDepth 100000
set_option linter.unusedVariables false
set_option linter.unusedSimpArgs false

theorem refV_loop (p : List Int) (hp : p.length = 4) (h : FH) (b1 b3 c : Nat) (hb1 : b1 < 256 * c) (hb3 : b3 < 256 * c) (hne : b1 ≠ b3) (hh : Holds h b1 (ints p)) (df : List Nat) : ∀ (k i : Nat) (m : List Bool), i + k = 4 → m.length = 4 →
    Ans (G (f50_k50000 none) [ptrTo b1, .bool false, ptrTo b3, .int .i64 i] (newB h b3 (bools m)) c df) fun r => r.c = c ∧ r.df = df ∧ (∃ cs, r.h = newB h b3 cs) ∧
      (if refV (p.drop i) m = true then r.e = .exit 0 else r.e = .ret ∧ r.v 1 = .bool false) := by
  intro k
  induction k with
  | zero =>
    intro i m hi hm
    obtain rfl : i = 4 := by omega
    rw [List.drop_of_length_le (by omega)]
    refine .intro (f50_Z50000 (q := ⟨.exit 0, [ptrTo b1, .bool false, ptrTo b3, .int .i64 (4 : Nat)], newB h b3 (bools m), c + 1, df⟩) (by unfold f50_L50000; simp) (by simp)) ?_
    rw [gcR_same (by simp [hb1, hb3])]
    refine ⟨rfl, rfl, ⟨_, rfl⟩, ?_⟩
    simp [refV]
  | succ k ih =>
    intro i m hi hm
    have hlt : i < p.length := by omega
    have e0 : (i : Int) < 4 := by omega
    have hld : ∀ j, j < 4 → ld1 (newB h b3 (bools m)) (.pointer (some ⟨b1, j, none⟩)) = some (.int .i64 (p.getD j 0)) := fun j hj => by
      rw [ld1_newB_ne _ _ _ _ _ hne]
      exact ld1_holds hh (by rw [ints_getD _ _ (by omega)])
    have hldi := hld i (by omega)
    obtain ⟨x, hx⟩ : ∃ x, x = p.getD i 0 := ⟨_, rfl⟩
    have hdr : p.drop i = x :: p.drop (i + 1) := by
      rw [List.drop_eq_getElem_cons hlt, hx]
      simp [List.getD, List.getElem?_eq_getElem hlt]
    rw [hdr, refV]
    rw [← hx] at hldi
    by_cases h1 : x < 0
    · rw [if_pos (Or.inl h1)]
      refine Ans.intro (f50_Z50000 (q := ⟨.ret, [ptrTo b1, .bool false, ptrTo b3, .int .i64 i], newB h b3 (bools m), _, df⟩) (Ans.eq (by
        unfold f50_L50000
        repeat (first
          | (with_reducible refine Ans.bt ?_ ?_; exact rfl)
          | (with_reducible refine Ans.bf ?_ ?_; exact rfl)
          | (with_reducible refine Ans.ct ?_ ?_; focus (simp; done))
          | (with_reducible refine Ans.cf ?_ ?_; focus (simp; done))
          | refine Ans.step (by (simp (disch := (first | omega | (simp <;> omega) | fail)) [e0, hldi, h1, -List.getD_eq_getElem?_getD]) <;> rfl) ?_)
        exact .done rfl)) (by simp)) ?_
      rw [gcR_same (by simp [hb1, hb3])]
      exact ⟨rfl, rfl, ⟨_, rfl⟩, by simp⟩
    by_cases h2 : 3 < x
    · rw [if_pos (Or.inr h2)]
      refine Ans.intro (f50_Z50000 (q := ⟨.ret, [ptrTo b1, .bool false, ptrTo b3, .int .i64 i], newB h b3 (bools m), _, df⟩) (Ans.eq (by
        unfold f50_L50000
        repeat (first
          | (with_reducible refine Ans.bt ?_ ?_; exact rfl)
          | (with_reducible refine Ans.bf ?_ ?_; exact rfl)
          | (with_reducible refine Ans.ct ?_ ?_; focus (simp; done))
          | (with_reducible refine Ans.cf ?_ ?_; focus (simp; done))
          | refine Ans.step (by (simp (disch := (first | omega | (simp <;> omega) | fail)) [e0, hldi, h1, h2, -List.getD_eq_getElem?_getD]) <;> rfl) ?_)
        exact .done rfl)) (by simp)) ?_
      rw [gcR_same (by simp [hb1, hb3])]
      exact ⟨rfl, rfl, ⟨_, rfl⟩, by simp⟩
    rw [if_neg (by omega)]
    have hldm : ld1 (newB h b3 (bools m)) (.pointer (some ⟨b3, x.toNat, none⟩)) = some (.bool (m.getD x.toNat false)) := by
      rw [ld1_newB_same, bools_get _ _ (by omega)]
    by_cases h3 : m.getD x.toNat false = true
    · rw [if_pos h3]
      rw [h3] at hldm
      refine Ans.intro (f50_Z50000 (q := ⟨.ret, [ptrTo b1, .bool false, ptrTo b3, .int .i64 i], newB h b3 (bools m), _, df⟩) (Ans.eq (by
        unfold f50_L50000
        repeat (first
          | (with_reducible refine Ans.bt ?_ ?_; exact rfl)
          | (with_reducible refine Ans.bf ?_ ?_; exact rfl)
          | (with_reducible refine Ans.ct ?_ ?_; focus (simp; done))
          | (with_reducible refine Ans.cf ?_ ?_; focus (simp; done))
          | refine Ans.step (by (simp (disch := (first | omega | (simp <;> omega) | fail)) [e0, hldi, h1, h2, hldm, -List.getD_eq_getElem?_getD]) <;> rfl) ?_)
        exact .done rfl)) (by simp)) ?_
      rw [gcR_same (by simp [hb1, hb3])]
      exact ⟨rfl, rfl, ⟨_, rfl⟩, by simp⟩
    rw [if_neg h3]
    have h3' : m.getD x.toNat false = false := by simpa using h3
    rw [h3'] at hldm
    obtain ⟨r, hr, hq⟩ := ih (i + 1) (m.set x.toNat true) (by omega) (by simpa using hm)
    have hst : stN (newB h b3 (bools m)) 1 (.pointer (some ⟨b3, x.toNat, none⟩)) (.bool true) = some (newB h b3 (bools (m.set x.toNat true))) := by
      rw [st1_bool _ _ _ _ _ (by rw [bools_length]; omega), bools_set]
    refine .intro (f50_N50000 (q := ⟨.normal, [ptrTo b1, .bool false, ptrTo b3, .int .i64 (i + 1 : Nat)], newB h b3 (bools (m.set x.toNat true)), _, df⟩) (Ans.eq (by
        unfold f50_L50000
        repeat (first
          | (with_reducible refine Ans.bt ?_ ?_; exact rfl)
          | (with_reducible refine Ans.bf ?_ ?_; exact rfl)
          | (with_reducible refine Ans.ct ?_ ?_; focus (simp; done))
          | (with_reducible refine Ans.cf ?_ ?_; focus (simp; done))
          | refine Ans.step (by (simp (disch := (first | omega | (simp <;> omega) | fail)) [e0, hldi, h1, h2, hldm, hst, -List.getD_eq_getElem?_getD]) <;> rfl) ?_)
        exact .done rfl)) rfl ?_) hq
    rw [gcR_upd hb3 (by simp [hb1, hb3]) (OkVs.bools _ _)]
    exact hr

theorem validR_sp (p : List Int) (hp : p.length = 4) (h : FH) (c : Nat) (df : List Nat) :
    G (.fn 50) [av p] h c df = some { e := .ret, vs := [.bool (validB p)], h := h, c := c, df := [] } := by
  refine pure_of (fun r e => f50_go e) (by simp) ?_
  obtain ⟨⟨re, rv, rh, rc, rd⟩, hr, h1, h2, ⟨cs, h3⟩, h4⟩ := refV_loop p hp (newB h (256 * c) (ints p)) (256 * c) (256 * (c + 1)) (c + 1 + 1 + 1) (by omega) (by omega) (by omega) (Holds.newB_same _ _ _) [] 4 0 [false, false, false, false] rfl rfl
  simp only at h1 h2 h3
  subst h1 h2 h3
  rw [← refV_eq p hp]
  unfold f50_S
  simp only [List.drop_zero] at h4
  simp only [Int.ofNat_eq_natCast, Int.cast_ofNat_Int] at hr
  have hb : bools [false, false, false, false] = [.bool false, .bool false, .bool false, .bool false] := rfl
  rw [hb] at hr
  cases hv : refV p [false, false, false, false] with
  | true =>
    rw [hv, if_pos rfl] at h4
    subst h4
    simp (disch := omega) [hr, hp]
  | false =>
    rw [hv, if_neg (by simp)] at h4
    obtain ⟨rfl, h5⟩ := h4
    simp (disch := omega) [hr, hp, h5]
theorem callF_validR (p : List Int) (hp : p.length = 4) (h : FH) (c : Nat) : callF G 50 [av p] h c = some (.bool (validB p), h, c) := callF_of (validR_sp p hp h c [])

theorem inverseR_loop (p : List Int) (hp : p.length = 4) (hr : InR p) (h : FH) (b1 b2 b3 c : Nat) (hb1 : b1 < 256 * c) (hb2 : b2 < 256 * c) (hb3 : b3 < 256 * c) (hne : b1 ≠ b3) (hh : Holds h b1 (ints p)) (df : List Nat) : ∀ (k i : Nat) (out : List Int), i + k = 4 → out.length = 4 →
    G (f47_k47000 none) [ptrTo b1, ptrTo b2, ptrTo b3, .int .i64 i] (newB h b3 (ints out)) c df =
      some { e := .exit 0, vs := [ptrTo b1, ptrTo b2, ptrTo b3, .int .i64 4], h := newB h b3 (ints (invL (p.drop i) i out)), c := c, df := df } := by
  intro k
  induction k with
  | zero =>
    intro i out hi ho
    obtain rfl : i = 4 := by omega
    rw [List.drop_of_length_le (by omega)]
    refine (f47_Z47000 (q := ⟨.exit 0, [ptrTo b1, ptrTo b2, ptrTo b3, .int .i64 4], newB h b3 (ints out), c + 1, df⟩) (by unfold f47_L47000; simp) (by simp)).trans ?_
    rw [gcR_same (by simp [hb1, hb2, hb3])]
    rfl
  | succ k ih =>
    intro i out hi ho
    have hlt : i < p.length := by omega
    have e0 : (i : Int) < 4 := by omega
    have hld : ld1 (newB h b3 (ints out)) (.pointer (some ⟨b1, i, none⟩)) = some (.int .i64 (p.getD i 0)) := by
      rw [ld1_newB_ne _ _ _ _ _ hne]
      exact ld1_holds hh (by rw [ints_getD _ _ (by omega)])
    obtain ⟨x, hx⟩ : ∃ x, x = p.getD i 0 := ⟨_, rfl⟩
    have hdr : p.drop i = x :: p.drop (i + 1) := by
      rw [List.drop_eq_getElem_cons hlt, hx]
      simp [List.getD, List.getElem?_eq_getElem hlt]
    have hxr : 0 ≤ x ∧ x < 4 := by
      rw [hx]
      have := hr p[i] (List.getElem_mem hlt)
      simpa [List.getD, List.getElem?_eq_getElem hlt] using this
    rw [hdr, invL]
    rw [← hx] at hld
    refine f47_N47000 (q := ⟨.normal, [ptrTo b1, ptrTo b2, ptrTo b3, .int .i64 (i + 1 : Nat)], newB h b3 (ints (out.set x.toNat i)), _, df⟩) (Ans.eq (by
      unfold f47_L47000
      repeat (first
        | (with_reducible refine Ans.bt ?_ ?_; exact rfl)
        | (with_reducible refine Ans.bf ?_ ?_; exact rfl)
        | (with_reducible refine Ans.ct ?_ ?_; focus (simp; done))
        | (with_reducible refine Ans.cf ?_ ?_; focus (simp; done))
        | refine Ans.step (by (simp (disch := (first | omega | (simp <;> omega) | fail)) [e0, hld, hxr, ho, -List.getD_eq_getElem?_getD]) <;> rfl) ?_)
      exact .done rfl)) rfl ?_
    rw [gcR_upd hb3 (by simp [hb1, hb2, hb3]) (by simp)]
    exact ih (i + 1) _ (by omega) (by simpa using ho)

def invR (p : List Int) : List Int := if validB p = true then inv p else [0, 0, 0, 0]
theorem inverseR_sp (p : List Int) (hp : p.length = 4) (h : FH) (c : Nat) (df : List Nat) :
    G (.fn 47) [av p] h c df = some { e := .ret, vs := [av (invR p)], h := h, c := c, df := [] } := by
  refine pure_of (fun r e => f47_go e) (by simp) ?_
  have e1 : p.take 4 = p := List.take_of_length_le (by omega)
  have hv := fun h c => callF_validR p hp h c
  unfold f47_S invR
  by_cases hb : validB p = true
  · rw [if_pos hb]
    rw [hb] at hv
    have hl := inverseR_loop p hp (validB_range hb) (newB (newB h (256 * c) (ints p)) (256 * c + 1) (ints [0, 0, 0, 0])) (256 * c) (256 * c + 1) (256 * (c + 1)) (c + 1 + 1 + 1 + 1) (by omega) (by omega) (by omega) (by omega)
      (Holds.newB_ne (by omega) (Holds.newB_same _ _ _)) [] 4 0 [0, 0, 0, 0] rfl rfl
    have hl2 : (invL p 0 [0, 0, 0, 0]).length = 4 := invL_length p 0 [0, 0, 0, 0]
    have e2 : (invL p 0 [0, 0, 0, 0]).take 4 = invL p 0 [0, 0, 0, 0] := List.take_of_length_le (by omega)
    simp only [ints_cons, ints_nil, Int.ofNat_eq_natCast, Int.cast_ofNat_Int, List.drop_zero] at hl
    simp (disch := (first | omega | (simp <;> omega) | fail)) [hl, e1, e2, hp, hl2, inv, hv]
  · rw [if_neg hb]
    have hb' : validB p = false := by simpa using hb
    rw [hb'] at hv
    have hz : [Value.int .i64 0, Value.int .i64 0, Value.int .i64 0, Value.int .i64 0] = ints [0, 0, 0, 0] := rfl
    rw [hz]
    repeat (first
      | (with_reducible refine Ans.bt ?_ ?_; exact rfl)
      | (with_reducible refine Ans.bf ?_ ?_; exact rfl)
      | (with_reducible refine Ans.ct ?_ ?_; focus (simp; done))
      | (with_reducible refine Ans.cf ?_ ?_; focus (simp; done))
      | refine Ans.step (by (simp (disch := (first | omega | (simp <;> omega) | fail)) [e1, hp, hv, -List.getD_eq_getElem?_getD]) <;> rfl) ?_)
    refine .done ⟨rfl, rfl, ?_, rfl⟩
    simp (disch := omega)

theorem composeR_loop (p q : List Int) (hp : p.length = 4) (hq : q.length = 4) (hr : InR q) (h : FH) (b1 b2 b3 b4 c : Nat) (hb1 : b1 < 256 * c) (hb2 : b2 < 256 * c) (hb3 : b3 < 256 * c) (hb4 : b4 < 256 * c) (hne1 : b1 ≠ b4) (hne2 : b2 ≠ b4)
    (hh1 : Holds h b1 (ints p)) (hh2 : Holds h b2 (ints q)) (df : List Nat) : ∀ (k i : Nat) (out : List Int), i + k = 4 → out.length = 4 → out.take i = (comp p q).take i →
    G (f45_k45000 none) [ptrTo b1, ptrTo b2, ptrTo b3, ptrTo b4, .int .i64 i] (newB h b4 (ints out)) c df =
      some { e := .exit 0, vs := [ptrTo b1, ptrTo b2, ptrTo b3, ptrTo b4, .int .i64 4], h := newB h b4 (ints (comp p q)), c := c, df := df } := by
  intro k
  induction k with
  | zero =>
    intro i out hi ho ht
    obtain rfl : i = 4 := by omega
    have hcl : (comp p q).length = 4 := by simp [comp, hq]
    rw [List.take_of_length_le (by omega), List.take_of_length_le (by omega)] at ht
    subst ht
    refine (f45_Z45000 (q := ⟨.exit 0, [ptrTo b1, ptrTo b2, ptrTo b3, ptrTo b4, .int .i64 4], newB h b4 (ints (comp p q)), c + 1, df⟩) (by unfold f45_L45000; simp) (by simp)).trans ?_
    rw [gcR_same (by simp [hb1, hb2, hb3, hb4])]
  | succ k ih =>
    intro i out hi ho ht
    have hlt : i < q.length := by omega
    have e0 : (i : Int) < 4 := by omega
    have hld1 : ∀ j, j < 4 → ld1 (newB h b4 (ints out)) (.pointer (some ⟨b1, j, none⟩)) = some (.int .i64 (p.getD j 0)) := fun j hj => by
      rw [ld1_newB_ne _ _ _ _ _ hne1]
      exact ld1_holds hh1 (by rw [ints_getD _ _ (by omega)])
    have hld2 : ld1 (newB h b4 (ints out)) (.pointer (some ⟨b2, i, none⟩)) = some (.int .i64 (q.getD i 0)) := by
      rw [ld1_newB_ne _ _ _ _ _ hne2]
      exact ld1_holds hh2 (by rw [ints_getD _ _ (by omega)])
    obtain ⟨x, hx⟩ : ∃ x, x = q.getD i 0 := ⟨_, rfl⟩
    have hxr : 0 ≤ x ∧ x < 4 := by
      rw [hx]
      have := hr q[i] (List.getElem_mem hlt)
      simpa [List.getD, List.getElem?_eq_getElem hlt] using this
    rw [← hx] at hld2
    have hld1x := hld1 x.toNat (by omega)
    refine f45_N45000 (q := ⟨.normal, [ptrTo b1, ptrTo b2, ptrTo b3, ptrTo b4, .int .i64 (i + 1 : Nat)], newB h b4 (ints (out.set i (p.getD x.toNat 0))), _, df⟩) (Ans.eq (by
      unfold f45_L45000
      repeat (first
        | (with_reducible refine Ans.bt ?_ ?_; exact rfl)
        | (with_reducible refine Ans.bf ?_ ?_; exact rfl)
        | (with_reducible refine Ans.ct ?_ ?_; focus (simp; done))
        | (with_reducible refine Ans.cf ?_ ?_; focus (simp; done))
        | refine Ans.step (by (simp (disch := (first | omega | (simp <;> omega) | fail)) [e0, hld2, hld1x, hxr, ho, -List.getD_eq_getElem?_getD]) <;> rfl) ?_)
      exact .done rfl)) rfl ?_
    rw [gcR_upd hb4 (by simp [hb1, hb2, hb3, hb4]) (by simp)]
    refine ih (i + 1) _ (by omega) (by simpa using ho) ?_
    have hcl : (comp p q).length = 4 := by simp [comp, hq]
    have hci : (comp p q)[i]'(by omega) = p.getD x.toNat 0 := by
      simp only [comp, List.getElem_map, hx]
      simp [List.getD, List.getElem?_eq_getElem hlt]
    rw [List.take_add_one, List.take_add_one, List.take_set_of_le (by omega), ht, List.getElem?_set_self (by omega), List.getElem?_eq_getElem (by omega : i < (comp p q).length), hci]

def compR (p q : List Int) : List Int := if validB p = true ∧ validB q = true then comp p q else [0, 0, 0, 0]
theorem composeR_sp (p q : List Int) (hp : p.length = 4) (hq : q.length = 4) (h : FH) (c : Nat) (df : List Nat) :
    G (.fn 45) [av p, av q] h c df = some { e := .ret, vs := [av (compR p q)], h := h, c := c, df := [] } := by
  refine pure_of (fun r e => f45_go e) (by simp) ?_
  have e1 : p.take 4 = p := List.take_of_length_le (by omega)
  have e2 : q.take 4 = q := List.take_of_length_le (by omega)
  have hv := fun h c => callF_validR p hp h c
  have hw := fun h c => callF_validR q hq h c
  have hz : [Value.int .i64 0, Value.int .i64 0, Value.int .i64 0, Value.int .i64 0] = ints [0, 0, 0, 0] := rfl
  unfold f45_S compR
  rw [hz]
  by_cases hb : validB p = true
  · rw [hb] at hv
    by_cases hc : validB q = true
    · rw [if_pos ⟨hb, hc⟩]
      rw [hc] at hw
      have hcl : (comp p q).length = 4 := by simp [comp, hq]
      have e3 : (comp p q).take 4 = comp p q := List.take_of_length_le (by omega)
      have hl := fun c' (hc' : c < c') => composeR_loop p q hp hq (validB_range hc) (newB (newB (newB h (256 * c) (ints p)) (256 * c + 1) (ints q)) (256 * c + 2) (ints [0, 0, 0, 0])) (256 * c) (256 * c + 1) (256 * c + 2) (256 * (c + 1)) (c' + 1) (by omega) (by omega) (by omega) (by omega) (by omega) (by omega)
        (Holds.newB_ne (by omega) (Holds.newB_ne (by omega) (Holds.newB_same _ _ _))) (Holds.newB_ne (by omega) (Holds.newB_same _ _ _)) [] 4 0 [0, 0, 0, 0] rfl rfl rfl
      have hl1 := hl (c + 1 + 1 + 1) (by omega)
      simp only [Int.ofNat_eq_natCast, Int.cast_ofNat_Int] at hl1
      repeat (first
        | (with_reducible refine Ans.bt ?_ ?_; exact rfl)
        | (with_reducible refine Ans.bf ?_ ?_; exact rfl)
        | (with_reducible refine Ans.ct ?_ ?_; focus (simp; done))
        | (with_reducible refine Ans.cf ?_ ?_; focus (simp; done))
        | refine Ans.step (by (simp (disch := (first | omega | (simp <;> omega) | fail)) [e1, e2, e3, hp, hq, hv, hw, hl1, hcl, -List.getD_eq_getElem?_getD]) <;> rfl) ?_)
      refine .done ⟨rfl, rfl, ?_, rfl⟩
      simp (disch := omega)
    · rw [if_neg (fun h => hc h.2)]
      have hc' : validB q = false := by simpa using hc
      rw [hc'] at hw
      repeat (first
        | (with_reducible refine Ans.bt ?_ ?_; exact rfl)
        | (with_reducible refine Ans.bf ?_ ?_; exact rfl)
        | (with_reducible refine Ans.ct ?_ ?_; focus (simp; done))
        | (with_reducible refine Ans.cf ?_ ?_; focus (simp; done))
        | refine Ans.step (by (simp (disch := (first | omega | (simp <;> omega) | fail)) [e1, e2, hp, hq, hv, hw, -List.getD_eq_getElem?_getD]) <;> rfl) ?_)
      refine .done ⟨rfl, rfl, ?_, rfl⟩
      simp (disch := omega)
  · rw [if_neg (fun h => hb h.1)]
    have hb' : validB p = false := by simpa using hb
    rw [hb'] at hv
    repeat (first
      | (with_reducible refine Ans.bt ?_ ?_; exact rfl)
      | (with_reducible refine Ans.bf ?_ ?_; exact rfl)
      | (with_reducible refine Ans.ct ?_ ?_; focus (simp; done))
      | (with_reducible refine Ans.cf ?_ ?_; focus (simp; done))
      | refine Ans.step (by (simp (disch := (first | omega | (simp <;> omega) | fail)) [e1, e2, hp, hq, hv, -List.getD_eq_getElem?_getD]) <;> rfl) ?_)
    refine .done ⟨rfl, rfl, ?_, rfl⟩
    simp (disch := omega)
end Go.Proofs.Ytemkjcpfgmbibaa
