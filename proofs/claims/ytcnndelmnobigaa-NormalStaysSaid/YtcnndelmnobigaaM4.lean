/- Parts of a proof: E AbSym AbX AbPerm AbGlue C1 AbRng C2 C3 C4 AbAuto AbGo AbPm AbRn AbRow AbSub. Conditions: none. -/
import Derived.Test.YtcnndelmnobigaaM2
import Derived.Test.YtcnndelmnobigaaM3
import Derived.KernelRfl
import Derived.ProofKit
set_option linter.all false
namespace Go.Proofs.Ytcnndelmnobigaa
open Go Go.Ab Go.Proofs
set_option maxRecDepth 100000
set_option linter.unusedVariables false
variable {H : Type} [HeapC H]
noncomputable def K : LB := { loop := fun j => BT.look ((.node 47001 ([2, 4, 7, 15, 16, 17, 35, 36], f47_c47001, 71) (.node 23002 ([1, 4, 5, 8, 11, 12, 33, 34, 35, 81, 82], f23_c23002, 112) (.node 15001 ([1, 7, 8, 28, 29, 30, 35, 36], f15_c15001, 80) (.node 14000 ([1, 5, 7, 26, 27, 28], f14_c14000, 68) (.node 13001 ([1, 2, 3, 4, 5], f13_c13001, 83) (.node 13000 ([1, 2, 3, 4], f13_c13000, 83) .leaf .leaf) .leaf) (.node 15000 ([1, 7, 28, 29, 30], f15_c15000, 80) (.node 14001 ([1, 5, 7, 9, 10, 26, 27, 28, 42, 43], f14_c14001, 68) .leaf .leaf) .leaf)) (.node 23000 ([1, 4, 5, 8, 33, 34, 35], f23_c23000, 112) (.node 21000 ([0, 1, 4, 5], f21_c21000, 26) (.node 15002 ([1, 7, 8, 10, 28, 29, 30, 35, 36, 63], f15_c15002, 80) .leaf .leaf) .leaf) (.node 23001 ([1, 4, 5, 8, 11, 12, 33, 34, 35, 53, 54], f23_c23001, 112) .leaf .leaf))) (.node 42000 ([1, 2, 3, 4], f42_c42000, 19) (.node 40001 ([2, 3, 4, 5, 7, 8, 9, 10, 11], f40_c40001, 135) (.node 40000 ([2, 3, 4, 5, 7, 8, 9], f40_c40000, 135) (.node 25000 ([1, 2, 4, 5, 29, 30], f25_c25000, 52) .leaf .leaf) .leaf) (.node 41000 ([1, 2, 3, 4], f41_c41000, 30) (.node 40002 ([2, 3, 4, 5, 7, 8, 9, 10, 11, 14], f40_c40002, 135) .leaf .leaf) .leaf)) (.node 46000 ([0, 1], f46_c46000, 22) (.node 45000 ([0, 3, 9, 10], f45_c45000, 24) (.node 44001 ([6, 7, 8, 52], f44_c44001, 92) .leaf .leaf) .leaf) (.node 47000 ([2, 4, 15, 16, 17], f47_c47000, 71) .leaf .leaf)))) (.node 71000 ([2, 3, 10, 11], f71_c71000, 21) (.node 57002 ([2, 4, 5, 7, 11, 14, 15, 16, 62, 63, 64], f57_c57002, 200) (.node 56000 ([3, 6, 7, 8], f56_c56000, 19) (.node 49000 ([1, 7, 19, 20, 21], f49_c49000, 36) (.node 48000 ([3, 6, 7, 8], f48_c48000, 17) .leaf .leaf) .leaf) (.node 57001 ([2, 4, 5, 7, 11, 62, 63, 64], f57_c57001, 200) (.node 57000 ([1, 2, 4, 5, 6, 7, 33, 34], f57_c57000, 200) .leaf .leaf) .leaf)) (.node 68000 ([0, 3, 4, 5], f68_c68000, 43) (.node 57004 ([2, 4, 5, 7, 11, 15, 62, 63, 64, 177, 178, 179], f57_c57004, 200) (.node 57003 ([2, 4, 5, 7, 11, 14, 15, 16, 17, 18, 62, 63, 64, 93, 94], f57_c57003, 200) .leaf .leaf) .leaf) (.node 69000 ([0, 2, 3, 4, 5], f69_c69000, 51) .leaf .leaf))) (.node 85000 ([2, 3, 6, 7], f85_c85000, 16) (.node 77001 ([0, 3, 9, 10, 11, 16, 17], f77_c77001, 72) (.node 77000 ([0, 9, 10, 11], f77_c77000, 72) (.node 74000 ([0, 1, 7, 8, 9, 34], f74_c74000, 56) .leaf .leaf) .leaf) (.node 84000 ([2, 3, 6, 7], f84_c84000, 23) (.node 77002 ([0, 3, 5, 6, 9, 10, 11, 16, 17, 44], f77_c77002, 72) .leaf .leaf) .leaf)) (.node 91000 ([0, 1, 8, 9], f91_c91000, 30) (.node 90000 ([0, 1, 4, 7, 8], f90_c90000, 19) (.node 86000 ([0, 1, 4, 7, 8], f86_c86000, 19) .leaf .leaf) .leaf) (.node 91001 ([0, 1, 3, 8, 9, 16, 17], f91_c91001, 30) .leaf .leaf))))) : BT (List Nat × ACode × Nat)) j, rng := fun nt ps => lookR nt ps [(92, [25], ([1, 5, 6], f44_a44000, f44_c44000)), (71, [52], ([4, 7], f47_a47002, f47_c47002)), (71, [13, 14], ([1, 2, 3], f70_a70000, f70_c70000))] }
theorem kl_13000 : K.loop 13000 = some ([1, 2, 3, 4], f13_c13000, 83) := by kernel_rfl
theorem kl_13001 : K.loop 13001 = some ([1, 2, 3, 4, 5], f13_c13001, 83) := by kernel_rfl
theorem kl_14000 : K.loop 14000 = some ([1, 5, 7, 26, 27, 28], f14_c14000, 68) := by kernel_rfl
theorem kl_14001 : K.loop 14001 = some ([1, 5, 7, 9, 10, 26, 27, 28, 42, 43], f14_c14001, 68) := by kernel_rfl
theorem kl_15000 : K.loop 15000 = some ([1, 7, 28, 29, 30], f15_c15000, 80) := by kernel_rfl
theorem kl_15001 : K.loop 15001 = some ([1, 7, 8, 28, 29, 30, 35, 36], f15_c15001, 80) := by kernel_rfl
theorem kl_15002 : K.loop 15002 = some ([1, 7, 8, 10, 28, 29, 30, 35, 36, 63], f15_c15002, 80) := by kernel_rfl
theorem kl_21000 : K.loop 21000 = some ([0, 1, 4, 5], f21_c21000, 26) := by kernel_rfl
theorem kl_23000 : K.loop 23000 = some ([1, 4, 5, 8, 33, 34, 35], f23_c23000, 112) := by kernel_rfl
theorem kl_23001 : K.loop 23001 = some ([1, 4, 5, 8, 11, 12, 33, 34, 35, 53, 54], f23_c23001, 112) := by kernel_rfl
theorem kl_23002 : K.loop 23002 = some ([1, 4, 5, 8, 11, 12, 33, 34, 35, 81, 82], f23_c23002, 112) := by kernel_rfl
theorem kl_25000 : K.loop 25000 = some ([1, 2, 4, 5, 29, 30], f25_c25000, 52) := by kernel_rfl
theorem kl_40000 : K.loop 40000 = some ([2, 3, 4, 5, 7, 8, 9], f40_c40000, 135) := by kernel_rfl
theorem kl_40001 : K.loop 40001 = some ([2, 3, 4, 5, 7, 8, 9, 10, 11], f40_c40001, 135) := by kernel_rfl
theorem kl_40002 : K.loop 40002 = some ([2, 3, 4, 5, 7, 8, 9, 10, 11, 14], f40_c40002, 135) := by kernel_rfl
theorem kl_41000 : K.loop 41000 = some ([1, 2, 3, 4], f41_c41000, 30) := by kernel_rfl
theorem kl_42000 : K.loop 42000 = some ([1, 2, 3, 4], f42_c42000, 19) := by kernel_rfl
theorem kl_44001 : K.loop 44001 = some ([6, 7, 8, 52], f44_c44001, 92) := by kernel_rfl
theorem kl_45000 : K.loop 45000 = some ([0, 3, 9, 10], f45_c45000, 24) := by kernel_rfl
theorem kl_46000 : K.loop 46000 = some ([0, 1], f46_c46000, 22) := by kernel_rfl
theorem kl_47000 : K.loop 47000 = some ([2, 4, 15, 16, 17], f47_c47000, 71) := by kernel_rfl
theorem kl_47001 : K.loop 47001 = some ([2, 4, 7, 15, 16, 17, 35, 36], f47_c47001, 71) := by kernel_rfl
theorem kl_48000 : K.loop 48000 = some ([3, 6, 7, 8], f48_c48000, 17) := by kernel_rfl
theorem kl_49000 : K.loop 49000 = some ([1, 7, 19, 20, 21], f49_c49000, 36) := by kernel_rfl
theorem kl_56000 : K.loop 56000 = some ([3, 6, 7, 8], f56_c56000, 19) := by kernel_rfl
theorem kl_57000 : K.loop 57000 = some ([1, 2, 4, 5, 6, 7, 33, 34], f57_c57000, 200) := by kernel_rfl
theorem kl_57001 : K.loop 57001 = some ([2, 4, 5, 7, 11, 62, 63, 64], f57_c57001, 200) := by kernel_rfl
theorem kl_57002 : K.loop 57002 = some ([2, 4, 5, 7, 11, 14, 15, 16, 62, 63, 64], f57_c57002, 200) := by kernel_rfl
theorem kl_57003 : K.loop 57003 = some ([2, 4, 5, 7, 11, 14, 15, 16, 17, 18, 62, 63, 64, 93, 94], f57_c57003, 200) := by kernel_rfl
theorem kl_57004 : K.loop 57004 = some ([2, 4, 5, 7, 11, 15, 62, 63, 64, 177, 178, 179], f57_c57004, 200) := by kernel_rfl
theorem kl_68000 : K.loop 68000 = some ([0, 3, 4, 5], f68_c68000, 43) := by kernel_rfl
theorem kl_69000 : K.loop 69000 = some ([0, 2, 3, 4, 5], f69_c69000, 51) := by kernel_rfl
theorem kl_71000 : K.loop 71000 = some ([2, 3, 10, 11], f71_c71000, 21) := by kernel_rfl
theorem kl_74000 : K.loop 74000 = some ([0, 1, 7, 8, 9, 34], f74_c74000, 56) := by kernel_rfl
theorem kl_77000 : K.loop 77000 = some ([0, 9, 10, 11], f77_c77000, 72) := by kernel_rfl
theorem kl_77001 : K.loop 77001 = some ([0, 3, 9, 10, 11, 16, 17], f77_c77001, 72) := by kernel_rfl
theorem kl_77002 : K.loop 77002 = some ([0, 3, 5, 6, 9, 10, 11, 16, 17, 44], f77_c77002, 72) := by kernel_rfl
theorem kl_84000 : K.loop 84000 = some ([2, 3, 6, 7], f84_c84000, 23) := by kernel_rfl
theorem kl_85000 : K.loop 85000 = some ([2, 3, 6, 7], f85_c85000, 16) := by kernel_rfl
theorem kl_86000 : K.loop 86000 = some ([0, 1, 4, 7, 8], f86_c86000, 19) := by kernel_rfl
theorem kl_90000 : K.loop 90000 = some ([0, 1, 4, 7, 8], f90_c90000, 19) := by kernel_rfl
theorem kl_91000 : K.loop 91000 = some ([0, 1, 8, 9], f91_c91000, 30) := by kernel_rfl
theorem kl_91001 : K.loop 91001 = some ([0, 1, 3, 8, 9, 16, 17], f91_c91001, 30) := by kernel_rfl
theorem kr_47002 : K.rng 71 [52] = some ([4, 7], f47_a47002, f47_c47002) := by kernel_rfl
theorem kr_44000 : K.rng 92 [25] = some ([1, 5, 6], f44_a44000, f44_c44000) := by kernel_rfl
theorem kr_70000 : K.rng 71 [13, 14] = some ([1, 2, 3], f70_a70000, f70_c70000) := by kernel_rfl
theorem ck_11 : CodeOK K f11_f.nt f11_f.code := (And.intro trivial (And.intro trivial (And.intro trivial (And.intro trivial (And.intro (And.intro trivial (And.intro (And.intro trivial trivial) trivial)) (And.intro trivial (And.intro trivial (And.intro trivial (And.intro trivial (And.intro trivial (And.intro (And.intro trivial (And.intro (And.intro trivial trivial) trivial)) (And.intro trivial (And.intro trivial (And.intro trivial trivial))))))))))))))
theorem fe_11 : FE (H := H) P bk K 11 (fun o vs h c => match vs with | [] => f11_S o h c | _ => none) := by
  refine ⟨f11_f, bk_11, rfl, ck_11, fun o vs h c r e => ?_⟩
  dsimp only at e
  split at e
  · exact ⟨rfl, (f11_S_eq o h c).trans e⟩
  · cases e
theorem kc_13001 : CodeOK K 83 f13_c13001 := (And.intro (And.intro trivial (And.intro trivial trivial)) (And.intro (And.intro trivial (And.intro (And.intro trivial (And.intro trivial trivial)) (And.intro (And.intro trivial (And.intro (And.intro trivial trivial) trivial)) (And.intro trivial (And.intro (And.intro trivial trivial) trivial))))) trivial))
theorem le_13001 : LE (H := H) P K 13001 (fun o rd vs h c df => match vs with | [t1, t2, t3, t4, t5] => f13_L13001 o rd t1 t2 t3 t4 t5 h c df | _ => none) := by
  intro lin b nt hk
  rw [kl_13001] at hk
  cases hk
  refine ⟨kc_13001, fun o rd vs h c df q e => ?_⟩
  dsimp only at e
  split at e
  · exact (f13_L13001_eq o rd _ _ _ _ _ h c df).trans e
  · cases e
theorem kc_13000 : CodeOK K 83 f13_c13000 := (And.intro (And.intro trivial (And.intro trivial trivial)) (And.intro (And.intro trivial (And.intro rfl kl_13001)) trivial))
theorem le_13000 : LE (H := H) P K 13000 (fun o rd vs h c df => match vs with | [t1, t2, t3, t4] => f13_L13000 o rd t1 t2 t3 t4 h c df | _ => none) := by
  intro lin b nt hk
  rw [kl_13000] at hk
  cases hk
  refine ⟨kc_13000, fun o rd vs h c df q e => ?_⟩
  dsimp only at e
  split at e
  · exact (f13_L13000_eq o rd _ _ _ _ h c df).trans e
  · cases e
theorem ck_13 : CodeOK K f13_f.nt f13_f.code := (And.intro trivial (And.intro trivial (And.intro (And.intro trivial (And.intro (And.intro trivial trivial) trivial)) (And.intro (And.intro trivial (And.intro rfl kl_13000)) (And.intro trivial trivial)))))
theorem fe_13 : FE (H := H) P bk K 13 (fun o vs h c => match vs with | [t0] => f13_S o t0 h c | _ => none) := by
  refine ⟨f13_f, bk_13, rfl, ck_13, fun o vs h c r e => ?_⟩
  dsimp only at e
  split at e
  · exact ⟨rfl, (f13_S_eq o _ h c).trans e⟩
  · cases e
theorem kc_14001 : CodeOK K 68 f14_c14001 := (And.intro trivial (And.intro (And.intro trivial trivial) (And.intro (And.intro trivial (And.intro trivial (And.intro trivial trivial))) trivial)))
theorem le_14001 : LE (H := H) P K 14001 (fun o rd vs h c df => match vs with | [t1, t5, t7, t9, t10, t26, t27, t28, t42, t43] => f14_L14001 o rd t1 t5 t7 t9 t10 t26 t27 t28 t42 t43 h c df | _ => none) := by
  intro lin b nt hk
  rw [kl_14001] at hk
  cases hk
  refine ⟨kc_14001, fun o rd vs h c df q e => ?_⟩
  dsimp only at e
  split at e
  · exact (f14_L14001_eq o rd _ _ _ _ _ _ _ _ _ _ h c df).trans e
  · cases e
theorem kc_14000 : CodeOK K 68 f14_c14000 := (And.intro trivial (And.intro (And.intro trivial trivial) (And.intro (And.intro trivial (And.intro trivial (And.intro (And.intro trivial (And.intro rfl kl_14001)) trivial))) trivial)))
theorem le_14000 : LE (H := H) P K 14000 (fun o rd vs h c df => match vs with | [t1, t5, t7, t26, t27, t28] => f14_L14000 o rd t1 t5 t7 t26 t27 t28 h c df | _ => none) := by
  intro lin b nt hk
  rw [kl_14000] at hk
  cases hk
  refine ⟨kc_14000, fun o rd vs h c df q e => ?_⟩
  dsimp only at e
  split at e
  · exact (f14_L14000_eq o rd _ _ _ _ _ _ h c df).trans e
  · cases e
theorem ck_14 : CodeOK K f14_f.nt f14_f.code := (And.intro trivial (And.intro (And.intro trivial (And.intro trivial (And.intro (And.intro trivial trivial) trivial))) (And.intro trivial (And.intro trivial (And.intro (And.intro trivial (And.intro rfl kl_14000)) (And.intro trivial trivial))))))
theorem fe_14 : FE (H := H) P bk K 14 (fun o vs h c => match vs with | [t0] => f14_S o t0 h c | _ => none) := by
  refine ⟨f14_f, bk_14, rfl, ck_14, fun o vs h c r e => ?_⟩
  dsimp only at e
  split at e
  · exact ⟨rfl, (f14_S_eq o _ h c).trans e⟩
  · cases e
theorem kc_15002 : CodeOK K 80 f15_c15002 := (And.intro trivial (And.intro (And.intro trivial trivial) (And.intro (And.intro trivial (And.intro trivial (And.intro trivial trivial))) trivial)))
theorem le_15002 : LE (H := H) P K 15002 (fun o rd vs h c df => match vs with | [t1, t7, t8, t10, t28, t29, t30, t35, t36, t63] => f15_L15002 o rd t1 t7 t8 t10 t28 t29 t30 t35 t36 t63 h c df | _ => none) := by
  intro lin b nt hk
  rw [kl_15002] at hk
  cases hk
  refine ⟨kc_15002, fun o rd vs h c df q e => ?_⟩
  dsimp only at e
  split at e
  · exact (f15_L15002_eq o rd _ _ _ _ _ _ _ _ _ _ h c df).trans e
  · cases e
theorem kc_15001 : CodeOK K 80 f15_c15001 := (And.intro trivial (And.intro (And.intro trivial trivial) (And.intro (And.intro trivial (And.intro (And.intro trivial (And.intro trivial trivial)) (And.intro trivial (And.intro rfl kl_15002)))) trivial)))
theorem le_15001 : LE (H := H) P K 15001 (fun o rd vs h c df => match vs with | [t1, t7, t8, t28, t29, t30, t35, t36] => f15_L15001 o rd t1 t7 t8 t28 t29 t30 t35 t36 h c df | _ => none) := by
  intro lin b nt hk
  rw [kl_15001] at hk
  cases hk
  refine ⟨kc_15001, fun o rd vs h c df q e => ?_⟩
  dsimp only at e
  split at e
  · exact (f15_L15001_eq o rd _ _ _ _ _ _ _ _ h c df).trans e
  · cases e
theorem kc_15000 : CodeOK K 80 f15_c15000 := (And.intro trivial (And.intro (And.intro trivial trivial) (And.intro (And.intro trivial (And.intro trivial (And.intro rfl kl_15001))) trivial)))
theorem le_15000 : LE (H := H) P K 15000 (fun o rd vs h c df => match vs with | [t1, t7, t28, t29, t30] => f15_L15000 o rd t1 t7 t28 t29 t30 h c df | _ => none) := by
  intro lin b nt hk
  rw [kl_15000] at hk
  cases hk
  refine ⟨kc_15000, fun o rd vs h c df q e => ?_⟩
  dsimp only at e
  split at e
  · exact (f15_L15000_eq o rd _ _ _ _ _ h c df).trans e
  · cases e
theorem ck_15 : CodeOK K f15_f.nt f15_f.code := (And.intro trivial (And.intro (And.intro trivial (And.intro trivial (And.intro (And.intro trivial trivial) trivial))) (And.intro trivial (And.intro (And.intro trivial (And.intro rfl kl_15000)) (And.intro trivial trivial)))))
theorem fe_15 : FE (H := H) P bk K 15 (fun o vs h c => match vs with | [t0, t1] => f15_S o t0 t1 h c | _ => none) := by
  refine ⟨f15_f, bk_15, rfl, ck_15, fun o vs h c r e => ?_⟩
  dsimp only at e
  split at e
  · exact ⟨rfl, (f15_S_eq o _ _ h c).trans e⟩
  · cases e
theorem ck_16 : CodeOK K f16_f.nt f16_f.code := (And.intro trivial (And.intro (And.intro trivial (And.intro trivial (And.intro (And.intro trivial trivial) trivial))) (And.intro trivial trivial)))
theorem fe_16 : FE (H := H) P bk K 16 (fun o vs h c => match vs with | [t0, t1] => f16_S o t0 t1 h c | _ => none) := by
  refine ⟨f16_f, bk_16, rfl, ck_16, fun o vs h c r e => ?_⟩
  dsimp only at e
  split at e
  · exact ⟨rfl, (f16_S_eq o _ _ h c).trans e⟩
  · cases e
theorem ck_17 : CodeOK K f17_f.nt f17_f.code := (And.intro trivial (And.intro trivial trivial))
theorem fe_17 : FE (H := H) P bk K 17 (fun o vs h c => match vs with | [t0, t1] => f17_S o t0 t1 h c | _ => none) := by
  refine ⟨f17_f, bk_17, rfl, ck_17, fun o vs h c r e => ?_⟩
  dsimp only at e
  split at e
  · exact ⟨rfl, (f17_S_eq o _ _ h c).trans e⟩
  · cases e
theorem kc_21000 : CodeOK K 26 f21_c21000 := (And.intro (And.intro trivial (And.intro trivial trivial)) (And.intro (And.intro trivial (And.intro (And.intro trivial trivial) trivial)) trivial))
theorem le_21000 : LE (H := H) P K 21000 (fun o rd vs h c df => match vs with | [t0, t1, t4, t5] => f21_L21000 o rd t0 t1 t4 t5 h c df | _ => none) := by
  intro lin b nt hk
  rw [kl_21000] at hk
  cases hk
  refine ⟨kc_21000, fun o rd vs h c df q e => ?_⟩
  dsimp only at e
  split at e
  · exact (f21_L21000_eq o rd _ _ _ _ h c df).trans e
  · cases e
theorem ck_21 : CodeOK K f21_f.nt f21_f.code := (And.intro trivial (And.intro (And.intro trivial (And.intro (And.intro trivial trivial) trivial)) (And.intro (And.intro trivial (And.intro rfl kl_21000)) (And.intro trivial trivial))))
theorem fe_21 : FE (H := H) P bk K 21 (fun o vs h c => match vs with | [t0, t1] => f21_S o t0 t1 h c | _ => none) := by
  refine ⟨f21_f, bk_21, rfl, ck_21, fun o vs h c r e => ?_⟩
  dsimp only at e
  split at e
  · exact ⟨rfl, (f21_S_eq o _ _ h c).trans e⟩
  · cases e
theorem kc_23001 : CodeOK K 112 f23_c23001 := (And.intro trivial (And.intro (And.intro trivial trivial) (And.intro (And.intro trivial (And.intro trivial (And.intro trivial trivial))) trivial)))
theorem le_23001 : LE (H := H) P K 23001 (fun o rd vs h c df => match vs with | [t1, t4, t5, t8, t11, t12, t33, t34, t35, t53, t54] => f23_L23001 o rd t1 t4 t5 t8 t11 t12 t33 t34 t35 t53 t54 h c df | _ => none) := by
  intro lin b nt hk
  rw [kl_23001] at hk
  cases hk
  refine ⟨kc_23001, fun o rd vs h c df q e => ?_⟩
  dsimp only at e
  split at e
  · exact (f23_L23001_eq o rd _ _ _ _ _ _ _ _ _ _ _ h c df).trans e
  · cases e
theorem kc_23002 : CodeOK K 112 f23_c23002 := (And.intro trivial (And.intro (And.intro trivial trivial) (And.intro (And.intro trivial (And.intro trivial (And.intro trivial trivial))) trivial)))
theorem le_23002 : LE (H := H) P K 23002 (fun o rd vs h c df => match vs with | [t1, t4, t5, t8, t11, t12, t33, t34, t35, t81, t82] => f23_L23002 o rd t1 t4 t5 t8 t11 t12 t33 t34 t35 t81 t82 h c df | _ => none) := by
  intro lin b nt hk
  rw [kl_23002] at hk
  cases hk
  refine ⟨kc_23002, fun o rd vs h c df q e => ?_⟩
  dsimp only at e
  split at e
  · exact (f23_L23002_eq o rd _ _ _ _ _ _ _ _ _ _ _ h c df).trans e
  · cases e
theorem kc_23000 : CodeOK K 112 f23_c23000 := (And.intro trivial (And.intro (And.intro trivial trivial) (And.intro (And.intro trivial (And.intro trivial (And.intro (And.intro trivial (And.intro rfl kl_23001)) (And.intro (And.intro trivial (And.intro rfl kl_23002)) trivial)))) trivial)))
theorem le_23000 : LE (H := H) P K 23000 (fun o rd vs h c df => match vs with | [t1, t4, t5, t8, t33, t34, t35] => f23_L23000 o rd t1 t4 t5 t8 t33 t34 t35 h c df | _ => none) := by
  intro lin b nt hk
  rw [kl_23000] at hk
  cases hk
  refine ⟨kc_23000, fun o rd vs h c df q e => ?_⟩
  dsimp only at e
  split at e
  · exact (f23_L23000_eq o rd _ _ _ _ _ _ _ h c df).trans e
  · cases e
theorem ck_23 : CodeOK K f23_f.nt f23_f.code := (And.intro trivial (And.intro (And.intro trivial (And.intro trivial (And.intro (And.intro trivial trivial) trivial))) (And.intro trivial (And.intro trivial (And.intro trivial (And.intro (And.intro trivial (And.intro rfl kl_23000)) (And.intro trivial trivial)))))))
theorem fe_23 : FE (H := H) P bk K 23 (fun o vs h c => match vs with | [t0, t1] => f23_S o t0 t1 h c | _ => none) := by
  refine ⟨f23_f, bk_23, rfl, ck_23, fun o vs h c r e => ?_⟩
  dsimp only at e
  split at e
  · exact ⟨rfl, (f23_S_eq o _ _ h c).trans e⟩
  · cases e
theorem kc_25000 : CodeOK K 52 f25_c25000 := (And.intro trivial (And.intro (And.intro trivial trivial) (And.intro (And.intro trivial (And.intro trivial (And.intro (And.intro trivial trivial) trivial))) trivial)))
theorem le_25000 : LE (H := H) P K 25000 (fun o rd vs h c df => match vs with | [t1, t2, t4, t5, t29, t30] => f25_L25000 o rd t1 t2 t4 t5 t29 t30 h c df | _ => none) := by
  intro lin b nt hk
  rw [kl_25000] at hk
  cases hk
  refine ⟨kc_25000, fun o rd vs h c df q e => ?_⟩
  dsimp only at e
  split at e
  · exact (f25_L25000_eq o rd _ _ _ _ _ _ h c df).trans e
  · cases e
theorem ck_25 : CodeOK K f25_f.nt f25_f.code := (And.intro trivial (And.intro (And.intro trivial (And.intro trivial (And.intro (And.intro trivial trivial) trivial))) (And.intro (And.intro trivial (And.intro (And.intro trivial trivial) trivial)) (And.intro (And.intro trivial (And.intro rfl kl_25000)) (And.intro trivial (And.intro (And.intro trivial (And.intro (And.intro trivial trivial) trivial)) (And.intro trivial trivial)))))))
theorem fe_25 : FE (H := H) P bk K 25 (fun o vs h c => match vs with | [t0, t1] => f25_S o t0 t1 h c | _ => none) := by
  refine ⟨f25_f, bk_25, rfl, ck_25, fun o vs h c r e => ?_⟩
  dsimp only at e
  split at e
  · exact ⟨rfl, (f25_S_eq o _ _ h c).trans e⟩
  · cases e
theorem kc_40002 : CodeOK K 135 f40_c40002 := (And.intro (And.intro trivial (And.intro trivial trivial)) (And.intro (And.intro trivial (And.intro (And.intro trivial (And.intro (And.intro trivial trivial) trivial)) trivial)) trivial))
theorem le_40002 : LE (H := H) P K 40002 (fun o rd vs h c df => match vs with | [t2, t3, t4, t5, t7, t8, t9, t10, t11, t14] => f40_L40002 o rd t2 t3 t4 t5 t7 t8 t9 t10 t11 t14 h c df | _ => none) := by
  intro lin b nt hk
  rw [kl_40002] at hk
  cases hk
  refine ⟨kc_40002, fun o rd vs h c df q e => ?_⟩
  dsimp only at e
  split at e
  · exact (f40_L40002_eq o rd _ _ _ _ _ _ _ _ _ _ h c df).trans e
  · cases e
theorem kc_40001 : CodeOK K 135 f40_c40001 := (And.intro (And.intro trivial (And.intro trivial trivial)) (And.intro (And.intro (And.intro trivial (And.intro (And.intro trivial trivial) trivial)) (And.intro (And.intro trivial (And.intro (And.intro trivial (And.intro trivial trivial)) trivial)) (And.intro trivial (And.intro (And.intro trivial (And.intro (And.intro trivial trivial) trivial)) (And.intro trivial (And.intro (And.intro trivial (And.intro rfl kl_40002)) trivial)))))) trivial))
theorem le_40001 : LE (H := H) P K 40001 (fun o rd vs h c df => match vs with | [t2, t3, t4, t5, t7, t8, t9, t10, t11] => f40_L40001 o rd t2 t3 t4 t5 t7 t8 t9 t10 t11 h c df | _ => none) := by
  intro lin b nt hk
  rw [kl_40001] at hk
  cases hk
  refine ⟨kc_40001, fun o rd vs h c df q e => ?_⟩
  dsimp only at e
  split at e
  · exact (f40_L40001_eq o rd _ _ _ _ _ _ _ _ _ h c df).trans e
  · cases e
theorem kc_40000 : CodeOK K 135 f40_c40000 := (And.intro (And.intro trivial (And.intro trivial trivial)) (And.intro (And.intro trivial (And.intro (And.intro trivial (And.intro rfl kl_40001)) trivial)) trivial))
theorem le_40000 : LE (H := H) P K 40000 (fun o rd vs h c df => match vs with | [t2, t3, t4, t5, t7, t8, t9] => f40_L40000 o rd t2 t3 t4 t5 t7 t8 t9 h c df | _ => none) := by
  intro lin b nt hk
  rw [kl_40000] at hk
  cases hk
  refine ⟨kc_40000, fun o rd vs h c df q e => ?_⟩
  dsimp only at e
  split at e
  · exact (f40_L40000_eq o rd _ _ _ _ _ _ _ h c df).trans e
  · cases e
theorem ck_40 : CodeOK K f40_f.nt f40_f.code := (And.intro trivial (And.intro (And.intro trivial (And.intro (And.intro trivial trivial) trivial)) (And.intro trivial (And.intro (And.intro trivial (And.intro (And.intro trivial trivial) trivial)) (And.intro trivial (And.intro (And.intro trivial (And.intro (And.intro trivial trivial) trivial)) (And.intro trivial (And.intro trivial (And.intro (And.intro trivial (And.intro rfl kl_40000)) (And.intro (And.intro trivial (And.intro (And.intro trivial trivial) trivial)) (And.intro (And.intro trivial (And.intro (And.intro trivial trivial) trivial)) (And.intro trivial trivial))))))))))))
theorem fe_40 : FE (H := H) P bk K 40 (fun o vs h c => match vs with | [t0] => f40_S o t0 h c | _ => none) := by
  refine ⟨f40_f, bk_40, rfl, ck_40, fun o vs h c r e => ?_⟩
  dsimp only at e
  split at e
  · exact ⟨rfl, (f40_S_eq o _ h c).trans e⟩
  · cases e
theorem kc_41000 : CodeOK K 30 f41_c41000 := (And.intro (And.intro trivial (And.intro trivial trivial)) (And.intro (And.intro (And.intro trivial (And.intro (And.intro trivial trivial) trivial)) trivial) trivial))
theorem le_41000 : LE (H := H) P K 41000 (fun o rd vs h c df => match vs with | [t1, t2, t3, t4] => f41_L41000 o rd t1 t2 t3 t4 h c df | _ => none) := by
  intro lin b nt hk
  rw [kl_41000] at hk
  cases hk
  refine ⟨kc_41000, fun o rd vs h c df q e => ?_⟩
  dsimp only at e
  split at e
  · exact (f41_L41000_eq o rd _ _ _ _ h c df).trans e
  · cases e
theorem ck_41 : CodeOK K f41_f.nt f41_f.code := (And.intro trivial (And.intro trivial (And.intro (And.intro trivial (And.intro rfl kl_41000)) (And.intro trivial trivial))))
theorem fe_41 : FE (H := H) P bk K 41 (fun o vs h c => match vs with | [t0] => f41_S o t0 h c | _ => none) := by
  refine ⟨f41_f, bk_41, rfl, ck_41, fun o vs h c r e => ?_⟩
  dsimp only at e
  split at e
  · exact ⟨rfl, (f41_S_eq o _ h c).trans e⟩
  · cases e
theorem kc_42000 : CodeOK K 19 f42_c42000 := (And.intro (And.intro trivial (And.intro trivial trivial)) (And.intro trivial trivial))
theorem le_42000 : LE (H := H) P K 42000 (fun o rd vs h c df => match vs with | [t1, t2, t3, t4] => f42_L42000 o rd t1 t2 t3 t4 h c df | _ => none) := by
  intro lin b nt hk
  rw [kl_42000] at hk
  cases hk
  refine ⟨kc_42000, fun o rd vs h c df q e => ?_⟩
  dsimp only at e
  split at e
  · exact (f42_L42000_eq o rd _ _ _ _ h c df).trans e
  · cases e
theorem ck_42 : CodeOK K f42_f.nt f42_f.code := (And.intro trivial (And.intro trivial (And.intro (And.intro trivial (And.intro (And.intro trivial trivial) trivial)) (And.intro (And.intro trivial (And.intro rfl kl_42000)) (And.intro trivial trivial)))))
theorem fe_42 : FE (H := H) P bk K 42 (fun o vs h c => match vs with | [t0] => f42_S o t0 h c | _ => none) := by
  refine ⟨f42_f, bk_42, rfl, ck_42, fun o vs h c r e => ?_⟩
  dsimp only at e
  split at e
  · exact ⟨rfl, (f42_S_eq o _ h c).trans e⟩
  · cases e
theorem ck_43 : CodeOK K f43_f.nt f43_f.code := (And.intro trivial (And.intro (And.intro trivial (And.intro (And.intro trivial trivial) (And.intro trivial (And.intro (And.intro trivial trivial) trivial)))) (And.intro trivial trivial)))
theorem fe_43 : FE (H := H) P bk K 43 (fun o vs h c => match vs with | [t0] => f43_S o t0 h c | _ => none) := by
  refine ⟨f43_f, bk_43, rfl, ck_43, fun o vs h c r e => ?_⟩
  dsimp only at e
  split at e
  · exact ⟨rfl, (f43_S_eq o _ h c).trans e⟩
  · cases e
theorem kc_44001 : CodeOK K 92 f44_c44001 := (And.intro trivial (And.intro (And.intro trivial trivial) (And.intro (And.intro trivial (And.intro trivial (And.intro trivial trivial))) trivial)))
theorem le_44001 : LE (H := H) P K 44001 (fun o rd vs h c df => match vs with | [t6, t7, t8, t52] => f44_L44001 o rd t6 t7 t8 t52 h c df | _ => none) := by
  intro lin b nt hk
  rw [kl_44001] at hk
  cases hk
  refine ⟨kc_44001, fun o rd vs h c df q e => ?_⟩
  dsimp only at e
  split at e
  · exact (f44_L44001_eq o rd _ _ _ _ h c df).trans e
  · cases e
theorem ka_44000 : CodeOK K 92 f44_a44000 := trivial
theorem kc_44000 : CodeOK K 92 f44_c44000 := (And.intro trivial (And.intro trivial (And.intro trivial (And.intro rfl kl_44001))))
theorem re_44000 : RE (H := H) P K 92 [25] (fun o l vs h c => match vs with | [t25, t1, t5, t6] => f44_R44000 o l t25 t1 t5 t6 h c | _ => none) := by
  intro lin a b hk
  rw [kr_44000] at hk
  cases hk
  refine ⟨ka_44000, kc_44000, fun o l vs h c r e => ?_⟩
  dsimp only at e
  split at e
  · exact (f44_R44000_eq o l _ _ _ _ h c).trans e
  · cases e
theorem ck_44 : CodeOK K f44_f.nt f44_f.code := (And.intro trivial (And.intro trivial (And.intro trivial (And.intro (And.intro trivial (And.intro rfl kr_44000)) (And.intro trivial trivial)))))
theorem fe_44 : FE (H := H) P bk K 44 (fun o vs h c => match vs with | [t0] => f44_S o t0 h c | _ => none) := by
  refine ⟨f44_f, bk_44, rfl, ck_44, fun o vs h c r e => ?_⟩
  dsimp only at e
  split at e
  · exact ⟨rfl, (f44_S_eq o _ h c).trans e⟩
  · cases e
theorem kc_45000 : CodeOK K 24 f45_c45000 := (And.intro trivial (And.intro (And.intro trivial trivial) (And.intro (And.intro trivial (And.intro trivial (And.intro trivial trivial))) trivial)))
theorem le_45000 : LE (H := H) P K 45000 (fun o rd vs h c df => match vs with | [t0, t3, t9, t10] => f45_L45000 o rd t0 t3 t9 t10 h c df | _ => none) := by
  intro lin b nt hk
  rw [kl_45000] at hk
  cases hk
  refine ⟨kc_45000, fun o rd vs h c df q e => ?_⟩
  dsimp only at e
  split at e
  · exact (f45_L45000_eq o rd _ _ _ _ h c df).trans e
  · cases e
theorem ck_45 : CodeOK K f45_f.nt f45_f.code := (And.intro trivial (And.intro trivial (And.intro (And.intro trivial (And.intro rfl kl_45000)) (And.intro trivial trivial))))
theorem fe_45 : FE (H := H) P bk K 45 (fun o vs h c => match vs with | [t0] => f45_S o t0 h c | _ => none) := by
  refine ⟨f45_f, bk_45, rfl, ck_45, fun o vs h c r e => ?_⟩
  dsimp only at e
  split at e
  · exact ⟨rfl, (f45_S_eq o _ h c).trans e⟩
  · cases e
theorem kc_46000 : CodeOK K 22 f46_c46000 := (And.intro (And.intro trivial (And.intro trivial trivial)) trivial)
theorem le_46000 : LE (H := H) P K 46000 (fun o rd vs h c df => match vs with | [t0, t1] => f46_L46000 o rd t0 t1 h c df | _ => none) := by
  intro lin b nt hk
  rw [kl_46000] at hk
  cases hk
  refine ⟨kc_46000, fun o rd vs h c df q e => ?_⟩
  dsimp only at e
  split at e
  · exact (f46_L46000_eq o rd _ _ h c df).trans e
  · cases e
theorem ck_46 : CodeOK K f46_f.nt f46_f.code := (And.intro trivial (And.intro (And.intro rfl kl_46000) (And.intro trivial trivial)))
theorem fe_46 : FE (H := H) P bk K 46 (fun o vs h c => match vs with | [t0, t1] => f46_S o t0 t1 h c | _ => none) := by
  refine ⟨f46_f, bk_46, rfl, ck_46, fun o vs h c r e => ?_⟩
  dsimp only at e
  split at e
  · exact ⟨rfl, (f46_S_eq o _ _ h c).trans e⟩
  · cases e
theorem kc_47001 : CodeOK K 71 f47_c47001 := (And.intro trivial (And.intro (And.intro trivial trivial) (And.intro (And.intro trivial (And.intro trivial (And.intro (And.intro trivial trivial) trivial))) trivial)))
theorem le_47001 : LE (H := H) P K 47001 (fun o rd vs h c df => match vs with | [t2, t4, t7, t15, t16, t17, t35, t36] => f47_L47001 o rd t2 t4 t7 t15 t16 t17 t35 t36 h c df | _ => none) := by
  intro lin b nt hk
  rw [kl_47001] at hk
  cases hk
  refine ⟨kc_47001, fun o rd vs h c df q e => ?_⟩
  dsimp only at e
  split at e
  · exact (f47_L47001_eq o rd _ _ _ _ _ _ _ _ h c df).trans e
  · cases e
theorem kc_47000 : CodeOK K 71 f47_c47000 := (And.intro trivial (And.intro (And.intro trivial trivial) (And.intro (And.intro trivial (And.intro (And.intro trivial (And.intro (And.intro trivial trivial) trivial)) (And.intro (And.intro trivial (And.intro rfl kl_47001)) (And.intro trivial (And.intro rfl kr_47002))))) trivial)))
theorem le_47000 : LE (H := H) P K 47000 (fun o rd vs h c df => match vs with | [t2, t4, t15, t16, t17] => f47_L47000 o rd t2 t4 t15 t16 t17 h c df | _ => none) := by
  intro lin b nt hk
  rw [kl_47000] at hk
  cases hk
  refine ⟨kc_47000, fun o rd vs h c df q e => ?_⟩
  dsimp only at e
  split at e
  · exact (f47_L47000_eq o rd _ _ _ _ _ h c df).trans e
  · cases e
theorem ka_47002 : CodeOK K 71 f47_a47002 := trivial
theorem kc_47002 : CodeOK K 71 f47_c47002 := (And.intro trivial (And.intro (And.intro trivial trivial) trivial))
theorem re_47002 : RE (H := H) P K 71 [52] (fun o l vs h c => match vs with | [t52, t4, t7] => f47_R47002 o l t52 t4 t7 h c | _ => none) := by
  intro lin a b hk
  rw [kr_47002] at hk
  cases hk
  refine ⟨ka_47002, kc_47002, fun o l vs h c r e => ?_⟩
  dsimp only at e
  split at e
  · exact (f47_R47002_eq o l _ _ _ h c).trans e
  · cases e
theorem ck_47 : CodeOK K f47_f.nt f47_f.code := (And.intro trivial (And.intro (And.intro trivial (And.intro trivial (And.intro (And.intro trivial trivial) trivial))) (And.intro (And.intro trivial (And.intro rfl kl_47000)) (And.intro trivial trivial))))
theorem fe_47 : FE (H := H) P bk K 47 (fun o vs h c => match vs with | [t0, t1] => f47_S o t0 t1 h c | _ => none) := by
  refine ⟨f47_f, bk_47, rfl, ck_47, fun o vs h c r e => ?_⟩
  dsimp only at e
  split at e
  · exact ⟨rfl, (f47_S_eq o _ _ h c).trans e⟩
  · cases e
theorem kc_48000 : CodeOK K 17 f48_c48000 := (And.intro trivial (And.intro (And.intro trivial trivial) (And.intro (And.intro trivial trivial) trivial)))
theorem le_48000 : LE (H := H) P K 48000 (fun o rd vs h c df => match vs with | [t3, t6, t7, t8] => f48_L48000 o rd t3 t6 t7 t8 h c df | _ => none) := by
  intro lin b nt hk
  rw [kl_48000] at hk
  cases hk
  refine ⟨kc_48000, fun o rd vs h c df q e => ?_⟩
  dsimp only at e
  split at e
  · exact (f48_L48000_eq o rd _ _ _ _ h c df).trans e
  · cases e
theorem ck_48 : CodeOK K f48_f.nt f48_f.code := (And.intro trivial (And.intro trivial (And.intro (And.intro trivial (And.intro rfl kl_48000)) (And.intro trivial trivial))))
theorem fe_48 : FE (H := H) P bk K 48 (fun o vs h c => match vs with | [t0] => f48_S o t0 h c | _ => none) := by
  refine ⟨f48_f, bk_48, rfl, ck_48, fun o vs h c r e => ?_⟩
  dsimp only at e
  split at e
  · exact ⟨rfl, (f48_S_eq o _ h c).trans e⟩
  · cases e
theorem kc_49000 : CodeOK K 36 f49_c49000 := (And.intro trivial (And.intro (And.intro trivial trivial) (And.intro (And.intro trivial trivial) trivial)))
theorem le_49000 : LE (H := H) P K 49000 (fun o rd vs h c df => match vs with | [t1, t7, t19, t20, t21] => f49_L49000 o rd t1 t7 t19 t20 t21 h c df | _ => none) := by
  intro lin b nt hk
  rw [kl_49000] at hk
  cases hk
  refine ⟨kc_49000, fun o rd vs h c df q e => ?_⟩
  dsimp only at e
  split at e
  · exact (f49_L49000_eq o rd _ _ _ _ _ h c df).trans e
  · cases e
theorem ck_49 : CodeOK K f49_f.nt f49_f.code := (And.intro trivial (And.intro trivial (And.intro trivial (And.intro (And.intro trivial (And.intro rfl kl_49000)) (And.intro trivial trivial)))))
theorem fe_49 : FE (H := H) P bk K 49 (fun o vs h c => match vs with | [t0, t1] => f49_S o t0 t1 h c | _ => none) := by
  refine ⟨f49_f, bk_49, rfl, ck_49, fun o vs h c r e => ?_⟩
  dsimp only at e
  split at e
  · exact ⟨rfl, (f49_S_eq o _ _ h c).trans e⟩
  · cases e
theorem ck_50 : CodeOK K f50_f.nt f50_f.code := (And.intro trivial (And.intro trivial trivial))
theorem fe_50 : FE (H := H) P bk K 50 (fun o vs h c => match vs with | [t0, t1, t2, t3] => f50_S o t0 t1 t2 t3 h c | _ => none) := by
  refine ⟨f50_f, bk_50, rfl, ck_50, fun o vs h c r e => ?_⟩
  dsimp only at e
  split at e
  · exact ⟨rfl, (f50_S_eq o _ _ _ _ h c).trans e⟩
  · cases e
theorem ck_53 : CodeOK K f53_f.nt f53_f.code := (And.intro trivial (And.intro (And.intro trivial (And.intro (And.intro trivial trivial) trivial)) (And.intro trivial trivial)))
theorem fe_53 : FE (H := H) P bk K 53 (fun o vs h c => match vs with | [t0] => f53_S o t0 h c | _ => none) := by
  refine ⟨f53_f, bk_53, rfl, ck_53, fun o vs h c r e => ?_⟩
  dsimp only at e
  split at e
  · exact ⟨rfl, (f53_S_eq o _ h c).trans e⟩
  · cases e
theorem ck_55 : CodeOK K f55_f.nt f55_f.code := (And.intro trivial (And.intro trivial trivial))
theorem fe_55 : FE (H := H) P bk K 55 (fun o vs h c => match vs with | [t0] => f55_S o t0 h c | _ => none) := by
  refine ⟨f55_f, bk_55, rfl, ck_55, fun o vs h c r e => ?_⟩
  dsimp only at e
  split at e
  · exact ⟨rfl, (f55_S_eq o _ h c).trans e⟩
  · cases e
theorem kc_56000 : CodeOK K 19 f56_c56000 := (And.intro trivial (And.intro (And.intro trivial trivial) (And.intro (And.intro trivial (And.intro trivial (And.intro trivial trivial))) trivial)))
theorem le_56000 : LE (H := H) P K 56000 (fun o rd vs h c df => match vs with | [t3, t6, t7, t8] => f56_L56000 o rd t3 t6 t7 t8 h c df | _ => none) := by
  intro lin b nt hk
  rw [kl_56000] at hk
  cases hk
  refine ⟨kc_56000, fun o rd vs h c df q e => ?_⟩
  dsimp only at e
  split at e
  · exact (f56_L56000_eq o rd _ _ _ _ h c df).trans e
  · cases e
theorem ck_56 : CodeOK K f56_f.nt f56_f.code := (And.intro trivial (And.intro trivial (And.intro (And.intro trivial (And.intro rfl kl_56000)) (And.intro trivial trivial))))
theorem fe_56 : FE (H := H) P bk K 56 (fun o vs h c => match vs with | [t0] => f56_S o t0 h c | _ => none) := by
  refine ⟨f56_f, bk_56, rfl, ck_56, fun o vs h c r e => ?_⟩
  dsimp only at e
  split at e
  · exact ⟨rfl, (f56_S_eq o _ h c).trans e⟩
  · cases e
theorem kc_57000 : CodeOK K 200 f57_c57000 := (And.intro trivial (And.intro (And.intro trivial trivial) (And.intro (And.intro trivial trivial) trivial)))
theorem le_57000 : LE (H := H) P K 57000 (fun o rd vs h c df => match vs with | [t1, t2, t4, t5, t6, t7, t33, t34] => f57_L57000 o rd t1 t2 t4 t5 t6 t7 t33 t34 h c df | _ => none) := by
  intro lin b nt hk
  rw [kl_57000] at hk
  cases hk
  refine ⟨kc_57000, fun o rd vs h c df q e => ?_⟩
  dsimp only at e
  split at e
  · exact (f57_L57000_eq o rd _ _ _ _ _ _ _ _ h c df).trans e
  · cases e
theorem kc_57003 : CodeOK K 200 f57_c57003 := (And.intro trivial (And.intro (And.intro trivial trivial) (And.intro (And.intro trivial (And.intro (And.intro trivial (And.intro trivial trivial)) (And.intro trivial (And.intro trivial (And.intro trivial (And.intro (And.intro trivial (And.intro trivial (And.intro trivial trivial))) (And.intro trivial (And.intro (And.intro trivial trivial) trivial)))))))) trivial)))
theorem le_57003 : LE (H := H) P K 57003 (fun o rd vs h c df => match vs with | [t2, t4, t5, t7, t11, t14, t15, t16, t17, t18, t62, t63, t64, t93, t94] => f57_L57003 o rd t2 t4 t5 t7 t11 t14 t15 t16 t17 t18 t62 t63 t64 t93 t94 h c df | _ => none) := by
  intro lin b nt hk
  rw [kl_57003] at hk
  cases hk
  refine ⟨kc_57003, fun o rd vs h c df q e => ?_⟩
  dsimp only at e
  split at e
  · exact (f57_L57003_eq o rd _ _ _ _ _ _ _ _ _ _ _ _ _ _ _ h c df).trans e
  · cases e
theorem kc_57002 : CodeOK K 200 f57_c57002 := (And.intro (And.intro trivial (And.intro trivial trivial)) (And.intro (And.intro trivial (And.intro trivial (And.intro rfl kl_57003))) trivial))
theorem le_57002 : LE (H := H) P K 57002 (fun o rd vs h c df => match vs with | [t2, t4, t5, t7, t11, t14, t15, t16, t62, t63, t64] => f57_L57002 o rd t2 t4 t5 t7 t11 t14 t15 t16 t62 t63 t64 h c df | _ => none) := by
  intro lin b nt hk
  rw [kl_57002] at hk
  cases hk
  refine ⟨kc_57002, fun o rd vs h c df q e => ?_⟩
  dsimp only at e
  split at e
  · exact (f57_L57002_eq o rd _ _ _ _ _ _ _ _ _ _ _ h c df).trans e
  · cases e
theorem kc_57004 : CodeOK K 200 f57_c57004 := (And.intro trivial (And.intro (And.intro trivial trivial) (And.intro (And.intro trivial trivial) trivial)))
theorem le_57004 : LE (H := H) P K 57004 (fun o rd vs h c df => match vs with | [t2, t4, t5, t7, t11, t15, t62, t63, t64, t177, t178, t179] => f57_L57004 o rd t2 t4 t5 t7 t11 t15 t62 t63 t64 t177 t178 t179 h c df | _ => none) := by
  intro lin b nt hk
  rw [kl_57004] at hk
  cases hk
  refine ⟨kc_57004, fun o rd vs h c df q e => ?_⟩
  dsimp only at e
  split at e
  · exact (f57_L57004_eq o rd _ _ _ _ _ _ _ _ _ _ _ _ h c df).trans e
  · cases e
theorem kc_57001 : CodeOK K 200 f57_c57001 := (And.intro trivial (And.intro (And.intro trivial trivial) (And.intro (And.intro trivial (And.intro trivial (And.intro trivial (And.intro trivial (And.intro (And.intro trivial (And.intro rfl kl_57002)) (And.intro trivial (And.intro rfl kl_57004))))))) trivial)))
theorem le_57001 : LE (H := H) P K 57001 (fun o rd vs h c df => match vs with | [t2, t4, t5, t7, t11, t62, t63, t64] => f57_L57001 o rd t2 t4 t5 t7 t11 t62 t63 t64 h c df | _ => none) := by
  intro lin b nt hk
  rw [kl_57001] at hk
  cases hk
  refine ⟨kc_57001, fun o rd vs h c df q e => ?_⟩
  dsimp only at e
  split at e
  · exact (f57_L57001_eq o rd _ _ _ _ _ _ _ _ h c df).trans e
  · cases e
theorem ck_57 : CodeOK K f57_f.nt f57_f.code := (And.intro trivial (And.intro trivial (And.intro trivial (And.intro (And.intro trivial (And.intro rfl kl_57000)) (And.intro trivial (And.intro trivial (And.intro (And.intro trivial (And.intro rfl kl_57001)) (And.intro trivial trivial))))))))
theorem fe_57 : FE (H := H) P bk K 57 (fun o vs h c => match vs with | [t0, t1] => f57_S o t0 t1 h c | _ => none) := by
  refine ⟨f57_f, bk_57, rfl, ck_57, fun o vs h c r e => ?_⟩
  dsimp only at e
  split at e
  · exact ⟨rfl, (f57_S_eq o _ _ h c).trans e⟩
  · cases e
theorem ck_59 : CodeOK K f59_f.nt f59_f.code := (And.intro trivial (And.intro trivial trivial))
theorem fe_59 : FE (H := H) P bk K 59 (fun o vs h c => match vs with | [t0] => f59_S o t0 h c | _ => none) := by
  refine ⟨f59_f, bk_59, rfl, ck_59, fun o vs h c r e => ?_⟩
  dsimp only at e
  split at e
  · exact ⟨rfl, (f59_S_eq o _ h c).trans e⟩
  · cases e
theorem ck_60 : CodeOK K f60_f.nt f60_f.code := (And.intro trivial (And.intro trivial trivial))
theorem fe_60 : FE (H := H) P bk K 60 (fun o vs h c => match vs with | [] => f60_S o h c | _ => none) := by
  refine ⟨f60_f, bk_60, rfl, ck_60, fun o vs h c r e => ?_⟩
  dsimp only at e
  split at e
  · exact ⟨rfl, (f60_S_eq o h c).trans e⟩
  · cases e
theorem kc_68000 : CodeOK K 43 f68_c68000 := (And.intro (And.intro trivial (And.intro trivial trivial)) (And.intro (And.intro trivial (And.intro (And.intro trivial (And.intro trivial trivial)) (And.intro trivial (And.intro (And.intro trivial trivial) trivial)))) trivial))
theorem le_68000 : LE (H := H) P K 68000 (fun o rd vs h c df => match vs with | [t0, t3, t4, t5] => f68_L68000 o rd t0 t3 t4 t5 h c df | _ => none) := by
  intro lin b nt hk
  rw [kl_68000] at hk
  cases hk
  refine ⟨kc_68000, fun o rd vs h c df q e => ?_⟩
  dsimp only at e
  split at e
  · exact (f68_L68000_eq o rd _ _ _ _ h c df).trans e
  · cases e
theorem ck_68 : CodeOK K f68_f.nt f68_f.code := (And.intro trivial (And.intro trivial (And.intro trivial (And.intro (And.intro trivial (And.intro rfl kl_68000)) (And.intro trivial trivial)))))
theorem fe_68 : FE (H := H) P bk K 68 (fun o vs h c => match vs with | [t0] => f68_S o t0 h c | _ => none) := by
  refine ⟨f68_f, bk_68, rfl, ck_68, fun o vs h c r e => ?_⟩
  dsimp only at e
  split at e
  · exact ⟨rfl, (f68_S_eq o _ h c).trans e⟩
  · cases e
theorem kc_69000 : CodeOK K 51 f69_c69000 := (And.intro (And.intro trivial (And.intro trivial trivial)) (And.intro (And.intro (And.intro trivial (And.intro (And.intro trivial trivial) trivial)) trivial) trivial))
theorem le_69000 : LE (H := H) P K 69000 (fun o rd vs h c df => match vs with | [t0, t2, t3, t4, t5] => f69_L69000 o rd t0 t2 t3 t4 t5 h c df | _ => none) := by
  intro lin b nt hk
  rw [kl_69000] at hk
  cases hk
  refine ⟨kc_69000, fun o rd vs h c df q e => ?_⟩
  dsimp only at e
  split at e
  · exact (f69_L69000_eq o rd _ _ _ _ _ h c df).trans e
  · cases e
theorem ck_69 : CodeOK K f69_f.nt f69_f.code := (And.intro trivial (And.intro (And.intro trivial (And.intro (And.intro trivial trivial) trivial)) (And.intro trivial (And.intro (And.intro trivial (And.intro rfl kl_69000)) (And.intro trivial trivial)))))
theorem fe_69 : FE (H := H) P bk K 69 (fun o vs h c => match vs with | [t0] => f69_S o t0 h c | _ => none) := by
  refine ⟨f69_f, bk_69, rfl, ck_69, fun o vs h c r e => ?_⟩
  dsimp only at e
  split at e
  · exact ⟨rfl, (f69_S_eq o _ h c).trans e⟩
  · cases e
theorem ka_70000 : CodeOK K 71 f70_a70000 := (And.intro trivial trivial)
theorem kc_70000 : CodeOK K 71 f70_c70000 := (And.intro (And.intro trivial (And.intro trivial trivial)) (And.intro (And.intro trivial (And.intro (And.intro trivial trivial) trivial)) (And.intro trivial (And.intro (And.intro trivial trivial) trivial))))
theorem re_70000 : RE (H := H) P K 71 [13, 14] (fun o l vs h c => match vs with | [t13, t14, t1, t2, t3] => f70_R70000 o l t13 t14 t1 t2 t3 h c | _ => none) := by
  intro lin a b hk
  rw [kr_70000] at hk
  cases hk
  refine ⟨ka_70000, kc_70000, fun o l vs h c r e => ?_⟩
  dsimp only at e
  split at e
  · exact (f70_R70000_eq o l _ _ _ _ _ h c).trans e
  · cases e
theorem ck_70 : CodeOK K f70_f.nt f70_f.code := (And.intro trivial (And.intro (And.intro trivial (And.intro (And.intro trivial trivial) trivial)) (And.intro trivial (And.intro (And.intro trivial (And.intro rfl kr_70000)) (And.intro trivial trivial)))))
theorem fe_70 : FE (H := H) P bk K 70 (fun o vs h c => match vs with | [t0] => f70_S o t0 h c | _ => none) := by
  refine ⟨f70_f, bk_70, rfl, ck_70, fun o vs h c r e => ?_⟩
  dsimp only at e
  split at e
  · exact ⟨rfl, (f70_S_eq o _ h c).trans e⟩
  · cases e
theorem kc_71000 : CodeOK K 21 f71_c71000 := (And.intro trivial (And.intro (And.intro trivial trivial) (And.intro (And.intro trivial trivial) trivial)))
theorem le_71000 : LE (H := H) P K 71000 (fun o rd vs h c df => match vs with | [t2, t3, t10, t11] => f71_L71000 o rd t2 t3 t10 t11 h c df | _ => none) := by
  intro lin b nt hk
  rw [kl_71000] at hk
  cases hk
  refine ⟨kc_71000, fun o rd vs h c df q e => ?_⟩
  dsimp only at e
  split at e
  · exact (f71_L71000_eq o rd _ _ _ _ h c df).trans e
  · cases e
theorem ck_71 : CodeOK K f71_f.nt f71_f.code := (And.intro trivial (And.intro trivial (And.intro (And.intro trivial (And.intro rfl kl_71000)) (And.intro trivial trivial))))
theorem fe_71 : FE (H := H) P bk K 71 (fun o vs h c => match vs with | [t0] => f71_S o t0 h c | _ => none) := by
  refine ⟨f71_f, bk_71, rfl, ck_71, fun o vs h c r e => ?_⟩
  dsimp only at e
  split at e
  · exact ⟨rfl, (f71_S_eq o _ h c).trans e⟩
  · cases e
theorem ck_72 : CodeOK K f72_f.nt f72_f.code := (And.intro trivial trivial)
theorem fe_72 : FE (H := H) P bk K 72 (fun o vs h c => match vs with | [t0, t1, t2] => f72_S o t0 t1 t2 h c | _ => none) := by
  refine ⟨f72_f, bk_72, rfl, ck_72, fun o vs h c r e => ?_⟩
  dsimp only at e
  split at e
  · exact ⟨rfl, (f72_S_eq o _ _ _ h c).trans e⟩
  · cases e
theorem ck_73 : CodeOK K f73_f.nt f73_f.code := (And.intro trivial (And.intro trivial trivial))
theorem fe_73 : FE (H := H) P bk K 73 (fun o vs h c => match vs with | [t0, t1] => f73_S o t0 t1 h c | _ => none) := by
  refine ⟨f73_f, bk_73, rfl, ck_73, fun o vs h c r e => ?_⟩
  dsimp only at e
  split at e
  · exact ⟨rfl, (f73_S_eq o _ _ h c).trans e⟩
  · cases e
theorem kc_74000 : CodeOK K 56 f74_c74000 := (And.intro trivial (And.intro (And.intro trivial trivial) (And.intro (And.intro trivial (And.intro trivial (And.intro trivial trivial))) trivial)))
theorem le_74000 : LE (H := H) P K 74000 (fun o rd vs h c df => match vs with | [t0, t1, t7, t8, t9, t34] => f74_L74000 o rd t0 t1 t7 t8 t9 t34 h c df | _ => none) := by
  intro lin b nt hk
  rw [kl_74000] at hk
  cases hk
  refine ⟨kc_74000, fun o rd vs h c df q e => ?_⟩
  dsimp only at e
  split at e
  · exact (f74_L74000_eq o rd _ _ _ _ _ _ h c df).trans e
  · cases e
theorem ck_74 : CodeOK K f74_f.nt f74_f.code := (And.intro trivial (And.intro trivial (And.intro trivial (And.intro (And.intro trivial (And.intro rfl kl_74000)) (And.intro trivial trivial)))))
theorem fe_74 : FE (H := H) P bk K 74 (fun o vs h c => match vs with | [t0, t1, t2] => f74_S o t0 t1 t2 h c | _ => none) := by
  refine ⟨f74_f, bk_74, rfl, ck_74, fun o vs h c r e => ?_⟩
  dsimp only at e
  split at e
  · exact ⟨rfl, (f74_S_eq o _ _ _ h c).trans e⟩
  · cases e
theorem ck_75 : CodeOK K f75_f.nt f75_f.code := (And.intro trivial (And.intro trivial trivial))
theorem fe_75 : FE (H := H) P bk K 75 (fun o vs h c => match vs with | [t0, t1] => f75_S o t0 t1 h c | _ => none) := by
  refine ⟨f75_f, bk_75, rfl, ck_75, fun o vs h c r e => ?_⟩
  dsimp only at e
  split at e
  · exact ⟨rfl, (f75_S_eq o _ _ h c).trans e⟩
  · cases e
theorem ck_76 : CodeOK K f76_f.nt f76_f.code := (And.intro trivial (And.intro trivial trivial))
theorem fe_76 : FE (H := H) P bk K 76 (fun o vs h c => match vs with | [t0] => f76_S o t0 h c | _ => none) := by
  refine ⟨f76_f, bk_76, rfl, ck_76, fun o vs h c r e => ?_⟩
  dsimp only at e
  split at e
  · exact ⟨rfl, (f76_S_eq o _ h c).trans e⟩
  · cases e
theorem kc_77002 : CodeOK K 72 f77_c77002 := (And.intro trivial (And.intro (And.intro trivial trivial) (And.intro (And.intro trivial (And.intro trivial (And.intro trivial trivial))) trivial)))
theorem le_77002 : LE (H := H) P K 77002 (fun o rd vs h c df => match vs with | [t0, t3, t5, t6, t9, t10, t11, t16, t17, t44] => f77_L77002 o rd t0 t3 t5 t6 t9 t10 t11 t16 t17 t44 h c df | _ => none) := by
  intro lin b nt hk
  rw [kl_77002] at hk
  cases hk
  refine ⟨kc_77002, fun o rd vs h c df q e => ?_⟩
  dsimp only at e
  split at e
  · exact (f77_L77002_eq o rd _ _ _ _ _ _ _ _ _ _ h c df).trans e
  · cases e
theorem kc_77001 : CodeOK K 72 f77_c77001 := (And.intro trivial (And.intro (And.intro trivial trivial) (And.intro (And.intro trivial (And.intro (And.intro trivial (And.intro trivial trivial)) (And.intro trivial (And.intro rfl kl_77002)))) trivial)))
theorem le_77001 : LE (H := H) P K 77001 (fun o rd vs h c df => match vs with | [t0, t3, t9, t10, t11, t16, t17] => f77_L77001 o rd t0 t3 t9 t10 t11 t16 t17 h c df | _ => none) := by
  intro lin b nt hk
  rw [kl_77001] at hk
  cases hk
  refine ⟨kc_77001, fun o rd vs h c df q e => ?_⟩
  dsimp only at e
  split at e
  · exact (f77_L77001_eq o rd _ _ _ _ _ _ _ h c df).trans e
  · cases e
theorem kc_77000 : CodeOK K 72 f77_c77000 := (And.intro trivial (And.intro (And.intro trivial trivial) (And.intro (And.intro trivial (And.intro trivial (And.intro rfl kl_77001))) trivial)))
theorem le_77000 : LE (H := H) P K 77000 (fun o rd vs h c df => match vs with | [t0, t9, t10, t11] => f77_L77000 o rd t0 t9 t10 t11 h c df | _ => none) := by
  intro lin b nt hk
  rw [kl_77000] at hk
  cases hk
  refine ⟨kc_77000, fun o rd vs h c df q e => ?_⟩
  dsimp only at e
  split at e
  · exact (f77_L77000_eq o rd _ _ _ _ h c df).trans e
  · cases e
theorem ck_77 : CodeOK K f77_f.nt f77_f.code := (And.intro trivial (And.intro rfl kl_77000))
theorem fe_77 : FE (H := H) P bk K 77 (fun o vs h c => match vs with | [t0, t1] => f77_S o t0 t1 h c | _ => none) := by
  refine ⟨f77_f, bk_77, rfl, ck_77, fun o vs h c r e => ?_⟩
  dsimp only at e
  split at e
  · exact ⟨rfl, (f77_S_eq o _ _ h c).trans e⟩
  · cases e
theorem ck_83 : CodeOK K f83_f.nt f83_f.code := (And.intro trivial (And.intro trivial trivial))
theorem fe_83 : FE (H := H) P bk K 83 (fun o vs h c => match vs with | [t0] => f83_S o t0 h c | _ => none) := by
  refine ⟨f83_f, bk_83, rfl, ck_83, fun o vs h c r e => ?_⟩
  dsimp only at e
  split at e
  · exact ⟨rfl, (f83_S_eq o _ h c).trans e⟩
  · cases e
theorem kc_84000 : CodeOK K 23 f84_c84000 := (And.intro trivial (And.intro (And.intro trivial trivial) (And.intro (And.intro trivial (And.intro (And.intro trivial (And.intro (And.intro trivial trivial) trivial)) trivial)) trivial)))
theorem le_84000 : LE (H := H) P K 84000 (fun o rd vs h c df => match vs with | [t2, t3, t6, t7] => f84_L84000 o rd t2 t3 t6 t7 h c df | _ => none) := by
  intro lin b nt hk
  rw [kl_84000] at hk
  cases hk
  refine ⟨kc_84000, fun o rd vs h c df q e => ?_⟩
  dsimp only at e
  split at e
  · exact (f84_L84000_eq o rd _ _ _ _ h c df).trans e
  · cases e
theorem ck_84 : CodeOK K f84_f.nt f84_f.code := (And.intro trivial (And.intro trivial (And.intro (And.intro trivial (And.intro rfl kl_84000)) (And.intro trivial trivial))))
theorem fe_84 : FE (H := H) P bk K 84 (fun o vs h c => match vs with | [t0] => f84_S o t0 h c | _ => none) := by
  refine ⟨f84_f, bk_84, rfl, ck_84, fun o vs h c r e => ?_⟩
  dsimp only at e
  split at e
  · exact ⟨rfl, (f84_S_eq o _ h c).trans e⟩
  · cases e
theorem kc_85000 : CodeOK K 16 f85_c85000 := (And.intro trivial (And.intro (And.intro trivial trivial) (And.intro (And.intro trivial trivial) trivial)))
theorem le_85000 : LE (H := H) P K 85000 (fun o rd vs h c df => match vs with | [t2, t3, t6, t7] => f85_L85000 o rd t2 t3 t6 t7 h c df | _ => none) := by
  intro lin b nt hk
  rw [kl_85000] at hk
  cases hk
  refine ⟨kc_85000, fun o rd vs h c df q e => ?_⟩
  dsimp only at e
  split at e
  · exact (f85_L85000_eq o rd _ _ _ _ h c df).trans e
  · cases e
theorem ck_85 : CodeOK K f85_f.nt f85_f.code := (And.intro trivial (And.intro trivial (And.intro (And.intro trivial (And.intro rfl kl_85000)) (And.intro trivial trivial))))
theorem fe_85 : FE (H := H) P bk K 85 (fun o vs h c => match vs with | [t0] => f85_S o t0 h c | _ => none) := by
  refine ⟨f85_f, bk_85, rfl, ck_85, fun o vs h c r e => ?_⟩
  dsimp only at e
  split at e
  · exact ⟨rfl, (f85_S_eq o _ h c).trans e⟩
  · cases e
theorem kc_86000 : CodeOK K 19 f86_c86000 := (And.intro trivial (And.intro (And.intro trivial trivial) (And.intro (And.intro trivial (And.intro trivial (And.intro (And.intro trivial trivial) trivial))) trivial)))
theorem le_86000 : LE (H := H) P K 86000 (fun o rd vs h c df => match vs with | [t0, t1, t4, t7, t8] => f86_L86000 o rd t0 t1 t4 t7 t8 h c df | _ => none) := by
  intro lin b nt hk
  rw [kl_86000] at hk
  cases hk
  refine ⟨kc_86000, fun o rd vs h c df q e => ?_⟩
  dsimp only at e
  split at e
  · exact (f86_L86000_eq o rd _ _ _ _ _ h c df).trans e
  · cases e
theorem ck_86 : CodeOK K f86_f.nt f86_f.code := (And.intro trivial (And.intro (And.intro trivial (And.intro rfl kl_86000)) (And.intro trivial trivial)))
theorem fe_86 : FE (H := H) P bk K 86 (fun o vs h c => match vs with | [t0, t1] => f86_S o t0 t1 h c | _ => none) := by
  refine ⟨f86_f, bk_86, rfl, ck_86, fun o vs h c r e => ?_⟩
  dsimp only at e
  split at e
  · exact ⟨rfl, (f86_S_eq o _ _ h c).trans e⟩
  · cases e
theorem ck_87 : CodeOK K f87_f.nt f87_f.code := (And.intro trivial (And.intro trivial (And.intro trivial trivial)))
theorem fe_87 : FE (H := H) P bk K 87 (fun o vs h c => match vs with | [] => f87_S o h c | _ => none) := by
  refine ⟨f87_f, bk_87, rfl, ck_87, fun o vs h c r e => ?_⟩
  dsimp only at e
  split at e
  · exact ⟨rfl, (f87_S_eq o h c).trans e⟩
  · cases e
theorem ck_88 : CodeOK K f88_f.nt f88_f.code := (And.intro trivial (And.intro trivial trivial))
theorem fe_88 : FE (H := H) P bk K 88 (fun o vs h c => match vs with | [t0, t1, t2] => f88_S o t0 t1 t2 h c | _ => none) := by
  refine ⟨f88_f, bk_88, rfl, ck_88, fun o vs h c r e => ?_⟩
  dsimp only at e
  split at e
  · exact ⟨rfl, (f88_S_eq o _ _ _ h c).trans e⟩
  · cases e
theorem ck_89 : CodeOK K f89_f.nt f89_f.code := (And.intro trivial (And.intro trivial trivial))
theorem fe_89 : FE (H := H) P bk K 89 (fun o vs h c => match vs with | [] => f89_S o h c | _ => none) := by
  refine ⟨f89_f, bk_89, rfl, ck_89, fun o vs h c r e => ?_⟩
  dsimp only at e
  split at e
  · exact ⟨rfl, (f89_S_eq o h c).trans e⟩
  · cases e
theorem kc_90000 : CodeOK K 19 f90_c90000 := (And.intro trivial (And.intro (And.intro trivial trivial) (And.intro (And.intro trivial (And.intro trivial (And.intro (And.intro trivial trivial) trivial))) trivial)))
theorem le_90000 : LE (H := H) P K 90000 (fun o rd vs h c df => match vs with | [t0, t1, t4, t7, t8] => f90_L90000 o rd t0 t1 t4 t7 t8 h c df | _ => none) := by
  intro lin b nt hk
  rw [kl_90000] at hk
  cases hk
  refine ⟨kc_90000, fun o rd vs h c df q e => ?_⟩
  dsimp only at e
  split at e
  · exact (f90_L90000_eq o rd _ _ _ _ _ h c df).trans e
  · cases e
theorem ck_90 : CodeOK K f90_f.nt f90_f.code := (And.intro trivial (And.intro (And.intro trivial (And.intro rfl kl_90000)) (And.intro trivial trivial)))
theorem fe_90 : FE (H := H) P bk K 90 (fun o vs h c => match vs with | [t0, t1] => f90_S o t0 t1 h c | _ => none) := by
  refine ⟨f90_f, bk_90, rfl, ck_90, fun o vs h c r e => ?_⟩
  dsimp only at e
  split at e
  · exact ⟨rfl, (f90_S_eq o _ _ h c).trans e⟩
  · cases e
theorem kc_91001 : CodeOK K 30 f91_c91001 := (And.intro trivial (And.intro (And.intro trivial trivial) (And.intro (And.intro trivial (And.intro trivial (And.intro trivial trivial))) trivial)))
theorem le_91001 : LE (H := H) P K 91001 (fun o rd vs h c df => match vs with | [t0, t1, t3, t8, t9, t16, t17] => f91_L91001 o rd t0 t1 t3 t8 t9 t16 t17 h c df | _ => none) := by
  intro lin b nt hk
  rw [kl_91001] at hk
  cases hk
  refine ⟨kc_91001, fun o rd vs h c df q e => ?_⟩
  dsimp only at e
  split at e
  · exact (f91_L91001_eq o rd _ _ _ _ _ _ _ h c df).trans e
  · cases e
theorem kc_91000 : CodeOK K 30 f91_c91000 := (And.intro trivial (And.intro (And.intro trivial trivial) (And.intro (And.intro trivial (And.intro trivial (And.intro rfl kl_91001))) trivial)))
theorem le_91000 : LE (H := H) P K 91000 (fun o rd vs h c df => match vs with | [t0, t1, t8, t9] => f91_L91000 o rd t0 t1 t8 t9 h c df | _ => none) := by
  intro lin b nt hk
  rw [kl_91000] at hk
  cases hk
  refine ⟨kc_91000, fun o rd vs h c df q e => ?_⟩
  dsimp only at e
  split at e
  · exact (f91_L91000_eq o rd _ _ _ _ h c df).trans e
  · cases e
theorem ck_91 : CodeOK K f91_f.nt f91_f.code := (And.intro trivial (And.intro rfl kl_91000))
theorem fe_91 : FE (H := H) P bk K 91 (fun o vs h c => match vs with | [t0, t1] => f91_S o t0 t1 h c | _ => none) := by
  refine ⟨f91_f, bk_91, rfl, ck_91, fun o vs h c r e => ?_⟩
  dsimp only at e
  split at e
  · exact ⟨rfl, (f91_S_eq o _ _ h c).trans e⟩
  · cases e
noncomputable def tbF : BT (Orc H → List Value → H → Nat → Option (Rt H)) := (.node 56 (fun o vs h c => match vs with | [t0] => f56_S o t0 h c | _ => none) (.node 42 (fun o vs h c => match vs with | [t0] => f42_S o t0 h c | _ => none) (.node 17 (fun o vs h c => match vs with | [t0, t1] => f17_S o t0 t1 h c | _ => none) (.node 14 (fun o vs h c => match vs with | [t0] => f14_S o t0 h c | _ => none) (.node 13 (fun o vs h c => match vs with | [t0] => f13_S o t0 h c | _ => none) (.node 11 (fun o vs h c => match vs with | [] => f11_S o h c | _ => none) .leaf .leaf) .leaf) (.node 16 (fun o vs h c => match vs with | [t0, t1] => f16_S o t0 t1 h c | _ => none) (.node 15 (fun o vs h c => match vs with | [t0, t1] => f15_S o t0 t1 h c | _ => none) .leaf .leaf) .leaf)) (.node 25 (fun o vs h c => match vs with | [t0, t1] => f25_S o t0 t1 h c | _ => none) (.node 23 (fun o vs h c => match vs with | [t0, t1] => f23_S o t0 t1 h c | _ => none) (.node 21 (fun o vs h c => match vs with | [t0, t1] => f21_S o t0 t1 h c | _ => none) .leaf .leaf) .leaf) (.node 41 (fun o vs h c => match vs with | [t0] => f41_S o t0 h c | _ => none) (.node 40 (fun o vs h c => match vs with | [t0] => f40_S o t0 h c | _ => none) .leaf .leaf) .leaf))) (.node 48 (fun o vs h c => match vs with | [t0] => f48_S o t0 h c | _ => none) (.node 45 (fun o vs h c => match vs with | [t0] => f45_S o t0 h c | _ => none) (.node 44 (fun o vs h c => match vs with | [t0] => f44_S o t0 h c | _ => none) (.node 43 (fun o vs h c => match vs with | [t0] => f43_S o t0 h c | _ => none) .leaf .leaf) .leaf) (.node 47 (fun o vs h c => match vs with | [t0, t1] => f47_S o t0 t1 h c | _ => none) (.node 46 (fun o vs h c => match vs with | [t0, t1] => f46_S o t0 t1 h c | _ => none) .leaf .leaf) .leaf)) (.node 53 (fun o vs h c => match vs with | [t0] => f53_S o t0 h c | _ => none) (.node 50 (fun o vs h c => match vs with | [t0, t1, t2, t3] => f50_S o t0 t1 t2 t3 h c | _ => none) (.node 49 (fun o vs h c => match vs with | [t0, t1] => f49_S o t0 t1 h c | _ => none) .leaf .leaf) .leaf) (.node 55 (fun o vs h c => match vs with | [t0] => f55_S o t0 h c | _ => none) .leaf .leaf)))) (.node 76 (fun o vs h c => match vs with | [t0] => f76_S o t0 h c | _ => none) (.node 70 (fun o vs h c => match vs with | [t0] => f70_S o t0 h c | _ => none) (.node 60 (fun o vs h c => match vs with | [] => f60_S o h c | _ => none) (.node 59 (fun o vs h c => match vs with | [t0] => f59_S o t0 h c | _ => none) (.node 57 (fun o vs h c => match vs with | [t0, t1] => f57_S o t0 t1 h c | _ => none) .leaf .leaf) .leaf) (.node 69 (fun o vs h c => match vs with | [t0] => f69_S o t0 h c | _ => none) (.node 68 (fun o vs h c => match vs with | [t0] => f68_S o t0 h c | _ => none) .leaf .leaf) .leaf)) (.node 73 (fun o vs h c => match vs with | [t0, t1] => f73_S o t0 t1 h c | _ => none) (.node 72 (fun o vs h c => match vs with | [t0, t1, t2] => f72_S o t0 t1 t2 h c | _ => none) (.node 71 (fun o vs h c => match vs with | [t0] => f71_S o t0 h c | _ => none) .leaf .leaf) .leaf) (.node 75 (fun o vs h c => match vs with | [t0, t1] => f75_S o t0 t1 h c | _ => none) (.node 74 (fun o vs h c => match vs with | [t0, t1, t2] => f74_S o t0 t1 t2 h c | _ => none) .leaf .leaf) .leaf))) (.node 87 (fun o vs h c => match vs with | [] => f87_S o h c | _ => none) (.node 84 (fun o vs h c => match vs with | [t0] => f84_S o t0 h c | _ => none) (.node 83 (fun o vs h c => match vs with | [t0] => f83_S o t0 h c | _ => none) (.node 77 (fun o vs h c => match vs with | [t0, t1] => f77_S o t0 t1 h c | _ => none) .leaf .leaf) .leaf) (.node 86 (fun o vs h c => match vs with | [t0, t1] => f86_S o t0 t1 h c | _ => none) (.node 85 (fun o vs h c => match vs with | [t0] => f85_S o t0 h c | _ => none) .leaf .leaf) .leaf)) (.node 90 (fun o vs h c => match vs with | [t0, t1] => f90_S o t0 t1 h c | _ => none) (.node 89 (fun o vs h c => match vs with | [] => f89_S o h c | _ => none) (.node 88 (fun o vs h c => match vs with | [t0, t1, t2] => f88_S o t0 t1 t2 h c | _ => none) .leaf .leaf) .leaf) (.node 91 (fun o vs h c => match vs with | [t0, t1] => f91_S o t0 t1 h c | _ => none) .leaf .leaf)))))
noncomputable def tbL : BT (Orc H → Option Nat → List Value → H → Nat → List Nat → Option (Rt H)) := (.node 47001 (fun o rd vs h c df => match vs with | [t2, t4, t7, t15, t16, t17, t35, t36] => f47_L47001 o rd t2 t4 t7 t15 t16 t17 t35 t36 h c df | _ => none) (.node 23002 (fun o rd vs h c df => match vs with | [t1, t4, t5, t8, t11, t12, t33, t34, t35, t81, t82] => f23_L23002 o rd t1 t4 t5 t8 t11 t12 t33 t34 t35 t81 t82 h c df | _ => none) (.node 15001 (fun o rd vs h c df => match vs with | [t1, t7, t8, t28, t29, t30, t35, t36] => f15_L15001 o rd t1 t7 t8 t28 t29 t30 t35 t36 h c df | _ => none) (.node 14000 (fun o rd vs h c df => match vs with | [t1, t5, t7, t26, t27, t28] => f14_L14000 o rd t1 t5 t7 t26 t27 t28 h c df | _ => none) (.node 13001 (fun o rd vs h c df => match vs with | [t1, t2, t3, t4, t5] => f13_L13001 o rd t1 t2 t3 t4 t5 h c df | _ => none) (.node 13000 (fun o rd vs h c df => match vs with | [t1, t2, t3, t4] => f13_L13000 o rd t1 t2 t3 t4 h c df | _ => none) .leaf .leaf) .leaf) (.node 15000 (fun o rd vs h c df => match vs with | [t1, t7, t28, t29, t30] => f15_L15000 o rd t1 t7 t28 t29 t30 h c df | _ => none) (.node 14001 (fun o rd vs h c df => match vs with | [t1, t5, t7, t9, t10, t26, t27, t28, t42, t43] => f14_L14001 o rd t1 t5 t7 t9 t10 t26 t27 t28 t42 t43 h c df | _ => none) .leaf .leaf) .leaf)) (.node 23000 (fun o rd vs h c df => match vs with | [t1, t4, t5, t8, t33, t34, t35] => f23_L23000 o rd t1 t4 t5 t8 t33 t34 t35 h c df | _ => none) (.node 21000 (fun o rd vs h c df => match vs with | [t0, t1, t4, t5] => f21_L21000 o rd t0 t1 t4 t5 h c df | _ => none) (.node 15002 (fun o rd vs h c df => match vs with | [t1, t7, t8, t10, t28, t29, t30, t35, t36, t63] => f15_L15002 o rd t1 t7 t8 t10 t28 t29 t30 t35 t36 t63 h c df | _ => none) .leaf .leaf) .leaf) (.node 23001 (fun o rd vs h c df => match vs with | [t1, t4, t5, t8, t11, t12, t33, t34, t35, t53, t54] => f23_L23001 o rd t1 t4 t5 t8 t11 t12 t33 t34 t35 t53 t54 h c df | _ => none) .leaf .leaf))) (.node 42000 (fun o rd vs h c df => match vs with | [t1, t2, t3, t4] => f42_L42000 o rd t1 t2 t3 t4 h c df | _ => none) (.node 40001 (fun o rd vs h c df => match vs with | [t2, t3, t4, t5, t7, t8, t9, t10, t11] => f40_L40001 o rd t2 t3 t4 t5 t7 t8 t9 t10 t11 h c df | _ => none) (.node 40000 (fun o rd vs h c df => match vs with | [t2, t3, t4, t5, t7, t8, t9] => f40_L40000 o rd t2 t3 t4 t5 t7 t8 t9 h c df | _ => none) (.node 25000 (fun o rd vs h c df => match vs with | [t1, t2, t4, t5, t29, t30] => f25_L25000 o rd t1 t2 t4 t5 t29 t30 h c df | _ => none) .leaf .leaf) .leaf) (.node 41000 (fun o rd vs h c df => match vs with | [t1, t2, t3, t4] => f41_L41000 o rd t1 t2 t3 t4 h c df | _ => none) (.node 40002 (fun o rd vs h c df => match vs with | [t2, t3, t4, t5, t7, t8, t9, t10, t11, t14] => f40_L40002 o rd t2 t3 t4 t5 t7 t8 t9 t10 t11 t14 h c df | _ => none) .leaf .leaf) .leaf)) (.node 46000 (fun o rd vs h c df => match vs with | [t0, t1] => f46_L46000 o rd t0 t1 h c df | _ => none) (.node 45000 (fun o rd vs h c df => match vs with | [t0, t3, t9, t10] => f45_L45000 o rd t0 t3 t9 t10 h c df | _ => none) (.node 44001 (fun o rd vs h c df => match vs with | [t6, t7, t8, t52] => f44_L44001 o rd t6 t7 t8 t52 h c df | _ => none) .leaf .leaf) .leaf) (.node 47000 (fun o rd vs h c df => match vs with | [t2, t4, t15, t16, t17] => f47_L47000 o rd t2 t4 t15 t16 t17 h c df | _ => none) .leaf .leaf)))) (.node 71000 (fun o rd vs h c df => match vs with | [t2, t3, t10, t11] => f71_L71000 o rd t2 t3 t10 t11 h c df | _ => none) (.node 57002 (fun o rd vs h c df => match vs with | [t2, t4, t5, t7, t11, t14, t15, t16, t62, t63, t64] => f57_L57002 o rd t2 t4 t5 t7 t11 t14 t15 t16 t62 t63 t64 h c df | _ => none) (.node 56000 (fun o rd vs h c df => match vs with | [t3, t6, t7, t8] => f56_L56000 o rd t3 t6 t7 t8 h c df | _ => none) (.node 49000 (fun o rd vs h c df => match vs with | [t1, t7, t19, t20, t21] => f49_L49000 o rd t1 t7 t19 t20 t21 h c df | _ => none) (.node 48000 (fun o rd vs h c df => match vs with | [t3, t6, t7, t8] => f48_L48000 o rd t3 t6 t7 t8 h c df | _ => none) .leaf .leaf) .leaf) (.node 57001 (fun o rd vs h c df => match vs with | [t2, t4, t5, t7, t11, t62, t63, t64] => f57_L57001 o rd t2 t4 t5 t7 t11 t62 t63 t64 h c df | _ => none) (.node 57000 (fun o rd vs h c df => match vs with | [t1, t2, t4, t5, t6, t7, t33, t34] => f57_L57000 o rd t1 t2 t4 t5 t6 t7 t33 t34 h c df | _ => none) .leaf .leaf) .leaf)) (.node 68000 (fun o rd vs h c df => match vs with | [t0, t3, t4, t5] => f68_L68000 o rd t0 t3 t4 t5 h c df | _ => none) (.node 57004 (fun o rd vs h c df => match vs with | [t2, t4, t5, t7, t11, t15, t62, t63, t64, t177, t178, t179] => f57_L57004 o rd t2 t4 t5 t7 t11 t15 t62 t63 t64 t177 t178 t179 h c df | _ => none) (.node 57003 (fun o rd vs h c df => match vs with | [t2, t4, t5, t7, t11, t14, t15, t16, t17, t18, t62, t63, t64, t93, t94] => f57_L57003 o rd t2 t4 t5 t7 t11 t14 t15 t16 t17 t18 t62 t63 t64 t93 t94 h c df | _ => none) .leaf .leaf) .leaf) (.node 69000 (fun o rd vs h c df => match vs with | [t0, t2, t3, t4, t5] => f69_L69000 o rd t0 t2 t3 t4 t5 h c df | _ => none) .leaf .leaf))) (.node 85000 (fun o rd vs h c df => match vs with | [t2, t3, t6, t7] => f85_L85000 o rd t2 t3 t6 t7 h c df | _ => none) (.node 77001 (fun o rd vs h c df => match vs with | [t0, t3, t9, t10, t11, t16, t17] => f77_L77001 o rd t0 t3 t9 t10 t11 t16 t17 h c df | _ => none) (.node 77000 (fun o rd vs h c df => match vs with | [t0, t9, t10, t11] => f77_L77000 o rd t0 t9 t10 t11 h c df | _ => none) (.node 74000 (fun o rd vs h c df => match vs with | [t0, t1, t7, t8, t9, t34] => f74_L74000 o rd t0 t1 t7 t8 t9 t34 h c df | _ => none) .leaf .leaf) .leaf) (.node 84000 (fun o rd vs h c df => match vs with | [t2, t3, t6, t7] => f84_L84000 o rd t2 t3 t6 t7 h c df | _ => none) (.node 77002 (fun o rd vs h c df => match vs with | [t0, t3, t5, t6, t9, t10, t11, t16, t17, t44] => f77_L77002 o rd t0 t3 t5 t6 t9 t10 t11 t16 t17 t44 h c df | _ => none) .leaf .leaf) .leaf)) (.node 91000 (fun o rd vs h c df => match vs with | [t0, t1, t8, t9] => f91_L91000 o rd t0 t1 t8 t9 h c df | _ => none) (.node 90000 (fun o rd vs h c df => match vs with | [t0, t1, t4, t7, t8] => f90_L90000 o rd t0 t1 t4 t7 t8 h c df | _ => none) (.node 86000 (fun o rd vs h c df => match vs with | [t0, t1, t4, t7, t8] => f86_L86000 o rd t0 t1 t4 t7 t8 h c df | _ => none) .leaf .leaf) .leaf) (.node 91001 (fun o rd vs h c df => match vs with | [t0, t1, t3, t8, t9, t16, t17] => f91_L91001 o rd t0 t1 t3 t8 t9 t16 t17 h c df | _ => none) .leaf .leaf)))))
noncomputable def tbR : List (Nat × List Nat × (Orc H → Nat → List Value → H → Nat → Option (Rt H))) := [(92, [25], (fun o l vs h c => match vs with | [t25, t1, t5, t6] => f44_R44000 o l t25 t1 t5 t6 h c | _ => none)), (71, [52], (fun o l vs h c => match vs with | [t52, t4, t7] => f47_R47002 o l t52 t4 t7 h c | _ => none)), (71, [13, 14], (fun o l vs h c => match vs with | [t13, t14, t1, t2, t3] => f70_R70000 o l t13 t14 t1 t2 t3 h c | _ => none))]
noncomputable def tab : Tab H := { F := fun f => tbF.look f, L := fun j => tbL.look j, R := fun nt ps => lookR nt ps tbR }
theorem tab_ok : TabOK (H := H) P bk K tab := ⟨fun f F e => BT.look_all (Q := FE P bk K) (t := tbF) (And.intro fe_56 (And.intro (And.intro fe_42 (And.intro (And.intro fe_17 (And.intro (And.intro fe_14 (And.intro (And.intro fe_13 (And.intro (And.intro fe_11 (And.intro trivial trivial)) trivial)) (And.intro fe_16 (And.intro (And.intro fe_15 (And.intro trivial trivial)) trivial)))) (And.intro fe_25 (And.intro (And.intro fe_23 (And.intro (And.intro fe_21 (And.intro trivial trivial)) trivial)) (And.intro fe_41 (And.intro (And.intro fe_40 (And.intro trivial trivial)) trivial)))))) (And.intro fe_48 (And.intro (And.intro fe_45 (And.intro (And.intro fe_44 (And.intro (And.intro fe_43 (And.intro trivial trivial)) trivial)) (And.intro fe_47 (And.intro (And.intro fe_46 (And.intro trivial trivial)) trivial)))) (And.intro fe_53 (And.intro (And.intro fe_50 (And.intro (And.intro fe_49 (And.intro trivial trivial)) trivial)) (And.intro fe_55 (And.intro trivial trivial)))))))) (And.intro fe_76 (And.intro (And.intro fe_70 (And.intro (And.intro fe_60 (And.intro (And.intro fe_59 (And.intro (And.intro fe_57 (And.intro trivial trivial)) trivial)) (And.intro fe_69 (And.intro (And.intro fe_68 (And.intro trivial trivial)) trivial)))) (And.intro fe_73 (And.intro (And.intro fe_72 (And.intro (And.intro fe_71 (And.intro trivial trivial)) trivial)) (And.intro fe_75 (And.intro (And.intro fe_74 (And.intro trivial trivial)) trivial)))))) (And.intro fe_87 (And.intro (And.intro fe_84 (And.intro (And.intro fe_83 (And.intro (And.intro fe_77 (And.intro trivial trivial)) trivial)) (And.intro fe_86 (And.intro (And.intro fe_85 (And.intro trivial trivial)) trivial)))) (And.intro fe_90 (And.intro (And.intro fe_89 (And.intro (And.intro fe_88 (And.intro trivial trivial)) trivial)) (And.intro fe_91 (And.intro trivial trivial)))))))))) e,
  fun j B lin b nt e hk => BT.look_all (Q := LE P K) (t := tbL) (And.intro le_47001 (And.intro (And.intro le_23002 (And.intro (And.intro le_15001 (And.intro (And.intro le_14000 (And.intro (And.intro le_13001 (And.intro (And.intro le_13000 (And.intro trivial trivial)) trivial)) (And.intro le_15000 (And.intro (And.intro le_14001 (And.intro trivial trivial)) trivial)))) (And.intro le_23000 (And.intro (And.intro le_21000 (And.intro (And.intro le_15002 (And.intro trivial trivial)) trivial)) (And.intro le_23001 (And.intro trivial trivial)))))) (And.intro le_42000 (And.intro (And.intro le_40001 (And.intro (And.intro le_40000 (And.intro (And.intro le_25000 (And.intro trivial trivial)) trivial)) (And.intro le_41000 (And.intro (And.intro le_40002 (And.intro trivial trivial)) trivial)))) (And.intro le_46000 (And.intro (And.intro le_45000 (And.intro (And.intro le_44001 (And.intro trivial trivial)) trivial)) (And.intro le_47000 (And.intro trivial trivial)))))))) (And.intro le_71000 (And.intro (And.intro le_57002 (And.intro (And.intro le_56000 (And.intro (And.intro le_49000 (And.intro (And.intro le_48000 (And.intro trivial trivial)) trivial)) (And.intro le_57001 (And.intro (And.intro le_57000 (And.intro trivial trivial)) trivial)))) (And.intro le_68000 (And.intro (And.intro le_57004 (And.intro (And.intro le_57003 (And.intro trivial trivial)) trivial)) (And.intro le_69000 (And.intro trivial trivial)))))) (And.intro le_85000 (And.intro (And.intro le_77001 (And.intro (And.intro le_77000 (And.intro (And.intro le_74000 (And.intro trivial trivial)) trivial)) (And.intro le_84000 (And.intro (And.intro le_77002 (And.intro trivial trivial)) trivial)))) (And.intro le_91000 (And.intro (And.intro le_90000 (And.intro (And.intro le_86000 (And.intro trivial trivial)) trivial)) (And.intro le_91001 (And.intro trivial trivial)))))))))) e lin b nt hk,
  fun nt ps D lin a b e hk => lookR_all (Q := RE P K) (l := tbR) (And.intro re_44000 (And.intro re_47002 (And.intro re_70000 trivial))) e lin a b hk⟩
theorem ev_run {n : Nat} {k : Key} {vs : List Value} {h : H} {c : Nat} {df : List Nat} {r : Rt H} (hk : KeyOK K k) (hi : InvL K h) (e : evT tab n k vs h c df = some r) : run P bk k vs h c df = some r := (evT_good tab_ok n k vs h c df r hk hi e).1
end Go.Proofs.Ytcnndelmnobigaa

namespace Go.Ab
open Go
set_option linter.unusedVariables false
set_option linter.unusedSimpArgs false
variable {P : Program}
@[simp] theorem boolK_bool {β : Type} (t : Bool) (a b : Option β) : boolK (.bool t) a b = cond t a b := rfl
@[simp] theorem gv_bool (b w : Bool) : gv (.bool b) w = some (b == w) := rfl
@[simp] theorem ret1_v {H : Type} (h : H) (c : Nat) (v : Value) : ret1 h c (some v) = some (v, h, c) := rfl
@[simp] theorem pickV_bool (t : Bool) (a b : Value) : pickV (.bool t) a b = some (cond t a b) := rfl
@[simp] theorem pickR_bool {H : Type} (h : H) (c : Nat) (t : Bool) (a b : Value) : pickR h c (.bool t) a b = some (cond t a b, h, c) := rfl
@[simp] theorem exIs_nn : exIs .normal .normal = true := rfl
@[simp] theorem exIs_rr : exIs .ret .ret = true := rfl
@[simp] theorem exIs_nr : exIs .normal .ret = false := rfl
@[simp] theorem exIs_rn : exIs .ret .normal = false := rfl
@[simp] theorem exIs_ne (i : Nat) : exIs .normal (.exit i) = false := rfl
@[simp] theorem exIs_re (i : Nat) : exIs .ret (.exit i) = false := rfl
@[simp] theorem exIs_en (i : Nat) : exIs (.exit i) .normal = false := rfl
@[simp] theorem exIs_er (i : Nat) : exIs (.exit i) .ret = false := rfl
@[simp] theorem exIs_ee (i j : Nat) : exIs (.exit i) (.exit j) = decide (i = j) := by
  show Nat.beq i j = _
  rw [Bool.eq_iff_iff]; simp
@[simp] theorem v_zero {H : Type} (e : Ex) (v : Value) (vs : List Value) (h : H) (c : Nat) (df : List Nat) : Rt.v { e := e, vs := v :: vs, h := h, c := c, df := df } 0 = v := rfl
@[simp] theorem v_succ {H : Type} (e : Ex) (v : Value) (vs : List Value) (h : H) (c : Nat) (df : List Nat) (i : Nat) :
    Rt.v { e := e, vs := v :: vs, h := h, c := c, df := df } (i + 1) = Rt.v { e := e, vs := vs, h := h, c := c, df := df } i := rfl
@[simp] theorem aBinOp_lss (t : TypeId) (k : IntKind) (a b : Int) : aBinOp P .lss t (.int k a) (.int k b) = some (.bool (decide (a < b))) := by rw [aBinOp_eq]; simp [aBinOp0, intBin]
@[simp] theorem aBinOp_leq (t : TypeId) (k : IntKind) (a b : Int) : aBinOp P .leq t (.int k a) (.int k b) = some (.bool (decide (a ≤ b))) := by rw [aBinOp_eq]; simp [aBinOp0, intBin]
@[simp] theorem aBinOp_gtr (t : TypeId) (k : IntKind) (a b : Int) : aBinOp P .gtr t (.int k a) (.int k b) = some (.bool (decide (b < a))) := by rw [aBinOp_eq]; simp [aBinOp0, intBin]
@[simp] theorem aBinOp_geq (t : TypeId) (k : IntKind) (a b : Int) : aBinOp P .geq t (.int k a) (.int k b) = some (.bool (decide (b ≤ a))) := by rw [aBinOp_eq]; simp [aBinOp0, intBin]
@[simp] theorem aBinOp_eql (t : TypeId) (k : IntKind) (a b : Int) : aBinOp P .eql t (.int k a) (.int k b) = some (.bool (decide (a = b))) := by rw [aBinOp_eq]; simp only [aBinOp0, intBin, decide_true, cond_true]; congr
@[simp] theorem aBinOp_neq (t : TypeId) (k : IntKind) (a b : Int) : aBinOp P .neq t (.int k a) (.int k b) = some (.bool (!decide (a = b))) := by rw [aBinOp_eq]; simp only [aBinOp0, intBin, decide_true, cond_true]; congr
theorem aBinOp_add_wrap (t : TypeId) (a b : Int) : aBinOp P .add t (.int .i64 a) (.int .i64 b) = some (.int .i64 (IntKind.i64.wrap (a + b))) := by rw [aBinOp_eq]; simp [aBinOp0, intBin]
@[simp] theorem aBinOp_add (t : TypeId) (a b : Int) (h1 : -9223372036854775808 ≤ a + b) (h2 : a + b < 9223372036854775808) : aBinOp P .add t (.int .i64 a) (.int .i64 b) = some (.int .i64 (a + b)) := by
  rw [aBinOp_add_wrap, wrap_i64 h1 h2]
@[simp] theorem aBinOp_sub (t : TypeId) (a b : Int) (h1 : -9223372036854775808 ≤ a - b) (h2 : a - b < 9223372036854775808) : aBinOp P .sub t (.int .i64 a) (.int .i64 b) = some (.int .i64 (a - b)) := by
  rw [aBinOp_eq]; simp only [aBinOp0, intBin, decide_true, cond_true, wrap_i64 h1 h2]
@[simp] theorem aBinOp_mul (t : TypeId) (a b : Int) (h1 : -9223372036854775808 ≤ a * b) (h2 : a * b < 9223372036854775808) : aBinOp P .mul t (.int .i64 a) (.int .i64 b) = some (.int .i64 (a * b)) := by
  rw [aBinOp_eq]; simp only [aBinOp0, intBin, decide_true, cond_true, wrap_i64 h1 h2]
@[simp] theorem aBinOp_quo (t : TypeId) (a b : Int) (h : b ≠ 0) (h1 : -9223372036854775808 ≤ a.tdiv b) (h2 : a.tdiv b < 9223372036854775808) : aBinOp P .quo t (.int .i64 a) (.int .i64 b) = some (.int .i64 (a.tdiv b)) := by
  rw [aBinOp_eq]; simp only [aBinOp0, intBin, decide_true, cond_true, wrap_i64 h1 h2, h, decide_false, cond_false]
@[simp] theorem aBinOp_rem (t : TypeId) (a b : Int) (h : b ≠ 0) : aBinOp P .rem t (.int .i64 a) (.int .i64 b) = some (.int .i64 (a.tmod b)) := by
  rw [aBinOp_eq]; simp only [aBinOp0, intBin, decide_true, cond_true, h, decide_false, cond_false]
@[simp] theorem aUnOp_not (b : Bool) : aUnOp .not (.bool b) = some (.bool (!b)) := rfl
@[simp] theorem aUnOp_neg (a : Int) (h1 : -9223372036854775808 ≤ -a) (h2 : -a < 9223372036854775808) : aUnOp .neg (.int .i64 a) = some (.int .i64 (-a)) := by
  simp only [aUnOp, Int.zero_sub, wrap_i64 h1 h2]
@[simp] theorem cnvI_i64 (k : IntKind) (a : Int) (h1 : -9223372036854775808 ≤ a) (h2 : a < 9223372036854775808) : cnvI .i64 (.int k a) = some (.int .i64 a) := by simp only [cnvI, wrap_i64 h1 h2]
@[simp] theorem foldV_max (a b : Int) : foldV max2 [.int .i64 a, .int .i64 b] = some (.int .i64 (max a b)) := by
  simp only [foldV, List.foldlM, max2, decide_true, cond_true]
  show some (Value.int .i64 _) = _
  congr 2
  split <;> omega
@[simp] theorem foldV_min (a b : Int) : foldV min2 [.int .i64 a, .int .i64 b] = some (.int .i64 (min a b)) := by
  simp only [foldV, List.foldlM, min2, decide_true, cond_true]
  show some (Value.int .i64 _) = _
  congr 2
  split <;> omega
@[simp] theorem lenS_sl (a : Option Addr) (n k : Nat) : lenS (.slice a n k) = some (.int .i64 n) := rfl
@[simp] theorem addOff_ptrTo (i n : Nat) : addOff (ptrTo i) n = some (.pointer (some ⟨i, n, none⟩)) := by simp [addOff, ptrTo, asPtr]
@[simp] theorem addOff_ptr (i o n : Nat) : addOff (.pointer (some ⟨i, o, none⟩)) n = some (.pointer (some ⟨i, o + n, none⟩)) := rfl
@[simp] theorem nilCheck_ptrTo (i : Nat) : aNilCheck (ptrTo i) = some (ptrTo i) := rfl
@[simp] theorem nilCheck_ptr (i o : Nat) : aNilCheck (.pointer (some ⟨i, o, none⟩)) = some (.pointer (some ⟨i, o, none⟩)) := rfl
theorem aIdx_int {len : Nat} {k : IntKind} {i : Int} (h1 : 0 ≤ i) (h2 : i < (len : Int)) : aIdx len (.int k i) = some i.toNat := by
  unfold aIdx
  cases i with
  | ofNat m =>
    dsimp only
    have : Nat.blt m len = true := by rw [Nat.blt_eq]; simpa using h2
    rw [this]; rfl
  | negSucc m => simp at h1
@[simp] theorem ixA_ptrTo (len sz b : Nat) (k : IntKind) (i : Int) (h1 : 0 ≤ i) (h2 : i < (len : Int)) : ixA len sz (ptrTo b) (.int k i) = some (.pointer (some ⟨b, i.toNat * sz, none⟩)) := by
  simp [ixA, aIdx_int h1 h2]
@[simp] theorem ixA_ptr (len sz b o : Nat) (k : IntKind) (i : Int) (h1 : 0 ≤ i) (h2 : i < (len : Int)) : ixA len sz (.pointer (some ⟨b, o, none⟩)) (.int k i) = some (.pointer (some ⟨b, o + i.toNat * sz, none⟩)) := by
  simp [ixA, aIdx_int h1 h2]
@[simp] theorem ixS_sl (sz b o n cap : Nat) (k : IntKind) (i : Int) (h1 : 0 ≤ i) (h2 : i < (n : Int)) : ixS sz (.slice (some ⟨b, o, none⟩) n cap) (.int k i) = some (.pointer (some ⟨b, o + i.toNat * sz, none⟩)) := by
  simp [ixS, aIdx_int h1 h2]
@[simp] theorem get_newB_same (h : FH) (i : Nat) (cs : List Value) : HeapC.get (newB h i cs) i = some (.cells false none cs) := by simp [newB, HeapC.get_set]
@[simp] theorem get_newB_ne (h : FH) (i j : Nat) (cs : List Value) (hne : j ≠ i) : HeapC.get (newB h i cs) j = HeapC.get h j := by simp [newB, HeapC.get_set, hne]
theorem FH.ext {a b : FH} (h : ∀ i, a.f i = b.f i) : a = b := by
  cases a; cases b
  congr
  exact funext h
theorem newB_f (h : FH) (i : Nat) (cs : List Value) (j : Nat) : (newB h i cs).f j = if j = i then some (.cells false none cs) else h.f j := HeapC.get_set (H := FH) h i _ j
@[simp] theorem newB_newB (h : FH) (i : Nat) (a b : List Value) : newB (newB h i a) i b = newB h i b := by
  apply FH.ext
  intro j
  simp only [newB_f]
  split <;> rfl
theorem newB_same (h : FH) (i : Nat) (cs : List Value) (hg : HeapC.get h i = some (.cells false none cs)) : newB h i cs = h := by
  apply FH.ext
  intro k
  rw [newB_f]
  split
  · rename_i e; rw [e]; exact hg.symm
  · rfl
def Holds (h : FH) (b : Nat) (cs : List Value) : Prop := ∃ ro op, HeapC.get h b = some (.cells ro op cs)
theorem Holds.newB_same (h : FH) (i : Nat) (cs : List Value) : Holds (newB h i cs) i cs := ⟨_, _, get_newB_same h i cs⟩
theorem Holds.newB_ne {h : FH} {i j : Nat} {cs ds : List Value} (hne : j ≠ i) (hh : Holds h j ds) : Holds (newB h i cs) j ds := by
  obtain ⟨ro, op, e⟩ := hh
  exact ⟨ro, op, by rw [get_newB_ne h i j cs hne]; exact e⟩
theorem ld1_holds {h : FH} {b o : Nat} {cs : List Value} {v : Value} (hh : Holds h b cs) (hv : cs[o]? = some v) : ld1 h (.pointer (some ⟨b, o, none⟩)) = some v := by
  obtain ⟨ro, op, e⟩ := hh
  simp [ld1, asPtr, rdCell, getCells, e, hv]
theorem ldN_holds {h : FH} {n b o : Nat} {cs : List Value} (hh : Holds h b cs) (hv : o + n ≤ cs.length) : ldN h n (.pointer (some ⟨b, o, none⟩)) = some (.agg ((cs.drop o).take n).toArray) := by
  obtain ⟨ro, op, e⟩ := hh
  have : Nat.ble (o + n) cs.length = true := Nat.ble_eq_true_of_le hv
  simp [ldN, asPtr, rdCells, getCells, e, this]
@[simp] theorem ld1_newB_same (h : FH) (i o : Nat) (cs : List Value) : ld1 (newB h i cs) (.pointer (some ⟨i, o, none⟩)) = cs[o]? := by simp [ld1, asPtr, rdCell, getCells]
@[simp] theorem ld1_newB_ne (h : FH) (i j o : Nat) (cs : List Value) (hne : j ≠ i) : ld1 (newB h i cs) (.pointer (some ⟨j, o, none⟩)) = ld1 h (.pointer (some ⟨j, o, none⟩)) := by simp [ld1, asPtr, rdCell, getCells, hne]
@[simp] theorem ld1_ptrTo (h : FH) (i : Nat) : ld1 h (ptrTo i) = ld1 h (.pointer (some ⟨i, 0, none⟩)) := rfl
@[simp] theorem ldN_ptrTo (h : FH) (n i : Nat) : ldN h n (ptrTo i) = ldN h n (.pointer (some ⟨i, 0, none⟩)) := rfl
@[simp] theorem ldN_newB_same (h : FH) (n i o : Nat) (cs : List Value) (hl : o + n ≤ cs.length) : ldN (newB h i cs) n (.pointer (some ⟨i, o, none⟩)) = some (.agg ((cs.drop o).take n).toArray) :=
  ldN_holds (Holds.newB_same h i cs) hl
@[simp] theorem ldN_newB_ne (h : FH) (n i j o : Nat) (cs : List Value) (hne : j ≠ i) : ldN (newB h i cs) n (.pointer (some ⟨j, o, none⟩)) = ldN h n (.pointer (some ⟨j, o, none⟩)) := by simp [ldN, asPtr, rdCells, getCells, hne]
theorem stN_newB_same (h : FH) (n i o : Nat) (cs : List Value) (x : Value) (h1 : x.cells.size = n) (h2 : o + n ≤ cs.length) (h3 : x.cells.toList.all isFlat = true) :
    stN (newB h i cs) n (.pointer (some ⟨i, o, none⟩)) x = some (newB h i (splice cs o x.cells.toList)) := by
  have a : Nat.beq x.cells.size n = true := by rw [h1]; exact Nat.beq_refl n
  have b : Nat.ble (o + x.cells.toList.length) cs.length = true := Nat.ble_eq_true_of_le (by simpa [h1] using h2)
  simp only [stN, asPtr, Option.bind_some, a, cond_true, wrCells, get_newB_same, b, h3, Bool.and_self]
  have := newB_newB h i cs (splice cs o x.cells.toList)
  simp only [newB] at this ⊢
  rw [this]
@[simp] theorem stN_newB_ne (h : FH) (n i j o : Nat) (cs : List Value) (x : Value) (hne : j ≠ i) :
    stN (newB h i cs) n (.pointer (some ⟨j, o, none⟩)) x = (stN h n (.pointer (some ⟨j, o, none⟩)) x).map fun h' => newB h' i cs := by
  simp only [stN, asPtr, Option.bind_some]
  cases Nat.beq x.cells.size n with
  | false => rfl
  | true =>
    simp only [cond_true, wrCells, get_newB_ne h i j cs hne]
    split
    · rename_i op c _
      cases Nat.ble (o + x.cells.toList.length) c.length && x.cells.toList.all isFlat with
      | false => rfl
      | true =>
        simp only [cond_true, Option.map_some]
        congr 1
        apply FH.ext
        intro k
        have g : ∀ (h : FH) (i : Nat) (b : ABlk) (k : Nat), (HeapC.set h i b).f k = if k = i then some b else h.f k := fun h i b k => HeapC.get_set (H := FH) h i b k
        simp only [newB_f, g]
        by_cases hk : k = j
        · have h2 : ¬ k = i := by omega
          rw [if_pos hk, if_neg h2, if_pos hk]
        · rw [if_neg hk, if_neg hk]
    · rfl
@[simp] theorem stN_ptrTo (h : FH) (n i : Nat) (x : Value) : stN h n (ptrTo i) x = stN h n (.pointer (some ⟨i, 0, none⟩)) x := rfl
theorem mrg_f (c : Nat) (h A : FH) (i : Nat) : (mrg c h A).f i = if i < 256 * c then h.f i else A.f i := rfl
@[simp] theorem mrg_self (c : Nat) (A : FH) : mrg c A A = A := by
  apply FH.ext; intro i; rw [mrg_f]; split <;> rfl
@[simp] theorem mrg_new (c : Nat) (h A : FH) (i : Nat) (cs : List Value) (hi : 256 * c ≤ i) : mrg c (newB h i cs) A = mrg c h A := by
  apply FH.ext; intro j
  rw [mrg_f, mrg_f, newB_f]
  split
  · rw [if_neg (by omega)]
  · rfl
@[simp] theorem mrg_old (c : Nat) (h A : FH) (i : Nat) (cs : List Value) (hi : i < 256 * c) : mrg c (newB h i cs) A = newB (mrg c h A) i cs := by
  apply FH.ext; intro j
  simp only [mrg_f, newB_f]
  by_cases e : j = i
  · rw [if_pos e, if_pos e, if_pos (by omega)]
  · rw [if_neg e, if_neg e]
theorem GcH.refl (c : Nat) (A : FH) : GcH c A A := fun _ _ => .inl rfl
theorem GcH.new {c i : Nat} {h A : FH} {cs : List Value} (hi : 256 * c ≤ i) (hh : GcH c h A) : GcH c (newB h i cs) A := by
  intro j hj
  rw [newB_f, if_neg (by omega)]
  exact hh j hj
theorem GcH.old {c i : Nat} {h A : FH} {cs : List Value} (hc : OkVs c cs) (hh : GcH c h A) : GcH c (newB h i cs) A := by
  intro j hj
  rw [newB_f]
  split
  · exact .inr hc
  · exact hh j hj
def ints (l : List Int) : List Value := l.map (.int .i64)
@[simp] theorem ints_length (l : List Int) : (ints l).length = l.length := by simp [ints]
theorem ints_get (l : List Int) (i : Nat) : (ints l)[i]? = l[i]?.map (.int .i64) := by simp [ints]
theorem ints_flat (l : List Int) : (ints l).all isFlat = true := by simp [ints, isFlat]
theorem OkVs.ints (c : Nat) (l : List Int) : OkVs c (ints l) := by
  intro v hv
  obtain ⟨n, _, rfl⟩ := List.mem_map.1 hv
  exact OkV.int c _ n
theorem ints_drop (l : List Int) (n : Nat) : (ints l).drop n = ints (l.drop n) := by simp [ints]
theorem ints_take (l : List Int) (n : Nat) : (ints l).take n = ints (l.take n) := by simp [ints]
theorem ints_append (l m : List Int) : ints l ++ ints m = ints (l ++ m) := by simp [ints]
theorem ints_set (l : List Int) (i : Nat) (x : Int) : (ints l).set i (.int .i64 x) = ints (l.set i x) := by simp [ints, List.map_set]
theorem splice_one (cs : List Value) (o : Nat) (v : Value) (h : o < cs.length) : splice cs o [v] = cs.set o v := by
  unfold splice
  rw [List.set_eq_take_append_cons_drop, if_pos h]
  simp
@[simp] theorem ints_getElem (l : List Int) (i : Nat) (h : i < (ints l).length) : (ints l)[i] = .int .i64 (l[i]'(by simpa using h)) := by simp [ints]
def av (l : List Int) : Value := .agg (ints l).toArray
theorem av_flat (l : List Int) : (av l).cells.toList.all isFlat = true := by simp [av, Value.cells, ints, isFlat]
theorem av_cells (l : List Int) : (av l).cells.toList = ints l := by simp [av, Value.cells]
theorem av_size (l : List Int) : (av l).cells.size = l.length := by simp [av, Value.cells]
theorem OkV.av (c : Nat) (l : List Int) : OkV c (av l) := OkV.agg (OkVs.ints c l)
theorem ixV_av (l : List Int) (len : Nat) (k : IntKind) (i : Int) (h1 : 0 ≤ i) (h2 : i < (len : Int)) (h3 : l.length = len) : ixV len false 1 (av l) (.int k i) = some (.int .i64 (l.getD i.toNat 0)) := by
  have h4 : i.toNat < l.length := by omega
  have h5 : (ints l)[i.toNat * 1]? = some (.int .i64 (l.getD i.toNat 0)) := by rw [Nat.mul_one, ints_get, List.getElem?_eq_getElem h4]; simp [List.getD, List.getElem?_eq_getElem h4]
  simp only [ixV, av, aggL, Option.bind_some, aIdx_int h1 h2, partN, cond_false, List.toList_toArray]
  exact h5
theorem ixV_avs (l : List Int) (len sz : Nat) (k : IntKind) (i : Int) (h1 : 0 ≤ i) (h2 : i < (len : Int)) (h3 : l.length = len * sz) : ixV len true sz (av l) (.int k i) = some (av ((l.drop (i.toNat * sz)).take sz)) := by
  have h4 : i.toNat < len := by omega
  have h5 : i.toNat * sz + sz ≤ len * sz := by have := Nat.mul_le_mul_right sz (Nat.succ_le_of_lt h4); rw [Nat.succ_mul] at this; exact this
  have h6 : Nat.ble (i.toNat * sz + sz) (ints l).length = true := Nat.ble_eq_true_of_le (by simpa [h3] using h5)
  simp only [ixV, av, aggL, Option.bind_some, aIdx_int h1 h2, partN, cond_true, List.toList_toArray, h6, ints_drop, ints_take]
def Same (c : Nat) (h h' : FH) : Prop := ∀ i, i < 256 * c → h'.f i = h.f i
theorem Same.refl (c : Nat) (h : FH) : Same c h h := fun _ _ => rfl
theorem Same.newB {c i : Nat} {h h' : FH} {cs : List Value} (hi : 256 * c ≤ i) (hh : Same c h h') : Same c h (newB h' i cs) := by
  intro j hj
  rw [newB_f, if_neg (by omega)]
  exact hh j hj
theorem set_f (h : FH) (i : Nat) (b : ABlk) (j : Nat) : (HeapC.set h i b).f j = if j = i then some b else h.f j := HeapC.get_set (H := FH) h i b j
theorem del_f (h : FH) (i : Nat) (j : Nat) : (HeapC.del h i).f j = if j = i then none else h.f j := HeapC.get_del (H := FH) h i j
theorem Same.set {c i : Nat} {h h' : FH} {b : ABlk} (hi : 256 * c ≤ i) (hh : Same c h h') : Same c h (HeapC.set h' i b) := by
  intro j hj
  rw [set_f, if_neg (by omega)]
  exact hh j hj
theorem Same.mono {c c' : Nat} {h h' : FH} (hc : c ≤ c') (hh : Same c' h h') : Same c h h' := fun i hi => hh i (by omega)
theorem Same.trans {c : Nat} {a b d : FH} (h : Same c a b) (k : Same c b d) : Same c a d := fun i hi => (k i hi).trans (h i hi)
def SlI (h : FH) (c : Nat) (s : Value) (sz n : Nat) (G : List Int) : Prop :=
  G.length = n * sz ∧ n ≤ 9223372036854775807 ∧ ∃ a cap, s = .slice a n cap ∧ (n = 0 ∧ OkV c s ∨ ∃ b o cs, a = some ⟨b, o, none⟩ ∧ b < 256 * c ∧ Holds h b cs ∧ (cs.drop o).take (n * sz) = ints G)
theorem SlI.same {h h' : FH} {c : Nat} {s : Value} {sz n : Nat} {G : List Int} (hs : SlI h c s sz n G) (hh : Same c h h') : SlI h' c s sz n G := by
  obtain ⟨h1, h2, a, cap, h3, h4⟩ := hs
  refine ⟨h1, h2, a, cap, h3, h4.imp id ?_⟩
  rintro ⟨b, o, cs, e1, e2, ⟨ro, op, e3⟩, e4⟩
  exact ⟨b, o, cs, e1, e2, ⟨ro, op, (hh b e2).trans e3⟩, e4⟩
theorem SlI.mono {h : FH} {c c' : Nat} {s : Value} {sz n : Nat} {G : List Int} (hs : SlI h c s sz n G) (hc : c ≤ c') : SlI h c' s sz n G := by
  obtain ⟨h1, h2, a, cap, h3, h4⟩ := hs
  refine ⟨h1, h2, a, cap, h3, ?_⟩
  rcases h4 with ⟨e, v', hv⟩ | ⟨b, o, cs, e1, e2, e3, e4⟩
  · refine .inl ⟨e, ?_⟩
    subst h3
    cases a with
    | none => exact OkV.sl0 _ _ _
    | some a =>
      cases hv with
      | sl h _ _ => exact OkV.sl (by have := nuD_dom (c := c) (i := _) (by rw [h]; simp); omega)
      | slE h => exact OkV.sl (by have := nuD_dom (c := c) (i := _) (by rw [h]; simp); omega)
  · exact .inr ⟨b, o, cs, e1, by omega, e3, e4⟩
theorem SlI.okV {h : FH} {c : Nat} {s : Value} {sz n : Nat} {G : List Int} (hs : SlI h c s sz n G) : OkV c s := by
  obtain ⟨h1, h2, a, cap, rfl, h4⟩ := hs
  rcases h4 with ⟨e, hv⟩ | ⟨b, o, cs, rfl, e2, e3, e4⟩
  · exact hv
  · exact OkV.sl e2
theorem SlI.len {h : FH} {c : Nat} {s : Value} {sz n : Nat} {G : List Int} (hs : SlI h c s sz n G) : lenS s = some (.int .i64 n) := by
  obtain ⟨h1, h2, a, cap, rfl, h4⟩ := hs
  rfl
theorem SlI.ix {h : FH} {c : Nat} {s : Value} {sz n : Nat} {G : List Int} (hs : SlI h c s sz n G) (k : IntKind) (i : Int) (h1 : 0 ≤ i) (h2 : i < (n : Int)) :
    ∃ b o cs, ixS sz s (.int k i) = some (.pointer (some ⟨b, o + i.toNat * sz, none⟩)) ∧ b < 256 * c ∧ Holds h b cs ∧ (cs.drop o).take (n * sz) = ints G := by
  obtain ⟨g1, g2, a, cap, rfl, h4⟩ := hs
  rcases h4 with ⟨e, hv⟩ | ⟨b, o, cs, rfl, e2, e3, e4⟩
  · omega
  · exact ⟨b, o, cs, ixS_sl sz b o n cap k i h1 h2, e2, e3, e4⟩
theorem win_get {cs : List Value} {o m : Nat} {G : List Int} (e : (cs.drop o).take m = ints G) {j : Nat} (hj : j < G.length) : cs[o + j]? = some (.int .i64 (G.getD j 0)) := by
  have h1 : ((cs.drop o).take m)[j]? = some (.int .i64 (G.getD j 0)) := by
    rw [e, ints_get, List.getElem?_eq_getElem hj]; simp [List.getD, List.getElem?_eq_getElem hj]
  have hjm : j < m := by
    have := (List.getElem?_eq_some_iff.1 h1).1
    simp at this; omega
  rw [List.getElem?_take_of_lt hjm, List.getElem?_drop] at h1
  exact h1
theorem win_len {cs : List Value} {o m : Nat} {G : List Int} (e : (cs.drop o).take m = ints G) (h : 0 < G.length) : o + G.length ≤ cs.length := by
  have := congrArg List.length e
  simp at this; omega
theorem win_sub {cs : List Value} {o m : Nat} {G : List Int} (e : (cs.drop o).take m = ints G) {j q : Nat} (hj : j + q ≤ G.length) : (cs.drop (o + j)).take q = ints ((G.drop j).take q) := by
  rw [← ints_take, ← ints_drop, ← e, List.drop_take, List.drop_drop, List.take_take]
  have hm : G.length ≤ m := by have := congrArg List.length e; simp at this; omega
  congr 1
  omega
theorem ld1_win {h : FH} {b o m : Nat} {cs : List Value} {G : List Int} (hh : Holds h b cs) (e : (cs.drop o).take m = ints G) {j : Nat} (hj : j < G.length) : ld1 h (.pointer (some ⟨b, o + j, none⟩)) = some (.int .i64 (G.getD j 0)) :=
  ld1_holds hh (win_get e hj)
theorem ldN_win {h : FH} {b o m q : Nat} {cs : List Value} {G : List Int} (hh : Holds h b cs) (e : (cs.drop o).take m = ints G) {j : Nat} (hj : j + q ≤ G.length) (hq : 0 < q) : ldN h q (.pointer (some ⟨b, o + j, none⟩)) = some (av ((G.drop j).take q)) := by
  have := win_len e (by omega)
  rw [ldN_holds hh (by omega), win_sub e hj]
  rfl
theorem gcR_same {A : FH} {c : Nat} {df : List Nat} {e : Ex} {vs : List Value} {c' : Nat} (h1 : OkVs c vs) : gcR A c df { e := e, vs := vs, h := A, c := c', df := df } = { e := e, vs := vs, h := A, c := c, df := df } := by
  rw [gcR_of h1 (GcH.refl c A), mrg_self]
theorem callF_of {o : Orc FH} {g : FuncId} {args : List Value} {h h' : FH} {c c' : Nat} {v : Value} {e : Ex} {df : List Nat} (e1 : o (.fn g) args h c [] = some { e := e, vs := [v], h := h', c := c', df := df }) : callF o g args h c = some (v, h', c') := by
  simp only [callF, e1, Option.bind_some]
attribute [simp] OkV.bool OkV.int OkV.str OkV.ptr0 OkV.sl0 OkV.map0 OkV.nilFunc OkVs.nil OkVs.cons_iff OkV.av OkVs.ints OkV.ptr OkV.ptrTo OkV.sl OkV.map GcH.refl av_flat av_cells av_size
def Ans {α : Type} (x : Option α) (Q : α → Prop) : Prop := ∃ r, x = some r ∧ Q r
theorem Ans.intro {α : Type} {x : Option α} {Q : α → Prop} {r : α} (h : x = some r) (hq : Q r) : Ans x Q := ⟨r, h, hq⟩
theorem Ans.mono {α : Type} {x : Option α} {Q Q' : α → Prop} (h : Ans x Q) (hq : ∀ r, Q r → Q' r) : Ans x Q' := let ⟨r, a, b⟩ := h; ⟨r, a, hq r b⟩
@[simp] theorem Ans_some {α : Type} {r : α} {Q : α → Prop} : Ans (some r) Q ↔ Q r := ⟨fun ⟨_, e, h⟩ => by cases e; exact h, fun h => ⟨r, rfl, h⟩⟩
theorem Ans.eq {α : Type} {x : Option α} {r : α} (h : Ans x (fun q => q = r)) : x = some r := by
  obtain ⟨q, e, rfl⟩ := h
  exact e
theorem gcR_pure {A h : FH} {c : Nat} {df : List Nat} {e : Ex} {vs : List Value} {c' : Nat} (h1 : OkVs c vs) (h2 : Same c A h) : gcR A c df { e := e, vs := vs, h := h, c := c', df := df } = { e := e, vs := vs, h := A, c := c, df := df } := by
  rw [gcR_of h1 (fun i hi => .inl (h2 i hi))]
  have : mrg c h A = A := by
    apply FH.ext
    intro i
    rw [mrg_f]
    split
    · rename_i hi; exact h2 i hi
    · rfl
  rw [this]
theorem pure_of {X S : Option (Rt FH)} {h : FH} {c : Nat} {v : Value} (hgo : ∀ r, S = some r → X = some (gcR h c [] r)) (hv : OkV c v) (hS : Ans S (fun r => r.e = .ret ∧ r.vs = [v] ∧ Same c h r.h ∧ r.df = [])) :
    X = some { e := .ret, vs := [v], h := h, c := c, df := [] } := by
  obtain ⟨⟨re, rv, rh, rc, rd⟩, e, h1, h2, h3, h4⟩ := hS
  simp only at h1 h2 h3 h4
  subst h1 h2 h4
  rw [hgo _ e, gcR_pure (OkVs.cons hv (OkVs.nil c)) h3]
attribute [simp] Same.refl
@[simp] theorem Same_newB {c i : Nat} {h h' : FH} {cs : List Value} (hi : 256 * c ≤ i) : Same c h (newB h' i cs) ↔ Same c h h' := by
  refine ⟨fun hh j hj => ?_, fun hh => hh.newB hi⟩
  have := hh j hj
  rw [newB_f, if_neg (by omega)] at this
  exact this
@[simp] theorem Same_set {c i : Nat} {h h' : FH} {b : ABlk} (hi : 256 * c ≤ i) : Same c h (HeapC.set h' i b) ↔ Same c h h' := by
  refine ⟨fun hh j hj => ?_, fun hh => hh.set hi⟩
  have := hh j hj
  rw [set_f, if_neg (by omega)] at this
  exact this
attribute [simp] ints_flat ints_take ints_drop
@[simp] theorem agg_ints (l : List Int) : Value.agg (ints l).toArray = av l := rfl
@[simp] theorem takeAll_nil {H : Type} [HeapC H] (h : H) : takeAll h [] = some h := rfl
def Upto (c : Nat) (A B : FH) : Prop := ∀ i, (256 * c ≤ i → B.f i = A.f i) ∧ (i < 256 * c → B.f i = A.f i ∨ OkB c (B.f i))
@[simp] theorem Upto.refl (c : Nat) (A : FH) : Upto c A A := fun _ => ⟨fun _ => rfl, fun _ => .inl rfl⟩
theorem Upto.old {c b : Nat} {A B : FH} {cs : List Value} (hb : b < 256 * c) (hc : OkVs c cs) (h : Upto c A B) : Upto c A (newB B b cs) := by
  intro i
  rw [newB_f]
  refine ⟨fun hi => ?_, fun hi => ?_⟩
  · rw [if_neg (by omega)]; exact (h i).1 hi
  · split
    · exact .inr hc
    · exact (h i).2 hi
theorem Upto.both {c b : Nat} {A B : FH} {ds cs : List Value} (hc : OkVs c cs) (h : Upto c A B) (hb : b < 256 * c) : Upto c (newB A b ds) (newB B b cs) := by
  intro i
  rw [newB_f, newB_f]
  refine ⟨fun hi => ?_, fun hi => ?_⟩
  · rw [if_neg (by omega), if_neg (by omega)]; exact (h i).1 hi
  · by_cases e : i = b
    · rw [if_pos e]; exact .inr hc
    · rw [if_neg e, if_neg e]; exact (h i).2 hi
theorem gcR_to {A h B : FH} {c : Nat} {df : List Nat} {e : Ex} {vs : List Value} {c' : Nat} (h1 : OkVs c vs) (h2 : Same c B h) (h3 : Upto c A B) : gcR A c df { e := e, vs := vs, h := h, c := c', df := df } = { e := e, vs := vs, h := B, c := c, df := df } := by
  rw [gcR_of h1 (fun i hi => by rw [h2 i hi]; exact (h3 i).2 hi)]
  have : mrg c h A = B := by
    apply FH.ext
    intro i
    rw [mrg_f]
    split
    · rename_i hi; exact h2 i hi
    · exact ((h3 i).1 (by omega)).symm
  rw [this]
theorem gcR_upd {h : FH} {b c : Nat} {df : List Nat} {e : Ex} {vs cs cs' : List Value} {c' : Nat} (hb : b < 256 * c) (h1 : OkVs c vs) (h2 : OkVs c cs') :
    gcR (newB h b cs) c df { e := e, vs := vs, h := newB h b cs', c := c', df := df } = { e := e, vs := vs, h := newB h b cs', c := c, df := df } :=
  gcR_to h1 (Same.refl _ _) (Upto.both h2 (Upto.refl _ _) hb)
theorem ints_cons (a : Int) (l : List Int) : ints (a :: l) = .int .i64 a :: ints l := rfl
theorem ints_nil : ints [] = [] := rfl
@[simp] theorem st1_int (h : FH) (i o : Nat) (cs : List Value) (k : IntKind) (x : Int) (ho : o < cs.length) : stN (newB h i cs) 1 (.pointer (some ⟨i, o, none⟩)) (.int k x) = some (newB h i (cs.set o (.int k x))) := by
  rw [stN_newB_same h 1 i o cs (.int k x) rfl (by omega) rfl]
  show some (newB h i (splice cs o [.int k x])) = _
  rw [splice_one cs o _ ho]
@[simp] theorem st1_bool (h : FH) (i o : Nat) (cs : List Value) (x : Bool) (ho : o < cs.length) : stN (newB h i cs) 1 (.pointer (some ⟨i, o, none⟩)) (.bool x) = some (newB h i (cs.set o (.bool x))) := by
  rw [stN_newB_same h 1 i o cs (.bool x) rfl (by omega) rfl]
  show some (newB h i (splice cs o [.bool x])) = _
  rw [splice_one cs o _ ho]
@[simp] theorem ints_set' (l : List Int) (i : Nat) (x : Int) : (ints l).set i (.int .i64 x) = ints (l.set i x) := ints_set l i x
@[simp] theorem stN_all (h : FH) (i n : Nat) (cs : List Value) (l : List Int) (h1 : l.length = n) (h2 : cs.length = n) : stN (newB h i cs) n (.pointer (some ⟨i, 0, none⟩)) (av l) = some (newB h i (ints l)) := by
  rw [stN_newB_same h n i 0 cs (av l) (by simp [h1]) (by omega) (by simp)]
  simp only [av_cells, splice, List.take_zero, List.nil_append, Nat.zero_add, ints_length]
  rw [List.drop_of_length_le (by omega), List.append_nil]
@[simp] theorem isFlat_int (k : IntKind) (n : Int) : isFlat (.int k n) = true := rfl
@[simp] theorem isFlat_bool (n : Bool) : isFlat (.bool n) = true := rfl
@[simp] theorem isFlat_sl (a : Option Addr) (n k : Nat) : isFlat (.slice a n k) = true := rfl
@[simp] theorem isFlat_ptr (a : Option Addr) : isFlat (.pointer a) = true := rfl
theorem ld1_ints (h : FH) (i o : Nat) (l : List Int) (ho : o < l.length) : ld1 (newB h i (ints l)) (.pointer (some ⟨i, o, none⟩)) = some (.int .i64 (l.getD o 0)) := by
  rw [ld1_newB_same, ints_get, List.getElem?_eq_getElem ho]; simp [List.getD, List.getElem?_eq_getElem ho]
theorem bld4 (a b c d : Int) : bldV [(.int .i64 0), (.int .i64 0), (.int .i64 0), (.int .i64 0)] [(0, 1, .int .i64 a), (1, 1, .int .i64 b), (2, 1, .int .i64 c), (3, 1, .int .i64 d)] = some (av [a, b, c, d]) := (rfl)
theorem bld2 (a b : Int) : bldV [(.int .i64 0), (.int .i64 0)] [(0, 1, .int .i64 a), (1, 1, .int .i64 b)] = some (av [a, b]) := (rfl)
theorem bld5 (a : Int) (p : List Int) (hp : p.length = 4) : bldV [(.int .i64 0), (.int .i64 0), (.int .i64 0), (.int .i64 0), (.int .i64 0)] [(0, 1, .int .i64 a), (1, 4, av p)] = some (av (a :: p)) := by
  match p, hp with
  | [a, b, c, d], _ => rfl
theorem Ans.step {α β : Type} {x : Option α} {v : α} {f : α → Option β} {Q : β → Prop} (h : x = some v) (k : Ans (f v) Q) : Ans (x.bind f) Q := by rw [h]; exact k
theorem Ans.bt {β : Type} {v : Value} {x y : Option β} {Q : β → Prop} (h : v = .bool true) (k : Ans x Q) : Ans (boolK v x y) Q := by rw [h]; exact k
theorem Ans.bf {β : Type} {v : Value} {x y : Option β} {Q : β → Prop} (h : v = .bool false) (k : Ans y Q) : Ans (boolK v x y) Q := by rw [h]; exact k
theorem Ans.ct {β : Type} {b : Bool} {x y : Option β} {Q : β → Prop} (h : b = true) (k : Ans x Q) : Ans (cond b x y) Q := by rw [h]; exact k
theorem Ans.cf {β : Type} {b : Bool} {x y : Option β} {Q : β → Prop} (h : b = false) (k : Ans y Q) : Ans (cond b x y) Q := by rw [h]; exact k
theorem Ans.done {α : Type} {r : α} {Q : α → Prop} (h : Q r) : Ans (some r) Q := ⟨r, rfl, h⟩
theorem Ans.head {α β : Type} {x : Option α} {f : α → Option β} {Q : β → Prop} {R : α → Prop} (h : Ans x R) (k : ∀ a, R a → Ans (f a) Q) : Ans (x.bind f) Q := by
  obtain ⟨a, e, hr⟩ := h
  exact Ans.step e (k a hr)
@[simp] theorem ints_getD (l : List Int) (o : Nat) (h : o < l.length) : (ints l)[o]? = some (.int .i64 (l.getD o 0)) := by
  rw [ints_get, List.getElem?_eq_getElem h]; simp [List.getD, List.getElem?_eq_getElem h]
end Go.Ab


namespace Go.Ab
open Go
set_option linter.unusedVariables false
set_option linter.unusedSimpArgs false
def s4 {α β : Type} (a b c d : α) (x : Nat) (k : α → Option β) : Option β :=
  cond (Nat.beq x 0) (k a) (cond (Nat.beq x 1) (k b) (cond (Nat.beq x 2) (k c) (cond (Nat.beq x 3) (k d) none)))
theorem all256 {Q : Nat → Nat → Nat → Nat → Bool} (h : ((List.range 256).all fun n => Q (n / 64) (n / 16 % 4) (n / 4 % 4) (n % 4)) = true) {a b c d : Nat} (ha : a < 4) (hb : b < 4) (hc : c < 4) (hd : d < 4) : Q a b c d = true := by
  have := List.all_eq_true.1 h (64 * a + 16 * b + 4 * c + d) (by simp; omega)
  have e1 : (64 * a + 16 * b + 4 * c + d) / 64 = a := by omega
  have e2 : (64 * a + 16 * b + 4 * c + d) / 16 % 4 = b := by omega
  have e3 : (64 * a + 16 * b + 4 * c + d) / 4 % 4 = c := by omega
  have e4 : (64 * a + 16 * b + 4 * c + d) % 4 = d := by omega
  simpa only [e1, e2, e3, e4] using this
end Go.Ab

namespace Go.Ab
open Go
set_option maxRecDepth 100000
set_option linter.unusedVariables false
set_option linter.unusedSimpArgs false
def orB (a b : Int) : Int := IntKind.i64.wrap ((BitVec.ofInt 64 a ||| BitVec.ofInt 64 b).toNat)
def shB (x : Int) : Int := IntKind.i64.wrap (1 * 2 ^ (min x.toNat 64))
def validL : List Int → Int → Option Int
  | [], m => some m
  | x :: xs, m => if x < 0 ∨ 3 < x then none else validL xs (orB m (shB x))
def validB (p : List Int) : Bool := decide (validL p 0 = some 15)
def invL : List Int → Nat → List Int → List Int
  | [], _, out => out
  | x :: xs, i, out => invL xs (i + 1) (out.set x.toNat i)
theorem invL_length : ∀ (p : List Int) (i : Nat) (out : List Int), (invL p i out).length = out.length
  | [], _, _ => rfl
  | x :: xs, i, out => by rw [invL, invL_length]; simp
def inv (p : List Int) : List Int := invL p 0 [0, 0, 0, 0]
def InR (p : List Int) : Prop := ∀ x ∈ p, 0 ≤ x ∧ x < 4
def comp (p q : List Int) : List Int := q.map fun x => p.getD x.toNat 0
def faceL (Gl : List Int) (t f : Nat) : List Int := (Gl.drop (20 * t + 5 * f)).take 5
def rowL (Gl : List Int) (t : Nat) : List Int := (Gl.drop (20 * t)).take 20
theorem faceL_length {Gl : List Int} {n t f : Nat} (hG : Gl.length = n * 20) (ht : t < n) (hf : f < 4) : (faceL Gl t f).length = 5 := by
  simp [faceL]; omega
theorem rowL_length {Gl : List Int} {n t : Nat} (hG : Gl.length = n * 20) (ht : t < n) : (rowL Gl t).length = 20 := by
  simp [rowL]; omega
theorem row_face {Gl : List Int} {t f : Nat} (hf : f < 4) : ((rowL Gl t).drop (f * 5)).take 5 = faceL Gl t f := by
  unfold rowL faceL
  rw [List.drop_take, List.drop_drop, List.take_take]
  congr 1
  · omega
  · congr 1; omega
theorem Ans.bind {α β : Type} {x : Option α} {f : α → Option β} {Q : β → Prop} (h : Ans x (fun a => Ans (f a) Q)) : Ans (x.bind f) Q := by
  obtain ⟨a, e, b, e2, hq⟩ := h
  exact ⟨b, by rw [e]; exact e2, hq⟩
theorem validL_range : ∀ (p : List Int) (m m' : Int), validL p m = some m' → InR p
  | [], _, _, _ => fun x hx => by cases hx
  | x :: xs, m, m', e => by
    simp only [validL] at e
    by_cases h : x < 0 ∨ 3 < x
    · rw [if_pos h] at e; cases e
    · rw [if_neg h] at e
      intro y hy
      rcases List.mem_cons.1 hy with rfl | hy
      · omega
      · exact validL_range xs _ _ e y hy
theorem validB_range {p : List Int} (h : validB p = true) : InR p := by
  unfold validB at h
  exact validL_range p 0 15 (by simpa using h)
def tetL (x : List Int) : Int := x.getD 0 0
def permL (x : List Int) : List Int := (x.drop 1).take 4
theorem permL_length {x : List Int} (h : x.length = 5) : (permL x).length = 4 := by simp [permL, h]
def noneL : List Int := [-1, 0, 0, 0, 0]
def okFace (Gl : List Int) (n t f : Nat) : Bool :=
  decide (faceL Gl t f = noneL) ||
  (decide (0 ≤ tetL (faceL Gl t f)) && decide (tetL (faceL Gl t f) < n) && validB (permL (faceL Gl t f)) &&
   !(decide (tetL (faceL Gl t f) = t) && decide ((permL (faceL Gl t f)).getD f 0 = f)) &&
   decide (faceL Gl (tetL (faceL Gl t f)).toNat ((permL (faceL Gl t f)).getD f 0).toNat = (t : Int) :: inv (permL (faceL Gl t f))))
def okUpTo (Gl : List Int) (n : Nat) (k : Nat) : Prop := ∀ j, j < k → okFace Gl n (j / 4) (j % 4) = true
def okAll (Gl : List Int) (n : Nat) : Bool := (List.range (4 * n)).all fun j => okFace Gl n (j / 4) (j % 4)
theorem okAll_iff (Gl : List Int) (n : Nat) : okAll Gl n = true ↔ okUpTo Gl n (4 * n) := by simp [okAll, okUpTo]
def bools (l : List Bool) : List Value := l.map .bool
theorem OkVs.bools (c : Nat) (l : List Bool) : OkVs c (bools l) := by
  intro v hv
  simp only [Go.Ab.bools, List.mem_map] at hv
  obtain ⟨b, _, rfl⟩ := hv
  exact OkV.bool c b
theorem bools_set (l : List Bool) (i : Nat) (x : Bool) : (bools l).set i (.bool x) = bools (l.set i x) := by simp [bools, List.map_set]
theorem bools_get (l : List Bool) (o : Nat) (h : o < l.length) : (bools l)[o]? = some (.bool (l.getD o false)) := by
  simp [bools, List.getD, List.getElem?_eq_getElem h]
end Go.Ab

namespace Go.Proofs.Ytcnndelmnobigaa
open Go Go.Ab Go.Proofs
set_option maxRecDepth 100000
set_option linter.unusedVariables false
set_option linter.unusedSimpArgs false
theorem aBinOp_or (t : TypeId) (a b : Int) : aBinOp P .or t (.int .i64 a) (.int .i64 b) = some (.int .i64 (orB a b)) := by rw [aBinOp_eq]; simp [aBinOp0, intBin, orB]; rfl
theorem aBinOp_shl1 (t : TypeId) (x : Int) (h : 0 ≤ x) : aBinOp P .shl t (.int .i64 1) (.int .i64 x) = some (.int .i64 (shB x)) := by
  rw [aBinOp_eq]
  have : ¬ x < 0 := by omega
  simp [aBinOp0, shiftBin, shB, this]; rfl
theorem valid_loop (p : List Int) (hp : p.length = 4) (h : FH) (c : Nat) (df : List Nat) : ∀ (k i : Nat) (m : Int), i + k = 4 →
    Ans (G (f84_k84000 none) [.bool false, .int .i64 m, av p, .int .i64 i] h c df) fun r => r.h = h ∧ r.c = c ∧ r.df = df ∧
      (match validL (p.drop i) m with
        | some m' => r.e = .exit 0 ∧ r.v 1 = .int .i64 m'
        | none => r.e = .ret ∧ r.v 0 = .bool false) := by
  intro k
  induction k with
  | zero =>
    intro i m hi
    obtain rfl : i = 4 := by omega
    rw [List.drop_of_length_le (by omega)]
    have e1 : ¬ ((4 : Nat) : Int) < 4 := by omega
    refine .intro (f84_Z84000 (q := ⟨.exit 0, [.bool false, .int .i64 m, av p, .int .i64 (4 : Nat)], h, c + 1, df⟩) (by unfold f84_L84000; simp [e1]) (by simp)) ?_
    rw [gcR_same (by simp)]
    simp [validL]
  | succ k ih =>
    intro i m hi
    have hlt : i < p.length := by omega
    have e0 : (i : Int) < 4 := by omega
    rw [List.drop_eq_getElem_cons hlt]
    have hx : p.getD i 0 = p[i] := by simp [List.getD, List.getElem?_eq_getElem hlt]
    by_cases hc : p[i] < 0 ∨ 3 < p[i]
    · simp only [validL, hc, if_true]
      refine .intro (f84_Z84000 (q := ⟨.ret, [.bool false, .int .i64 m, av p, .int .i64 i], h, _, df⟩) (by
        unfold f84_L84000
        by_cases h1 : p[i] < 0
        · simp (disch := omega) [e0, ixV_av, hx, h1, -List.getD_eq_getElem?_getD]; rfl
        · have h2 : 3 < p[i] := by omega
          simp (disch := omega) [e0, ixV_av, hx, h1, h2, -List.getD_eq_getElem?_getD] <;> rfl) (by simp)) ?_
      rw [gcR_same (by simp)]
      simp
    · have h1 : ¬ p[i] < 0 := by omega
      have h2 : ¬ 3 < p[i] := by omega
      simp only [validL, hc, if_false]
      obtain ⟨r, hr, hq⟩ := ih (i + 1) (orB m (shB p[i])) (by omega)
      refine .intro (f84_N84000 (q := ⟨.normal, [.bool false, .int .i64 (orB m (shB p[i])), av p, .int .i64 (i + 1 : Nat)], h, c + 1 + 1 + 1 + 1 + 1, df⟩) (by
        unfold f84_L84000
        simp (disch := omega) [e0, ixV_av, hx, h1, h2, aBinOp_shl1 _ p[i] (by omega), aBinOp_or, -List.getD_eq_getElem?_getD]) rfl ?_) hq
      rw [gcR_same (by simp)]
      exact hr
theorem valid_sp (p : List Int) (hp : p.length = 4) (h : FH) (c : Nat) (df : List Nat) :
    G (.fn 84) [av p] h c df = some { e := .ret, vs := [.bool (validB p)], h := h, c := c, df := [] } := by
  refine pure_of (fun r e => f84_go e) (by simp) ?_
  obtain ⟨⟨re, rv, rh, rc, rd⟩, hr, h1, h2, h3, h4⟩ := valid_loop p hp (newB h (256 * c) (ints p)) (c + 1 + 1 + 1) [] 4 0 0 rfl
  simp only at h1 h2 h3
  subst h1 h2 h3
  unfold f84_S
  simp only [List.drop_zero] at h4
  have e1 : p.take 4 = p := List.take_of_length_le (by omega)
  simp only [Int.ofNat_eq_natCast, Int.cast_ofNat_Int] at hr
  unfold validB
  cases hv : validL p 0 with
  | none =>
    rw [hv] at h4
    obtain ⟨rfl, h5⟩ := h4
    simp [hr, e1, hp, h5]
  | some m =>
    rw [hv] at h4
    obtain ⟨rfl, h5⟩ := h4
    simp [hr, e1, hp, h5]
theorem inverse_loop (p : List Int) (hp : p.length = 4) (hr : InR p) (h : FH) (b1 b3 c : Nat) (hb1 : b1 < 256 * c) (hb : b3 < 256 * c) (df : List Nat) : ∀ (k i : Nat) (out : List Int), i + k = 4 → out.length = 4 →
    G (f85_k85000 none) [ptrTo b1, ptrTo b3, av p, .int .i64 i] (newB h b3 (ints out)) c df =
      some { e := .exit 0, vs := [ptrTo b1, ptrTo b3, av p, .int .i64 4], h := newB h b3 (ints (invL (p.drop i) i out)), c := c, df := df } := by
  intro k
  induction k with
  | zero =>
    intro i out hi ho
    obtain rfl : i = 4 := by omega
    rw [List.drop_of_length_le (by omega)]
    refine (f85_Z85000 (q := ⟨.exit 0, [ptrTo b1, ptrTo b3, av p, .int .i64 4], newB h b3 (ints out), c + 1, df⟩) (by unfold f85_L85000; simp) (by simp)).trans ?_
    rw [gcR_same (by simp [hb1, hb])]
    rfl
  | succ k ih =>
    intro i out hi ho
    have hlt : i < p.length := by omega
    have e0 : (i : Int) < 4 := by omega
    rw [List.drop_eq_getElem_cons hlt]
    have hx : p.getD i 0 = p[i] := by simp [List.getD, List.getElem?_eq_getElem hlt]
    have hxr := hr p[i] (List.getElem_mem hlt)
    refine f85_N85000 (q := ⟨.normal, [ptrTo b1, ptrTo b3, av p, .int .i64 (i + 1 : Nat)], newB h b3 (ints (out.set p[i].toNat i)), c + 1 + 1 + 1 + 1, df⟩) ?_ rfl ?_
    · unfold f85_L85000
      simp (disch := (first | omega | (simp <;> omega) | fail)) [e0, ixV_av, hx, hxr, ho, -List.getD_eq_getElem?_getD]
    · rw [gcR_upd hb (by simp [hb1, hb]) (by simp)]
      exact ih (i + 1) _ (by omega) (by simpa using ho)
theorem inverse_sp (p : List Int) (hp : p.length = 4) (hr : InR p) (h : FH) (c : Nat) (df : List Nat) :
    G (.fn 85) [av p] h c df = some { e := .ret, vs := [av (inv p)], h := h, c := c, df := [] } := by
  refine pure_of (fun r e => f85_go e) (by simp) ?_
  have e1 : p.take 4 = p := List.take_of_length_le (by omega)
  have hl := inverse_loop p hp hr (newB (newB h (256 * c) (ints p)) (256 * c + 1) (ints [0, 0, 0, 0])) (256 * c + 1) (256 * (c + 1)) (c + 1 + 1 + 1) (by omega) (by omega) [] 4 0 [0, 0, 0, 0] rfl rfl
  have hl2 : (invL p 0 [0, 0, 0, 0]).length = 4 := invL_length p 0 [0, 0, 0, 0]
  have e2 : (invL p 0 [0, 0, 0, 0]).take 4 = invL p 0 [0, 0, 0, 0] := List.take_of_length_le (by omega)
  unfold f85_S
  simp only [ints_cons, ints_nil, Int.ofNat_eq_natCast, Int.cast_ofNat_Int, List.drop_zero] at hl
  simp (disch := (first | omega | (simp <;> omega) | fail)) [hl, e1, e2, hp, hl2, inv]
end Go.Proofs.Ytcnndelmnobigaa

namespace Go.Ab
open Go
set_option linter.unusedVariables false
set_option linter.unusedSimpArgs false
variable {P : Program}
theorem callV_yield {o : Orc FH} {h : FH} {c l : Nat} {st : ALoop} {args : List Value} {Q : Value × FH × Nat → Prop} (hg : HeapC.get h l = some (.loop st)) (hs : st.state = .ready)
    (hok : (Nat.beq args.length st.params.length && nodupB st.params && st.params.all (Nat.blt · st.nt)) = true)
    (hr : Ans (o (.rnd st.nt st.lin st.fr st.params l st.assign st.body) (args ++ st.vals) h c []) fun r => ∃ v, r.vs = [v] ∧ Q (v, r.h, r.c)) : Ans (callV o h c (.func (.yield l) #[] #[]) args) Q := by
  obtain ⟨r, e, v, hv, hq⟩ := hr
  have h1 : (decide (st.state = LoopState.ready) && Nat.beq args.length st.params.length && nodupB st.params && st.params.all (Nat.blt · st.nt)) = true := by
    simp only [Bool.and_eq_true] at hok ⊢
    exact ⟨⟨⟨by simp [hs], hok.1.1⟩, hok.1.2⟩, hok.2⟩
  refine ⟨(v, r.h, r.c), ?_, hq⟩
  simp only [callV, Array.size_empty, Nat.beq_refl, Bool.and_self, cond_true, hg, h1, e, Option.bind_some, hv]
def entryL (nt : Nat) (lin : List Nat) (ps : Array Tmp) (a b : ACode) (vs : List Value) (d : Nat) : ALoop :=
  { state := .ready, pending := none, nt := nt, vals := vs, lin := lin, fr := [], params := ps.toList, assign := a, body := b, dfr := d }
noncomputable def entryH (h : FH) (c nt : Nat) (lin : List Nat) (ps : Array Tmp) (a b : ACode) (vs : List Value) : FH :=
  HeapC.set (HeapC.set h (256 * c + 1) .dfr) (256 * c) (.loop (entryL nt lin ps a b vs (256 * c + 1)))
theorem entryH_f (h : FH) (c nt : Nat) (lin : List Nat) (ps : Array Tmp) (a b : ACode) (vs : List Value) (i : Nat) :
    (entryH h c nt lin ps a b vs).f i = if i = 256 * c then some (.loop (entryL nt lin ps a b vs (256 * c + 1))) else if i = 256 * c + 1 then some .dfr else h.f i := by
  simp only [entryH, set_f]
theorem rangeV_of {o : Orc FH} {nt : Nat} {lin : List Nat} {ps : Array Tmp} {a b : ACode} {g : FuncId} {cap : Array Value} {vs : List Value} {h : FH} {c : Nat} {df : List Nat} {Q : Ex × FH × Nat × List Nat → Prop}
    (hr : Ans (o (.fn g) (.func (.yield (256 * c)) #[] #[] :: cap.toList) (entryH h c nt lin ps a b vs) (c + 1) []) fun r =>
      ∃ st e, HeapC.get r.h (256 * c) = some (.loop st) ∧ st.state ≠ .busy ∧ exOf st.pending = some e ∧ Q (e, HeapC.del r.h (256 * c), r.c, (256 * c + 1) :: df)) :
    Ans (rangeV o nt none lin [] ps a b (.func (.func g) [].toArray cap) vs h c df) Q := by
  obtain ⟨r, e1, st, e, hg, hs, he, hq⟩ := hr
  refine ⟨_, ?_, hq⟩
  simp only [entryH, entryL] at e1
  have hs' : decide (st.state = LoopState.busy) = false := decide_eq_false hs
  simp only [rangeV, enterDfr, Option.bind_some, List.nil_append, List.singleton_append, e1, hg, hs', cond_false, he]
theorem beginSt_of {h : FH} {l : Nat} {st : ALoop} (hg : HeapC.get h l = some (.loop st)) (hs : st.state = .ready) : beginSt h l = some (HeapC.set h l (.loop { st with state := .busy })) := by
  simp [beginSt, hg, hs]
theorem setState_of {h : FH} {l : Nat} {st : ALoop} (hg : HeapC.get h l = some (.loop st)) (s : LoopState) (pd : Option Code) : setState h l s pd = some (HeapC.set h l (.loop { st with state := s, pending := pd })) := by
  simp [setState, hg]
@[simp] theorem get_set_same (h : FH) (i : Nat) (b : ABlk) : HeapC.get (HeapC.set h i b) i = some b := by simp [HeapC.get_set]
@[simp] theorem get_set_ne (h : FH) (i j : Nat) (b : ABlk) (hne : j ≠ i) : HeapC.get (HeapC.set h i b) j = HeapC.get h j := by simp [HeapC.get_set, hne]
@[simp] theorem get_del_ne (h : FH) (i j : Nat) (hne : j ≠ i) : HeapC.get (HeapC.del h i) j = HeapC.get h j := by simp [HeapC.get_del, hne]
@[simp] theorem ld1_set_ne (h : FH) (i j o : Nat) (b : ABlk) (hne : j ≠ i) : ld1 (HeapC.set h i b) (.pointer (some ⟨j, o, none⟩)) = ld1 h (.pointer (some ⟨j, o, none⟩)) := by simp [ld1, asPtr, rdCell, getCells, hne]
@[simp] theorem ldN_set_ne (h : FH) (n i j o : Nat) (b : ABlk) (hne : j ≠ i) : ldN (HeapC.set h i b) n (.pointer (some ⟨j, o, none⟩)) = ldN h n (.pointer (some ⟨j, o, none⟩)) := by simp [ldN, asPtr, rdCells, getCells, hne]
@[simp] theorem ld1_del_ne (h : FH) (i j o : Nat) (hne : j ≠ i) : ld1 (HeapC.del h i) (.pointer (some ⟨j, o, none⟩)) = ld1 h (.pointer (some ⟨j, o, none⟩)) := by simp [ld1, asPtr, rdCell, getCells, hne]
@[simp] theorem ldN_del_ne (h : FH) (n i j o : Nat) (hne : j ≠ i) : ldN (HeapC.del h i) n (.pointer (some ⟨j, o, none⟩)) = ldN h n (.pointer (some ⟨j, o, none⟩)) := by simp [ldN, asPtr, rdCells, getCells, hne]
theorem Holds.set_ne {h : FH} {i j : Nat} {b : ABlk} {ds : List Value} (hne : j ≠ i) (hh : Holds h j ds) : Holds (HeapC.set h i b) j ds := by
  obtain ⟨ro, op, e⟩ := hh
  exact ⟨ro, op, by rw [get_set_ne h i j b hne]; exact e⟩
theorem Holds.same {h h' : FH} {c j : Nat} {ds : List Value} (hj : j < 256 * c) (hs : Same c h h') (hh : Holds h j ds) : Holds h' j ds := by
  obtain ⟨ro, op, e⟩ := hh
  exact ⟨ro, op, (hs j hj).trans e⟩
theorem ld1_holds' {h : FH} {b o : Nat} {cs : List Value} (hh : Holds h b cs) : ld1 h (.pointer (some ⟨b, o, none⟩)) = cs[o]? := by
  obtain ⟨ro, op, e⟩ := hh
  simp [ld1, asPtr, rdCell, getCells, e]
theorem st1_get {h : FH} {b o : Nat} {op : Option Nat} {cs : List Value} {v : Value} (hg : HeapC.get h b = some (.cells false op cs)) (ho : o < cs.length) (hv : v.cells = #[v]) (hf : isFlat v = true) :
    stN h 1 (.pointer (some ⟨b, o, none⟩)) v = some (HeapC.set h b (.cells false op (cs.set o v))) := by
  have h1 : Nat.ble (o + 1) cs.length = true := Nat.ble_eq_true_of_le (by omega)
  simp [stN, asPtr, hv, wrCells, hg, h1, hf, splice_one cs o v ho]
@[simp] theorem sameB_self (x : Option Nat) (h : FH) : sameB x h h = true := by
  unfold sameB
  split
  · show @decide _ (Classical.propDecidable _) = true
    simp
  · rfl
theorem getD_drop (l : List Int) (i j : Nat) : (l.drop i).getD j 0 = l.getD (i + j) 0 := by simp [List.getD]
theorem getD_take (l : List Int) (i j : Nat) (h : j < i) : (l.take i).getD j 0 = l.getD j 0 := by simp [List.getD, List.getElem?_take, h]
@[simp] theorem set_set (h : FH) (i : Nat) (a b : ABlk) : HeapC.set (HeapC.set h i a) i b = HeapC.set h i b := by
  apply FH.ext; intro j; simp only [set_f]; split <;> rfl
@[simp] theorem setState_set (h : FH) (l : Nat) (st : ALoop) (s : LoopState) (pd : Option Code) : setState (HeapC.set h l (.loop st)) l s pd = some (HeapC.set h l (.loop { st with state := s, pending := pd })) := by
  rw [setState_of (get_set_same h l (.loop st)), set_set]
theorem set_comm (h : FH) (i j : Nat) (a b : ABlk) (hne : i ≠ j) : HeapC.set (HeapC.set h i a) j b = HeapC.set (HeapC.set h j b) i a := by
  apply FH.ext; intro k; simp only [set_f]
  by_cases h1 : k = j
  · have : ¬ k = i := by omega
    rw [if_pos h1, if_neg this, if_pos h1]
  · rw [if_neg h1, if_neg h1]
@[simp] theorem setState_newB (h : FH) (l i : Nat) (cs : List Value) (s : LoopState) (pd : Option Code) (hne : l ≠ i) : setState (newB h i cs) l s pd = (setState h l s pd).map fun h' => newB h' i cs := by
  unfold setState
  rw [get_newB_ne _ _ _ _ hne]
  split
  · simp only [Option.map_some, newB]
    rw [set_comm _ _ _ _ _ (Ne.symm hne)]
  · rfl
@[simp] theorem setState_set_ne (h : FH) (l i : Nat) (b : ABlk) (s : LoopState) (pd : Option Code) (hne : l ≠ i) : setState (HeapC.set h i b) l s pd = (setState h l s pd).map fun h' => HeapC.set h' i b := by
  unfold setState
  rw [get_set_ne _ _ _ _ hne]
  split
  · simp only [Option.map_some]
    rw [set_comm _ _ _ _ _ (Ne.symm hne)]
  · rfl
@[simp] theorem gv_undef (w : Bool) : gv undef w = some false := rfl
end Go.Ab

namespace Go.Proofs.Ytcnndelmnobigaa
open Go Go.Ab Go.Proofs
set_option maxRecDepth 100000
set_option linter.unusedVariables false
set_option linter.unusedSimpArgs false
theorem eq_face5 (a0 a1 a2 a3 a4 b0 b1 b2 b3 b4 : Int) : aBinOp0 P .eql 41 (av [a0, a1, a2, a3, a4]) (av [b0, b1, b2, b3, b4]) =
    (cond (a0 == b0) ((cond (a1 == b1) (cond (a2 == b2) (cond (a3 == b3) (cond (a4 == b4) (some true) (some false)) (some false)) (some false)) (some false)).bind fun r => cond r (some true) (some false)) (some false)).bind fun b => some (.bool b) := by kernel_rfl
theorem eq_face (x y : List Int) (hx : x.length = 5) (hy : y.length = 5) : aBinOp P .eql 41 (av x) (av y) = some (.bool (decide (x = y))) := by
  match x, hx, y, hy with
  | [a0, a1, a2, a3, a4], _, [b0, b1, b2, b3, b4], _ =>
    rw [aBinOp_eq, eq_face5]
    by_cases h0 : a0 = b0 <;> by_cases h1 : a1 = b1 <;> by_cases h2 : a2 = b2 <;> by_cases h3 : a3 = b3 <;> by_cases h4 : a4 = b4 <;> simp [h0, h1, h2, h3, h4, Bool.cond_eq_ite]
theorem neq_face (x y : List Int) (hx : x.length = 5) (hy : y.length = 5) : aBinOp P .neq 41 (av x) (av y) = some (.bool (!decide (x = y))) := by
  have h := eq_face x y hx hy
  rw [aBinOp_eq] at h ⊢
  have e1 : aBinOp0 P .eql 41 (av x) (av y) = cond (guardOk P 41 (av x)) ((aEq P eqDepth 41 (av x) (av y)).bind fun b => some (.bool b)) none := rfl
  have e2 : aBinOp0 P .neq 41 (av x) (av y) = cond (guardOk P 41 (av x)) ((aEq P eqDepth 41 (av x) (av y)).bind fun b => some (.bool (!b))) none := rfl
  rw [e1] at h
  rw [e2]
  cases hg : guardOk P 41 (av x) with
  | false => rw [hg] at h; cases h
  | true =>
    rw [hg] at h
    simp only [cond_true] at h ⊢
    cases hq : aEq P eqDepth 41 (av x) (av y) with
    | none => rw [hq] at h; cases h
    | some b => rw [hq] at h; simp only [Option.bind_some, Option.some.injEq, Value.bool.injEq] at h ⊢; rw [h]
structure FacesI (y : Value) (s : Value) (n : Nat) (Gl : List Int) (gb : Nat) (I : Nat → FH → Nat → Prop) (J : FH → Nat → Prop) : Prop where
  stab : ∀ k h c h' c', I k h c → c ≤ c' → Same c h h' → I k h' c'
  jstab : ∀ h c h' c', J h c → c ≤ c' → Same c h h' → J h' c'
  read : ∀ k h c, I k h c → Holds h gb [s] ∧ SlI h c s 20 n Gl
  step : ∀ t f h c, t < n → f < 4 → I (4 * t + f) h c →
    Ans (callV G h c y [av [(t : Int), (f : Int)], av (faceL Gl t f)]) (fun q => c ≤ q.2.2 ∧ ((q.1 = .bool true ∧ I (4 * t + f + 1) q.2.1 q.2.2) ∨ (q.1 = .bool false ∧ J q.2.1 q.2.2)))
theorem faces_in {y s : Value} {n : Nat} {Gl : List Int} {gb : Nat} {I : Nat → FH → Nat → Prop} {J : FH → Nat → Prop} (hI : FacesI y s n Gl gb I J) (hG : Gl.length = n * 20) (t : Nat) (ht : t < n) (df : List Nat) :
    ∀ (k f : Nat) (h : FH) (c : Nat), f + k = 4 → I (4 * t + f) h c →
    Ans (G (f91_k91001 none) [y, ptrTo gb, .int .i64 t, .int .i64 n, .int .i64 t, av (rowL Gl t), .int .i64 f] h c df) fun r => c ≤ r.c ∧ r.df = df ∧
      ((r.e = .exit 2 ∧ r.vs = [y, ptrTo gb, .int .i64 t, .int .i64 n, .int .i64 t, av (rowL Gl t), .int .i64 4] ∧ I (4 * t + 4) r.h r.c) ∨ (r.e = .ret ∧ r.vs.length = 7 ∧ J r.h r.c)) := by
  intro k
  induction k with
  | zero =>
    intro f h c hf hi
    obtain rfl : f = 4 := by omega
    refine .intro (f91_Z91001 (q := ⟨.exit 2, _, h, c + 1, df⟩) (by unfold f91_L91001; simp; rfl) (by simp)) ?_
    exact ⟨by simp, rfl, .inl ⟨rfl, rfl, hI.stab _ _ _ _ _ hi (by simp) (Same.refl _ _)⟩⟩
  | succ k ih =>
    intro f h c hf hi
    have hf4 : f < 4 := by omega
    have e0 : (f : Int) < 4 := by omega
    have hl := faceL_length hG ht hf4
    have hrl := rowL_length hG ht
    have hb : ∀ cs, Same c h (newB h (256 * (c + 1) + 2) cs) := fun cs => (Same.refl _ _).newB (by omega)
    obtain ⟨q, hq, hcq, hcase⟩ := hI.step t f (newB h (256 * (c + 1) + 2) (ints (faceL Gl t f))) (c + 1 + 1 + 1) ht hf4 (hI.stab _ _ _ _ _ hi (by omega) (hb _))
    have e1 : (faceL Gl t f).take 5 = faceL Gl t f := List.take_of_length_le (by omega)
    have body : f91_L91001 G none y (ptrTo gb) (.int .i64 t) (.int .i64 n) (.int .i64 t) (av (rowL Gl t)) (.int .i64 f) h c df =
        (aUnOp .not q.1).bind fun t27 => boolK t27 (some { e := .ret, vs := [y, ptrTo gb, .int .i64 t, .int .i64 n, .int .i64 t, av (rowL Gl t), .int .i64 f], h := q.2.1, c := q.2.2, df := df })
          (some { e := .normal, vs := [y, ptrTo gb, .int .i64 t, .int .i64 n, .int .i64 t, av (rowL Gl t), .int .i64 (f + 1 : Nat)], h := q.2.1, c := q.2.2 + 1, df := df }) := by
      unfold f91_L91001
      simp (disch := (first | omega | (simp <;> omega) | fail)) [e0, ixV_avs, hrl, row_face hf4, hl, e1, bld2, hq]
    rcases hcase with ⟨hv, hi2⟩ | ⟨hv, hj⟩
    · rw [hv] at body
      simp only [aUnOp_not, Option.bind_some, boolK_bool, Bool.not_true, cond_false] at body
      refine (ih (f + 1) q.2.1 (q.2.2 + 1) (by omega) (hI.stab _ _ _ _ _ hi2 (by omega) (Same.refl _ _))).elim fun r ⟨hr, h1, h2⟩ => ?_
      exact .intro (f91_N91001 body rfl hr) ⟨by omega, h2⟩
    · rw [hv] at body
      simp only [aUnOp_not, Option.bind_some, boolK_bool, Bool.not_false, cond_true] at body
      exact .intro (f91_Z91001 body (by simp)) ⟨by simp; omega, rfl, .inr ⟨rfl, rfl, hj⟩⟩
theorem faces_out {y s : Value} {n : Nat} {Gl : List Int} {gb : Nat} {I : Nat → FH → Nat → Prop} {J : FH → Nat → Prop} (hI : FacesI y s n Gl gb I J) (hG : Gl.length = n * 20) (hn : n ≤ 9223372036854775807) (df : List Nat) :
    ∀ (k t : Nat) (h : FH) (c : Nat), t + k = n → I (4 * t) h c →
    Ans (G (f91_k91000 none) [y, ptrTo gb, .int .i64 n, .int .i64 t] h c df) fun r => c ≤ r.c ∧ r.df = df ∧
      ((r.e = .exit 0 ∧ I (4 * n) r.h r.c) ∨ (r.e = .ret ∧ J r.h r.c)) := by
  intro k
  induction k with
  | zero =>
    intro t h c ht hi
    obtain rfl : t = n := by omega
    refine .intro (f91_Z91000 (q := ⟨.exit 0, _, h, c + 1, df⟩) (by unfold f91_L91000; simp; rfl) (by simp)) ?_
    exact ⟨by simp, rfl, .inl ⟨rfl, hI.stab _ _ _ _ _ hi (by simp) (Same.refl _ _)⟩⟩
  | succ k ih =>
    intro t h c ht hi
    have htn : t < n := by omega
    have e0 : (t : Int) < n := by omega
    obtain ⟨hgb, hs⟩ := hI.read _ _ _ hi
    obtain ⟨b, o, cs, e1, hb, hh, hw⟩ := hs.ix .i64 t (by omega) e0
    have e2 : ld1 h (.pointer (some ⟨gb, 0, none⟩)) = some s := by rw [ld1_holds' hgb]; rfl
    have e3 : ldN h 20 (.pointer (some ⟨b, o + t * 20, none⟩)) = some (av (rowL Gl t)) := by
      have := ldN_win hh hw (j := t * 20) (q := 20) (by omega) (by omega)
      rw [this]; unfold rowL; rw [Nat.mul_comm]
    simp only [Int.toNat_natCast] at e1
    obtain ⟨r, hr, hcr, hdf, hcase⟩ := faces_in hI hG t htn df 4 0 h (c + 1 + 1 + 1) rfl (hI.stab _ _ _ _ _ hi (by omega) (Same.refl _ _))
    have body : f91_L91000 G none y (ptrTo gb) (.int .i64 n) (.int .i64 t) h c df =
        cond (exIs r.e (.exit 2)) ((aBinOp P .add 3 (r.v 4) (.int .i64 1)).bind fun t29 => some { e := .normal, vs := [(r.v 0), (r.v 1), (r.v 3), t29], h := r.h, c := (r.c + 1), df := r.df })
          (cond (exIs r.e .ret) (some { e := .ret, vs := [(r.v 0), (r.v 1), (r.v 3), (r.v 4)], h := r.h, c := r.c, df := r.df }) none) := by
      unfold f91_L91000
      simp only [Int.ofNat_eq_natCast, Int.cast_ofNat_Int] at hr
      simp (disch := (first | omega | (simp <;> omega) | fail)) [e0, e2, e1, e3, hr]
    obtain ⟨re, rv, rh, rc, rd⟩ := r
    simp only at hcase hcr hdf
    subst hdf
    rcases hcase with ⟨rfl, rfl, hi2⟩ | ⟨rfl, hl, hj⟩
    · simp (disch := omega) at body
      refine (ih (t + 1) rh (rc + 1) (by omega) (hI.stab _ _ _ _ _ hi2 (by omega) (Same.refl _ _))).elim fun r ⟨hr2, h1, h2⟩ => ?_
      exact .intro (f91_N91000 body rfl (by simpa using hr2)) ⟨by omega, h2⟩
    · simp at body
      exact .intro (f91_Z91000 body (by simp)) ⟨by simp; omega, rfl, .inr ⟨rfl, hj⟩⟩
theorem faces_sp {y s : Value} {n : Nat} {Gl : List Int} {gb : Nat} {I : Nat → FH → Nat → Prop} {J : FH → Nat → Prop} (hI : FacesI y s n Gl gb I J) {h : FH} {c : Nat} (hi : I 0 h c) (df : List Nat) :
    Ans (G (.fn 91) [y, ptrTo gb] h c df) fun r => r.e = .ret ∧ r.vs = [.tuple #[]] ∧ r.df = [] ∧ c ≤ r.c ∧ (I (4 * n) r.h r.c ∨ J r.h r.c) := by
  obtain ⟨hgb, hs⟩ := hI.read _ _ _ hi
  obtain ⟨r, hr, hcr, hdf, hcase⟩ := faces_out hI hs.1 hs.2.1 [] n 0 h (c + 1) (by omega) (hI.stab _ _ _ _ _ hi (by omega) (Same.refl _ _))
  have e2 : ld1 h (.pointer (some ⟨gb, 0, none⟩)) = some s := by rw [ld1_holds' hgb]; rfl
  obtain ⟨re, rv, rh, rc, rd⟩ := r
  simp only at hcase hcr hdf
  subst hdf
  simp only [Int.ofNat_eq_natCast, Int.cast_ofNat_Int] at hr
  rcases hcase with ⟨rfl, hi2⟩ | ⟨rfl, hj⟩
  · refine .intro (f91_go (r := { e := .ret, vs := [.tuple #[]], h := rh, c := rc, df := [] }) (by unfold f91_S; simp [e2, hs.len, hr])) ?_
    exact ⟨rfl, rfl, rfl, by simp; omega, .inl hi2⟩
  · refine .intro (f91_go (r := { e := .ret, vs := [.tuple #[]], h := rh, c := rc, df := [] }) (by unfold f91_S; simp [e2, hs.len, hr])) ?_
    exact ⟨rfl, rfl, rfl, by simp; omega, .inr hj⟩
end Go.Proofs.Ytcnndelmnobigaa

namespace Go.Proofs.Ytcnndelmnobigaa
open Go Go.Ab Go.Proofs
set_option maxRecDepth 100000
set_option linter.unusedVariables false
set_option linter.unusedSimpArgs false
theorem callF_valid (p : List Int) (hp : p.length = 4) (h : FH) (c : Nat) : callF G 84 [av p] h c = some (.bool (validB p), h, c) := callF_of (valid_sp p hp h c [])
theorem callF_inverse (p : List Int) (hp : p.length = 4) (hr : InR p) (h : FH) (c : Nat) : callF G 85 [av p] h c = some (av (inv p), h, c) := callF_of (inverse_sp p hp hr h c [])
theorem check_rnd (s : Value) (n : Nat) (Gl : List Int) (gb rb nb l c0 c : Nat) (st : ALoop) (h : FH) (hc : c0 ≤ c) (t f : Nat) (ht : t < n) (hf : f < 4)
    (hgb : gb < 256 * c0) (hrb : rb < 256 * c0) (hnb : nb < 256 * c0) (hl : l < 256 * c0) (hlr : l ≠ rb) (hlg : l ≠ gb) (hln : l ≠ nb)
    (h1 : Holds h gb [s]) (h2 : SlI h c0 s 20 n Gl) (h3 : Holds h nb (ints noneL)) (h4 : HeapC.get h rb = some (.cells false none [.int .i64 0])) (h5 : HeapC.get h l = some (.loop st)) (h6 : st.state = .ready) :
    Ans (f70_R70000 G l (av [(t : Int), (f : Int)]) (av (faceL Gl t f)) (ptrTo gb) (ptrTo rb) (ptrTo nb) h c) fun r => c ≤ r.c ∧ r.e = .ret ∧ r.df = [] ∧ r.vs = [.bool (okFace Gl n t f)] ∧
      r.h.f l = some (.loop { st with state := if okFace Gl n t f then .ready else .done, pending := if okFace Gl n t f then none else some .ret }) ∧
      (∀ i, i < 256 * c → i ≠ l → r.h.f i = if i = rb ∧ okFace Gl n t f = false then some (.cells false none [.int .i64 7]) else h.f i) := by
  have hx := faceL_length h2.1 ht hf
  have hp := permL_length hx
  have ht5 : (faceL Gl t f).take 5 = faceL Gl t f := List.take_of_length_le (by omega)
  have hnl : noneL.length = 5 := rfl
  obtain ⟨H, hH⟩ : ∃ H, H = HeapC.set (newB (newB h (256 * c) (ints [(t : Int), (f : Int)])) (256 * (c + 1)) (ints (faceL Gl t f))) l (.loop { st with state := .busy }) := ⟨_, rfl⟩
  have hb : beginSt (newB (newB h (256 * c) (ints [(t : Int), (f : Int)])) (256 * (c + 1)) (ints (faceL Gl t f))) l = some H := by
    rw [hH]
    exact beginSt_of (by rw [get_newB_ne _ _ _ _ (by omega), get_newB_ne _ _ _ _ (by omega)]; exact h5) h6
  have r0 : ∀ j, j < 256 * c → j ≠ l → H.f j = h.f j := by
    intro j hj hne
    rw [hH, set_f, if_neg hne, newB_f, if_neg (by omega), newB_f, if_neg (by omega)]
  have hol : ∀ b cs, b < 256 * c0 → Holds h b cs → Holds H b cs := by
    intro b cs hb ⟨ro, op, e⟩
    have hne : b ≠ l := by
      rintro rfl
      rw [h5] at e; cases e
    exact ⟨ro, op, (r0 b (by omega) hne).trans e⟩
  have hA : Holds H (256 * c) (ints [(t : Int), (f : Int)]) := by
    rw [hH]
    exact (((Holds.newB_same h _ _).newB_ne (by omega)).set_ne (by omega))
  have hB : Holds H (256 * (c + 1)) (ints (faceL Gl t f)) := by
    rw [hH]
    exact ((Holds.newB_same _ _ _).set_ne (by omega))
  have a0 : ld1 H (.pointer (some ⟨256 * c, 0, none⟩)) = some (.int .i64 t) := by rw [ld1_holds' hA]; rfl
  have a1 : ld1 H (.pointer (some ⟨256 * c, 1, none⟩)) = some (.int .i64 f) := by rw [ld1_holds' hA]; rfl
  have b0 : ldN H 5 (.pointer (some ⟨256 * (c + 1), 0, none⟩)) = some (av (faceL Gl t f)) := by
    rw [ldN_holds hB (by simp [hx])]; simp [ht5]
  have b1 : ld1 H (.pointer (some ⟨256 * (c + 1), 0, none⟩)) = some (.int .i64 (tetL (faceL Gl t f))) := by
    rw [ld1_holds' hB, ints_get, List.getElem?_eq_getElem (by omega)]
    simp [tetL, List.getD, List.getElem?_eq_getElem (by omega : 0 < (faceL Gl t f).length)]
  have b2 : ldN H 4 (.pointer (some ⟨256 * (c + 1), 1, none⟩)) = some (av (permL (faceL Gl t f))) := by
    rw [ldN_holds hB (by simp [hx])]; rw [ints_drop, ints_take]; rfl
  have b3 : ld1 H (.pointer (some ⟨256 * (c + 1), 1 + f, none⟩)) = some (.int .i64 ((permL (faceL Gl t f)).getD f 0)) := by
    have hlt : 1 + f < (faceL Gl t f).length := by omega
    rw [ld1_holds' hB, ints_get, List.getElem?_eq_getElem hlt]
    unfold permL
    rw [getD_take _ _ _ hf, getD_drop]
    simp [List.getD, List.getElem?_eq_getElem hlt]
  have e1 : ldN H 5 (.pointer (some ⟨nb, 0, none⟩)) = some (av noneL) := by
    rw [ldN_holds (hol nb _ hnb h3) (by simp [noneL])]; rfl
  have e2 : ld1 H (.pointer (some ⟨gb, 0, none⟩)) = some s := by rw [ld1_holds' (hol gb _ hgb h1)]; rfl
  have e3 := h2.len
  have endT : ∀ c', c ≤ c' → okFace Gl n t f = true → Ans ((setState H l .ready none).bind fun h37 => some ({ e := .ret, vs := [.bool true], h := h37, c := c', df := [] } : Rt FH)) fun r => c ≤ r.c ∧ r.e = .ret ∧ r.df = [] ∧ r.vs = [.bool (okFace Gl n t f)] ∧
      r.h.f l = some (.loop { st with state := if okFace Gl n t f then .ready else .done, pending := if okFace Gl n t f then none else some .ret }) ∧
      (∀ i, i < 256 * c → i ≠ l → r.h.f i = if i = rb ∧ okFace Gl n t f = false then some (.cells false none [.int .i64 7]) else h.f i) := by
    intro c' hc' ok
    rw [ok, hH, setState_set]
    simp only [Option.bind_some, Ans_some, if_true, Bool.true_eq_false, and_false, if_false]
    refine ⟨hc', trivial, trivial, trivial, by rw [set_f, if_pos rfl], fun i hi hne => ?_⟩
    rw [set_f, if_neg hne, newB_f, if_neg (by omega), newB_f, if_neg (by omega)]
  have endF : ∀ c', c ≤ c' → okFace Gl n t f = false → ∃ H', stN H 1 (.pointer (some ⟨rb, 0, none⟩)) (.int .i64 7) = some H' ∧ Ans ((setState H' l .done (some .ret)).bind fun h36 => some ({ e := .ret, vs := [.bool false], h := h36, c := c', df := [] } : Rt FH)) fun r => c ≤ r.c ∧ r.e = .ret ∧ r.df = [] ∧ r.vs = [.bool (okFace Gl n t f)] ∧
      r.h.f l = some (.loop { st with state := if okFace Gl n t f then .ready else .done, pending := if okFace Gl n t f then none else some .ret }) ∧
      (∀ i, i < 256 * c → i ≠ l → r.h.f i = if i = rb ∧ okFace Gl n t f = false then some (.cells false none [.int .i64 7]) else h.f i) := by
    intro c' hc' ok
    have hg : HeapC.get H rb = some (.cells false none [.int .i64 0]) := (r0 rb (by omega) (Ne.symm hlr)).trans h4
    refine ⟨_, st1_get (cs := [.int .i64 0]) hg (by simp) rfl rfl, ?_⟩
    rw [ok, setState_set_ne _ _ _ _ _ _ hlr, hH, setState_set]
    simp only [Option.map_some, Option.bind_some, Ans_some, Bool.false_eq_true, if_false, and_true]
    refine ⟨hc', trivial, trivial, trivial, by rw [set_f, if_neg hlr, set_f, if_pos rfl], fun i hi hne => ?_⟩
    rw [set_f]
    split
    · rfl
    · rw [set_f, if_neg hne, newB_f, if_neg (by omega), newB_f, if_neg (by omega)]
  clear hH
  have hface : ∀ u j : Int, 0 ≤ u → u < n → 0 ≤ j → j < 4 → ∃ b o, ixS 20 s (.int .i64 u) = some (.pointer (some ⟨b, o + u.toNat * 20, none⟩)) ∧ ldN H 5 (.pointer (some ⟨b, o + u.toNat * 20 + j.toNat * 5, none⟩)) = some (av (faceL Gl u.toNat j.toNat)) := by
    intro u j u1 u2 j1 j2
    obtain ⟨b, o, cs, x1, x2, x3, x4⟩ := h2.ix .i64 u u1 u2
    refine ⟨b, o, x1, ?_⟩
    have := h2.1
    rw [Nat.add_assoc, ldN_win (hol b cs x2 x3) x4 (j := u.toNat * 20 + j.toNat * 5) (q := 5) (by omega) (by omega)]
    unfold faceL
    rw [Nat.mul_comm 20, Nat.mul_comm 5]
  unfold f70_R70000
  rw [stN_ptrTo, Nat.add_zero, stN_all _ _ 2 _ [(t : Int), (f : Int)] rfl rfl]
  simp only [Option.bind_some]
  rw [stN_ptrTo, Nat.add_zero, stN_all _ _ 5 _ _ hx rfl]
  simp only [Option.bind_some, hb]
  by_cases q1 : faceL Gl t f = noneL
  · have ok : okFace Gl n t f = true := by simp [okFace, q1]
    refine Ans.step (v := ({ e := .normal, vs := [], h := H, c := c + 1 + 1 + 1, df := [] } : Rt FH)) ?_ (endT (c + 1 + 1 + 1) (by omega) ok)
    apply Ans.eq
    repeat (first | (with_reducible refine Ans.bt ?_ ?_; exact rfl) | (with_reducible refine Ans.bf ?_ ?_; exact rfl) | (with_reducible refine Ans.ct ?_ ?_; focus (simp; done)) | (with_reducible refine Ans.cf ?_ ?_; focus (simp; done)) | refine Ans.step (by (simp (disch := (first | omega | (simp <;> omega) | fail)) [b0, e1, eq_face, hx, hnl, q1, -List.getD_eq_getElem?_getD]) <;> rfl) ?_)
    exact Ans.done rfl
  · by_cases q2 : tetL (faceL Gl t f) < 0
    · have ok : okFace Gl n t f = false := by
        have : ¬ (0 ≤ tetL (faceL Gl t f)) := by omega
        simp [okFace, q1, this]
      obtain ⟨H', x1, x2⟩ := endF (c + 1 + 1 + 1 + 1 + 1) (by omega) ok
      refine Ans.step (v := ({ e := .ret, vs := [], h := H', c := c + 1 + 1 + 1 + 1 + 1, df := [] } : Rt FH)) ?_ x2
      apply Ans.eq
      repeat (first | (with_reducible refine Ans.bt ?_ ?_; exact rfl) | (with_reducible refine Ans.bf ?_ ?_; exact rfl) | (with_reducible refine Ans.ct ?_ ?_; focus (simp; done)) | (with_reducible refine Ans.cf ?_ ?_; focus (simp; done)) | refine Ans.step (by (simp (disch := (first | omega | (simp <;> omega) | fail)) [b0, b1, e1, eq_face, hx, hnl, q1, q2, x1, -List.getD_eq_getElem?_getD]) <;> rfl) ?_)
      exact Ans.done rfl
    · by_cases q3 : (n : Int) ≤ tetL (faceL Gl t f)
      · have ok : okFace Gl n t f = false := by
          have : ¬ (tetL (faceL Gl t f) < n) := by omega
          simp [okFace, q1, this]
        obtain ⟨H', x1, x2⟩ := endF (c + 1 + 1 + 1 + 1 + 1) (by omega) ok
        refine Ans.step (v := ({ e := .ret, vs := [], h := H', c := c + 1 + 1 + 1 + 1 + 1, df := [] } : Rt FH)) ?_ x2
        apply Ans.eq
        repeat (first | (with_reducible refine Ans.bt ?_ ?_; exact rfl) | (with_reducible refine Ans.bf ?_ ?_; exact rfl) | (with_reducible refine Ans.ct ?_ ?_; focus (simp; done)) | (with_reducible refine Ans.cf ?_ ?_; focus (simp; done)) | refine Ans.step (by (simp (disch := (first | omega | (simp <;> omega) | fail)) [b0, b1, e1, e2, e3, eq_face, hx, hnl, q1, q2, q3, x1, -List.getD_eq_getElem?_getD]) <;> rfl) ?_)
        exact Ans.done rfl
      · cases q4 : validB (permL (faceL Gl t f)) with
        | false =>
          have ok : okFace Gl n t f = false := by simp [okFace, q1, q4]
          obtain ⟨H', x1, x2⟩ := endF (c + 1 + 1 + 1 + 1 + 1) (by omega) ok
          refine Ans.step (v := ({ e := .ret, vs := [], h := H', c := c + 1 + 1 + 1 + 1 + 1, df := [] } : Rt FH)) ?_ x2
          apply Ans.eq
          repeat (first | (with_reducible refine Ans.bt ?_ ?_; exact rfl) | (with_reducible refine Ans.bf ?_ ?_; exact rfl) | (with_reducible refine Ans.ct ?_ ?_; focus (simp; done)) | (with_reducible refine Ans.cf ?_ ?_; focus (simp; done)) | refine Ans.step (by (simp (disch := (first | omega | (simp <;> omega) | fail)) [b0, b1, b2, e1, e2, e3, eq_face, hx, hnl, q1, q2, q3, q4, x1, callF_valid, hp, -List.getD_eq_getElem?_getD]) <;> rfl) ?_)
          exact Ans.done rfl
        | true =>
          have hr := validB_range q4
          have hpr : 0 ≤ (permL (faceL Gl t f)).getD f 0 ∧ (permL (faceL Gl t f)).getD f 0 < 4 := by
            have hlt : f < (permL (faceL Gl t f)).length := by omega
            have := hr _ (List.getElem_mem hlt)
            simpa [List.getD, List.getElem?_eq_getElem hlt] using this
          have ft : (f : Int) < 4 := by omega
          by_cases q5 : tetL (faceL Gl t f) = t ∧ (permL (faceL Gl t f)).getD f 0 = f
          · obtain ⟨q5, q6⟩ := q5
            have ok : okFace Gl n t f = false := by simp [okFace, q1, q5, q6, -List.getD_eq_getElem?_getD]
            obtain ⟨H', x1, x2⟩ := endF (c + 1 + 1 + 1 + 1 + 1) (by omega) ok
            have q2' : ¬ (t : Int) < 0 := by omega
            have q3' : ¬ (n : Int) ≤ t := by omega
            refine Ans.step (v := ({ e := .ret, vs := [], h := H', c := c + 1 + 1 + 1 + 1 + 1, df := [] } : Rt FH)) ?_ x2
            apply Ans.eq
            repeat (first | (with_reducible refine Ans.bt ?_ ?_; exact rfl) | (with_reducible refine Ans.bf ?_ ?_; exact rfl) | (with_reducible refine Ans.ct ?_ ?_; focus (simp; done)) | (with_reducible refine Ans.cf ?_ ?_; focus (simp; done)) | refine Ans.step (by (simp (disch := (first | omega | (simp <;> omega) | fail)) [b0, b1, b2, b3, a0, a1, e1, e2, e3, eq_face, hx, hnl, q1, q2', q3', q4, q5, q6, ft, x1, callF_valid, hp, -List.getD_eq_getElem?_getD]) <;> rfl) ?_)
            exact Ans.done rfl
          · obtain ⟨b, o, f1, f2⟩ := hface (tetL (faceL Gl t f)) ((permL (faceL Gl t f)).getD f 0) (by omega) (by omega) hpr.1 hpr.2
            have hfl : (faceL Gl (tetL (faceL Gl t f)).toNat ((permL (faceL Gl t f)).getD f 0).toNat).length = 5 := faceL_length h2.1 (by omega) (by omega)
            have hil : (inv (permL (faceL Gl t f))).length = 4 := invL_length _ _ _
            have hil5 : ((t : Int) :: inv (permL (faceL Gl t f))).length = 5 := by rw [List.length_cons, hil]
            have q5d : (decide (tetL (faceL Gl t f) = (t : Int)) && decide ((permL (faceL Gl t f)).getD f 0 = (f : Int))) = false := by simpa [-List.getD_eq_getElem?_getD] using q5
            have key : ∀ X : Bool, decide (faceL Gl (tetL (faceL Gl t f)).toNat ((permL (faceL Gl t f)).getD f 0).toNat = (t : Int) :: inv (permL (faceL Gl t f))) = X → okFace Gl n t f = X := by
              intro X hX
              unfold okFace
              rw [hX, q5d, q4]
              have z1 : 0 ≤ tetL (faceL Gl t f) := by omega
              have z2 : tetL (faceL Gl t f) < n := by omega
              simp [q1, z1, z2]
            have dd : ∃ X : Bool, decide (tetL (faceL Gl t f) = (t : Int)) = X ∧ (X = true → decide ((permL (faceL Gl t f)).getD f 0 = (f : Int)) = false) := by
              refine ⟨_, rfl, fun e => ?_⟩
              rw [e] at q5d
              simpa only [Bool.true_and] using q5d
            obtain ⟨X, d5, d6⟩ := dd
            cases q7 : decide (faceL Gl (tetL (faceL Gl t f)).toNat ((permL (faceL Gl t f)).getD f 0).toNat = (t : Int) :: inv (permL (faceL Gl t f))) with
            | true =>
              have ok := key _ q7
              refine Ans.step (v := ({ e := .normal, vs := [], h := H, c := c + 1 + 1 + 1 + 1 + 1, df := [] } : Rt FH)) ?_ (endT (c + 1 + 1 + 1 + 1 + 1) (by omega) ok)
              apply Ans.eq
              cases X with
              | true =>
                have d6' := d6 rfl
                repeat (first | (with_reducible refine Ans.bt ?_ ?_; exact rfl) | (with_reducible refine Ans.bf ?_ ?_; exact rfl) | (with_reducible refine Ans.ct ?_ ?_; focus (simp; done)) | (with_reducible refine Ans.cf ?_ ?_; focus (simp; done)) | refine Ans.step (by (simp (disch := (first | omega | (simp <;> omega) | fail)) [b0, b1, b2, b3, a0, a1, e1, e2, e3, eq_face, neq_face, hx, hnl, q1, q2, q3, q4, d5, d6', ft, callF_valid, callF_inverse, hp, hr, hpr, f1, f2, bld5, hil, hfl, q7, -List.getD_eq_getElem?_getD]) <;> rfl) ?_)
                exact Ans.done rfl
              | false =>
                repeat (first | (with_reducible refine Ans.bt ?_ ?_; exact rfl) | (with_reducible refine Ans.bf ?_ ?_; exact rfl) | (with_reducible refine Ans.ct ?_ ?_; focus (simp; done)) | (with_reducible refine Ans.cf ?_ ?_; focus (simp; done)) | refine Ans.step (by (simp (disch := (first | omega | (simp <;> omega) | fail)) [b0, b1, b2, b3, a0, a1, e1, e2, e3, eq_face, neq_face, hx, hnl, q1, q2, q3, q4, d5, ft, callF_valid, callF_inverse, hp, hr, hpr, f1, f2, bld5, hil, hfl, q7, -List.getD_eq_getElem?_getD]) <;> rfl) ?_)
                exact Ans.done rfl
            | false =>
              have ok := key _ q7
              obtain ⟨H', x1, x2⟩ := endF (c + 1 + 1 + 1 + 1 + 1 + 1) (by omega) ok
              refine Ans.step (v := ({ e := .ret, vs := [], h := H', c := c + 1 + 1 + 1 + 1 + 1 + 1, df := [] } : Rt FH)) ?_ x2
              apply Ans.eq
              cases X with
              | true =>
                have d6' := d6 rfl
                repeat (first | (with_reducible refine Ans.bt ?_ ?_; exact rfl) | (with_reducible refine Ans.bf ?_ ?_; exact rfl) | (with_reducible refine Ans.ct ?_ ?_; focus (simp; done)) | (with_reducible refine Ans.cf ?_ ?_; focus (simp; done)) | refine Ans.step (by (simp (disch := (first | omega | (simp <;> omega) | fail)) [b0, b1, b2, b3, a0, a1, e1, e2, e3, eq_face, neq_face, hx, hnl, q1, q2, q3, q4, d5, d6', ft, callF_valid, callF_inverse, hp, hr, hpr, f1, f2, bld5, hil, hfl, q7, x1, -List.getD_eq_getElem?_getD]) <;> rfl) ?_)
                exact Ans.done rfl
              | false =>
                repeat (first | (with_reducible refine Ans.bt ?_ ?_; exact rfl) | (with_reducible refine Ans.bf ?_ ?_; exact rfl) | (with_reducible refine Ans.ct ?_ ?_; focus (simp; done)) | (with_reducible refine Ans.cf ?_ ?_; focus (simp; done)) | refine Ans.step (by (simp (disch := (first | omega | (simp <;> omega) | fail)) [b0, b1, b2, b3, a0, a1, e1, e2, e3, eq_face, neq_face, hx, hnl, q1, q2, q3, q4, d5, ft, callF_valid, callF_inverse, hp, hr, hpr, f1, f2, bld5, hil, hfl, q7, x1, -List.getD_eq_getElem?_getD]) <;> rfl) ?_)
                exact Ans.done rfl
end Go.Proofs.Ytcnndelmnobigaa

namespace Go.Proofs.Ytcnndelmnobigaa
open Go Go.Ab Go.Proofs
set_option maxRecDepth 100000
set_option linter.unusedVariables false
set_option linter.unusedSimpArgs false
structure ChkI (s : Value) (n : Nat) (Gl : List Int) (gb gi rb nb l : Nat) (st : ALoop) (c0 ce : Nat) (h0 : FH) (k : Nat) (h : FH) (c : Nat) : Prop where
  lc : c0 ≤ c
  g : Holds h gb [s]
  i : Holds h gi [s]
  sl : SlI h c0 s 20 n Gl
  nn : Holds h nb (ints noneL)
  res : h.f rb = some (.cells false none [.int .i64 0])
  loop : h.f l = some (.loop st)
  dfr : h.f (l + 1) = some .dfr
  same : Same ce h0 h
  ok : okUpTo Gl n k
structure ChkJ (n : Nat) (Gl : List Int) (rb l : Nat) (st : ALoop) (c0 ce : Nat) (h0 : FH) (h : FH) (c : Nat) : Prop where
  lc : c0 ≤ c
  res : h.f rb = some (.cells false none [.int .i64 7])
  loop : h.f l = some (.loop { st with state := .done, pending := some .ret })
  dfr : h.f (l + 1) = some .dfr
  same : Same ce h0 h
  bad : ∃ j, j < 4 * n ∧ okFace Gl n (j / 4) (j % 4) = false
theorem check_sp (s : Value) (n : Nat) (Gl : List Int) (h0 : FH) (ce : Nat) (df : List Nat) (hs : SlI h0 ce s 20 n Gl) :
    G (.fn 70) [.agg #[s]] h0 ce df = some { e := .ret, vs := [.int .i64 (if n ≤ 1000 ∧ okAll Gl n = true then 0 else 7)], h := h0, c := ce, df := [] } := by
  refine pure_of (fun r e => f70_go e) (by simp) ?_
  have hflat : ((Value.agg #[s]).cells.toList.all isFlat) = true := by
    obtain ⟨_, _, a, cap, rfl, _⟩ := hs
    rfl
  have hcell : (Value.agg #[s]).cells.toList = [s] := rfl
  have hlen := hs.len
  unfold f70_S
  rw [hflat, hcell]
  simp only [cond_true]
  by_cases hn : n ≤ 1000
  · have hn' : ¬ (1000 : Int) < n := by omega
    have hbn : bldV [.int .i64 0, .int .i64 0, .int .i64 0, .int .i64 0, .int .i64 0] [(0, 1, .int .i64 (-1))] = some (av noneL) := rfl
    have hnl : noneL.length = 5 := rfl
    repeat (first | (with_reducible refine Ans.bt ?_ ?_; exact rfl) | (with_reducible refine Ans.bf ?_ ?_; exact rfl) | (with_reducible refine Ans.ct ?_ ?_; focus (simp; done)) | (with_reducible refine Ans.cf ?_ ?_; focus (simp; done)) | refine Ans.step (by (simp (disch := (first | omega | (simp <;> omega) | fail)) [hlen, hn', hbn, hnl, -List.getD_eq_getElem?_getD]) <;> rfl) ?_)
    obtain ⟨H, hH⟩ : ∃ H, H = newB (newB (newB h0 (256 * ce) [s]) (256 * ce + 1) [.int .i64 0]) (256 * (ce + 1 + 1) + 1) (ints noneL) := ⟨_, rfl⟩
    have hc130 : callF G 83 [.agg #[s]] H (ce + 1 + 1 + 1 + 1) = some (.func (.func 91) [].toArray [ptrTo (256 * (ce + 1 + 1 + 1 + 1))].toArray, newB H (256 * (ce + 1 + 1 + 1 + 1)) [s], ce + 1 + 1 + 1 + 1 + 1 + 1) := by
      refine callF_of (f83_go (r := { e := .ret, vs := [_], h := _, c := _, df := [] }) ?_)
      unfold f83_S
      rw [hflat, hcell]
      simp
    rw [← hH]
    refine Ans.step hc130 ?_
    dsimp only
    simp only [Nat.add_zero]
    obtain ⟨l, hl⟩ : ∃ l, l = 256 * (ce + 1 + 1 + 1 + 1 + 1 + 1) := ⟨_, rfl⟩
    obtain ⟨st, hst⟩ : ∃ st, st = entryL 71 [1, 2, 3] #[13, 14] f70_a70000 f70_c70000 [ptrTo (256 * ce), ptrTo (256 * ce + 1), ptrTo (256 * (ce + 1 + 1) + 1)] (l + 1) := ⟨_, rfl⟩
    have hI : FacesI (.func (.yield l) #[] #[]) s n Gl (256 * (ce + 1 + 1 + 1 + 1))
        (ChkI s n Gl (256 * ce) (256 * (ce + 1 + 1 + 1 + 1)) (256 * ce + 1) (256 * (ce + 1 + 1) + 1) l st (ce + 1 + 1 + 1 + 1 + 1 + 1 + 1) ce h0)
        (ChkJ n Gl (256 * ce + 1) l st (ce + 1 + 1 + 1 + 1 + 1 + 1 + 1) ce h0) := by
      refine ⟨fun k h c h' c' hi hc hs => ?_, fun h c h' c' hj hc hs => ?_, fun k h c hi => ⟨hi.i, hi.sl.mono hi.lc⟩, fun t f h c ht hf hi => ?_⟩
      · have := hi.lc
        exact ⟨by omega, hi.g.same (by omega) hs, hi.i.same (by omega) hs, hi.sl.same (hs.mono (by omega)), hi.nn.same (by omega) hs, (hs _ (by omega)).trans hi.res, (hs _ (by omega)).trans hi.loop, (hs _ (by omega)).trans hi.dfr, hi.same.trans (hs.mono (by omega)), hi.ok⟩
      · have := hj.lc
        exact ⟨by omega, (hs _ (by omega)).trans hj.res, (hs _ (by omega)).trans hj.loop, (hs _ (by omega)).trans hj.dfr, hj.same.trans (hs.mono (by omega)), hj.bad⟩
      · have hlc := hi.lc
        refine callV_yield (st := st) hi.loop (by rw [hst]; rfl) (by rw [hst]; rfl) ?_
        obtain ⟨r, hr, r1, r2, r3, r4, r5, r6⟩ := check_rnd s n Gl (256 * ce) (256 * ce + 1) (256 * (ce + 1 + 1) + 1) l (ce + 1 + 1 + 1 + 1 + 1 + 1 + 1) c st h hlc t f ht hf (by omega) (by omega) (by omega) (by omega) (by omega) (by omega) (by omega)
          hi.g hi.sl hi.nn hi.res hi.loop (by rw [hst]; rfl)
        have hk : G (.rnd st.nt st.lin st.fr st.params l st.assign st.body) ([av [(t : Int), (f : Int)], av (faceL Gl t f)] ++ st.vals) h c [] = some r := by rw [hst]; exact f70_G70000 hr
        refine .intro hk ⟨_, r4, r1, ?_⟩
        dsimp only
        have hk4 : (4 * t + f) / 4 = t ∧ (4 * t + f) % 4 = f := by omega
        have hold : ∀ b cs, b < 256 * c → b ≠ l → b ≠ 256 * ce + 1 → Holds h b cs → Holds r.h b cs := by
          intro b cs h1 h2 h3 ⟨ro, op, e⟩
          refine ⟨ro, op, ?_⟩
          have := r6 b h1 h2
          rw [if_neg (fun hh => h3 hh.1)] at this
          exact this.trans e
        cases hok : okFace Gl n t f with
        | true =>
          left
          rw [hok] at r5 r6
          refine ⟨rfl, ?_⟩
          have hfe : ∀ i, i < 256 * c → r.h.f i = h.f i := by
            intro i hi'
            by_cases e : i = l
            · rw [e, r5, hi.loop]; rw [hst]; rfl
            · rw [r6 i hi' e, if_neg (fun hh => by cases hh.2)]
          have hsm : Same c h r.h := hfe
          refine ⟨by omega, hi.g.same (by omega) hsm, hi.i.same (by omega) hsm, hi.sl.same (hsm.mono (by omega)), hi.nn.same (by omega) hsm, (hsm _ (by omega)).trans hi.res, (hsm _ (by omega)).trans hi.loop, (hsm _ (by omega)).trans hi.dfr, hi.same.trans (hsm.mono (by omega)), ?_⟩
          intro j hj
          by_cases e : j = 4 * t + f
          · rw [e, hk4.1, hk4.2]; exact hok
          · exact hi.ok j (by omega)
        | false =>
          right
          rw [hok] at r5 r6
          refine ⟨rfl, by omega, ?_, ?_, ?_, ?_, ⟨4 * t + f, by omega, by rw [hk4.1, hk4.2]; exact hok⟩⟩
          · rw [r6 _ (by omega) (by omega), if_pos ⟨rfl, rfl⟩]
          · rw [r5]; rfl
          · rw [r6 _ (by omega) (by omega), if_neg (by omega)]; exact hi.dfr
          · intro i hi'
            rw [r6 i (by omega) (by omega), if_neg (by omega)]
            exact hi.same i hi'
    have hH0 : ∀ i, i < 256 * ce → H.f i = h0.f i := by
      intro i hi'
      rw [hH, newB_f, if_neg (by omega), newB_f, if_neg (by omega), newB_f, if_neg (by omega)]
    obtain ⟨E, hE⟩ : ∃ E, E = entryH (newB H (256 * (ce + 1 + 1 + 1 + 1)) [s]) (ce + 1 + 1 + 1 + 1 + 1 + 1) 71 [1, 2, 3] #[13, 14] f70_a70000 f70_c70000 [ptrTo (256 * ce), ptrTo (256 * ce + 1), ptrTo (256 * (ce + 1 + 1) + 1)] := ⟨_, rfl⟩
    have hEf : ∀ i, i < l → E.f i = (newB H (256 * (ce + 1 + 1 + 1 + 1)) [s]).f i := by
      intro i hi'
      rw [hE, entryH_f, if_neg (by omega), if_neg (by omega)]
    have hI0 : ChkI s n Gl (256 * ce) (256 * (ce + 1 + 1 + 1 + 1)) (256 * ce + 1) (256 * (ce + 1 + 1) + 1) l st (ce + 1 + 1 + 1 + 1 + 1 + 1 + 1) ce h0 0 E (ce + 1 + 1 + 1 + 1 + 1 + 1 + 1) := by
      have hsame : Same ce h0 E := by
        intro i hi'
        rw [hEf i (by omega), newB_f, if_neg (by omega)]
        exact hH0 i hi'
      refine ⟨Nat.le_refl _, ⟨false, none, ?_⟩, ⟨false, none, ?_⟩, (hs.same hsame).mono (by omega), ⟨false, none, ?_⟩, ?_, ?_, ?_, hsame, fun j hj => by omega⟩
      · show E.f _ = _
        rw [hEf _ (by omega), newB_f, if_neg (by omega), hH, newB_f, if_neg (by omega), newB_f, if_neg (by omega), newB_f, if_pos rfl]
      · show E.f _ = _
        rw [hEf _ (by omega), newB_f, if_pos rfl]
      · show E.f _ = _
        rw [hEf _ (by omega), newB_f, if_neg (by omega), hH, newB_f, if_pos rfl]
      · rw [hEf _ (by omega), newB_f, if_neg (by omega), hH, newB_f, if_neg (by omega), newB_f, if_pos rfl]
      · rw [hE, entryH_f, if_pos hl, hst, hl]
      · rw [hE, entryH_f, if_neg (by omega), if_pos (by omega)]
    obtain ⟨⟨re, rv, rh, rc, rd⟩, hr, r1, r2, r3, r4, r5⟩ := faces_sp hI hI0 []
    simp only at r1 r2 r3 r4 r5
    subst r1 r2 r3
    rw [hl, hE] at hr
    rcases r5 with r5 | r5
    · have hall : okAll Gl n = true := (okAll_iff Gl n).2 r5.ok
      rw [if_pos ⟨hn, hall⟩]
      have hlc := r5.lc
      have hg : HeapC.get rh (256 * ce + 1) = some (.cells false none [.int .i64 0]) := r5.res
      refine Ans.head (R := fun q => q = (Ex.normal, HeapC.del rh l, rc, [l + 1])) (rangeV_of (.intro hr ⟨st, .normal, by rw [← hl]; exact r5.loop, by rw [hst]; simp [entryL], by rw [hst]; rfl, by rw [hl]⟩)) ?_
      rintro _ rfl
      have e1 : stN (HeapC.del rh l) 1 (.pointer (some ⟨256 * ce + 1, 0, none⟩)) (.int .i64 0) = some (HeapC.set (HeapC.del rh l) (256 * ce + 1) (.cells false none [.int .i64 0])) :=
        st1_get (cs := [.int .i64 0]) (by rw [get_del_ne _ _ _ (by omega)]; exact hg) (by simp) rfl rfl
      have e2 : takeAll (HeapC.set (HeapC.del rh l) (256 * ce + 1) (.cells false none [.int .i64 0])) [l + 1] = some (HeapC.del (HeapC.set (HeapC.del rh l) (256 * ce + 1) (.cells false none [.int .i64 0])) (l + 1)) := by
        have : HeapC.get (HeapC.set (HeapC.del rh l) (256 * ce + 1) (.cells false none [.int .i64 0])) (l + 1) = some .dfr := by
          rw [get_set_ne _ _ _ _ (by omega), get_del_ne _ _ _ (by omega)]; exact r5.dfr
        simp [takeAll, this]
      have e3 : ld1 (HeapC.del (HeapC.set (HeapC.del rh l) (256 * ce + 1) (.cells false none [.int .i64 0])) (l + 1)) (.pointer (some ⟨256 * ce + 1, 0, none⟩)) = some (.int .i64 0) := by
        rw [ld1_del_ne _ _ _ _ (by omega)]
        exact ld1_holds ⟨_, _, get_set_same _ _ _⟩ rfl
      repeat (first | (with_reducible refine Ans.bt ?_ ?_; exact rfl) | (with_reducible refine Ans.bf ?_ ?_; exact rfl) | (with_reducible refine Ans.ct ?_ ?_; focus (simp; done)) | (with_reducible refine Ans.cf ?_ ?_; focus (simp; done)) | refine Ans.step (by (simp (disch := (first | omega | (simp <;> omega) | fail)) [e1, e2, e3, -List.getD_eq_getElem?_getD]) <;> rfl) ?_)
      refine Ans.done ⟨rfl, rfl, ?_, rfl⟩
      intro i hi'
      show (HeapC.del (HeapC.set (HeapC.del rh l) (256 * ce + 1) (.cells false none [.int .i64 0])) (l + 1)).f i = _
      rw [del_f, if_neg (by omega), set_f, if_neg (by omega), del_f, if_neg (by omega)]
      exact r5.same i hi'
    · have hall : ¬ (n ≤ 1000 ∧ okAll Gl n = true) := by
        rintro ⟨_, h⟩
        obtain ⟨j, h1, h2⟩ := r5.bad
        have := (okAll_iff Gl n).1 h j h1
        rw [h2] at this; cases this
      rw [if_neg hall]
      have hlc := r5.lc
      have hg : HeapC.get rh (256 * ce + 1) = some (.cells false none [.int .i64 7]) := r5.res
      refine Ans.head (R := fun q => q = (Ex.ret, HeapC.del rh l, rc, [l + 1])) (rangeV_of (.intro hr ⟨_, .ret, by rw [← hl]; exact r5.loop, by simp, rfl, by rw [hl]⟩)) ?_
      rintro _ rfl
      have e2 : takeAll (HeapC.del rh l) [l + 1] = some (HeapC.del (HeapC.del rh l) (l + 1)) := by
        have : HeapC.get (HeapC.del rh l) (l + 1) = some .dfr := by
          rw [get_del_ne _ _ _ (by omega)]; exact r5.dfr
        simp [takeAll, this]
      have e3 : ld1 (HeapC.del (HeapC.del rh l) (l + 1)) (.pointer (some ⟨256 * ce + 1, 0, none⟩)) = some (.int .i64 7) := by
        rw [ld1_del_ne _ _ _ _ (by omega), ld1_del_ne _ _ _ _ (by omega)]
        exact ld1_holds ⟨_, _, hg⟩ rfl
      repeat (first | (with_reducible refine Ans.bt ?_ ?_; exact rfl) | (with_reducible refine Ans.bf ?_ ?_; exact rfl) | (with_reducible refine Ans.ct ?_ ?_; focus (simp; done)) | (with_reducible refine Ans.cf ?_ ?_; focus (simp; done)) | refine Ans.step (by (simp (disch := (first | omega | (simp <;> omega) | fail)) [e2, e3, -List.getD_eq_getElem?_getD]) <;> rfl) ?_)
      refine Ans.done ⟨rfl, rfl, ?_, rfl⟩
      intro i hi'
      show (HeapC.del (HeapC.del rh l) (l + 1)).f i = _
      rw [del_f, if_neg (by omega), del_f, if_neg (by omega)]
      exact r5.same i hi'
  · have hn' : (1000 : Int) < n := by omega
    have : ¬ (n ≤ 1000 ∧ okAll Gl n = true) := fun h => hn h.1
    rw [if_neg this]
    repeat (first | (with_reducible refine Ans.bt ?_ ?_; exact rfl) | (with_reducible refine Ans.bf ?_ ?_; exact rfl) | (with_reducible refine Ans.ct ?_ ?_; focus (simp; done)) | (with_reducible refine Ans.cf ?_ ?_; focus (simp; done)) | refine Ans.step (by (simp (disch := (first | omega | (simp <;> omega) | fail)) [hlen, hn', -List.getD_eq_getElem?_getD]) <;> rfl) ?_)
    refine Ans.done ?_
    simp (disch := omega)
end Go.Proofs.Ytcnndelmnobigaa

namespace Go.Ab
open Go
set_option linter.unusedVariables false
set_option linter.unusedSimpArgs false
variable {P : Program}
theorem Ans.dt {β : Type} {p : Prop} [Decidable p] {x y : Option β} {Q : β → Prop} (h : p) (k : Ans x Q) : Ans (boolK (.bool (decide p)) x y) Q := by rw [decide_eq_true h]; exact k
theorem Ans.df {β : Type} {p : Prop} [Decidable p] {x y : Option β} {Q : β → Prop} (h : ¬p) (k : Ans y Q) : Ans (boolK (.bool (decide p)) x y) Q := by rw [decide_eq_false h]; exact k
theorem Ans.nt {β : Type} {p : Prop} [Decidable p] {x y : Option β} {Q : β → Prop} (h : ¬p) (k : Ans x Q) : Ans (boolK (.bool (!decide p)) x y) Q := by rw [decide_eq_false h]; exact k
theorem Ans.nf {β : Type} {p : Prop} [Decidable p] {x y : Option β} {Q : β → Prop} (h : p) (k : Ans y Q) : Ans (boolK (.bool (!decide p)) x y) Q := by rw [decide_eq_true h]; exact k
theorem Ans.ds {β : Type} {p : Prop} [Decidable p] {x y : Option β} {Q : β → Prop} (h1 : p → Ans x Q) (h2 : ¬p → Ans y Q) : Ans (boolK (.bool (decide p)) x y) Q := by
  by_cases h : p
  · exact .dt h (h1 h)
  · exact .df h (h2 h)
theorem Ans.ns {β : Type} {p : Prop} [Decidable p] {x y : Option β} {Q : β → Prop} (h1 : ¬p → Ans x Q) (h2 : p → Ans y Q) : Ans (boolK (.bool (!decide p)) x y) Q := by
  by_cases h : p
  · exact .nf h (h2 h)
  · exact .nt h (h1 h)
theorem Ans.hs {β : Type} {b : Bool} {x y : Option β} {Q : β → Prop} (h1 : b = true → Ans x Q) (h2 : b = false → Ans y Q) : Ans (boolK (.bool b) x y) Q := by
  cases h : b with
  | true => exact h1 h
  | false => exact h2 h
theorem Ans.ms {β : Type} {b : Bool} {x y : Option β} {Q : β → Prop} (h1 : b = false → Ans x Q) (h2 : b = true → Ans y Q) : Ans (boolK (.bool (!b)) x y) Q := by
  cases h : b with
  | true => exact h2 h
  | false => exact h1 h
theorem Ans.bb {α β : Type} {v : Value} {x y : Option α} {f : α → Option β} {Q : β → Prop} (h : Ans (boolK v (x.bind f) (y.bind f)) Q) : Ans ((boolK v x y).bind f) Q := by
  cases v <;> first | exact h | skip
  rename_i b
  cases b <;> exact h
theorem Ans.bc {α β : Type} {v : Bool} {x y : Option α} {f : α → Option β} {Q : β → Prop} (h : Ans (cond v (x.bind f) (y.bind f)) Q) : Ans ((cond v x y).bind f) Q := by cases v <;> exact h
theorem Ans.ba {α β γ : Type} {x : Option α} {g : α → Option β} {f : β → Option γ} {Q : γ → Prop} (h : Ans (x.bind fun a => (g a).bind f) Q) : Ans ((x.bind g).bind f) Q := by
  cases x <;> exact h
theorem Ans.bz {α β : Type} {a : α} {f : α → Option β} {Q : β → Prop} (h : Ans (f a) Q) : Ans ((some a).bind f) Q := h
theorem Ans.lsT {β : Type} {k : IntKind} {ty : TypeId} {a b : Int} {f : Value → Option β} {Q : β → Prop} (h : a < b) (x : Ans (f (.bool true)) Q) : Ans ((aBinOp P .lss ty (.int k a) (.int k b)).bind f) Q := Ans.step (by rw [aBinOp_lss, decide_eq_true h]) x
theorem Ans.lsF {β : Type} {k : IntKind} {ty : TypeId} {a b : Int} {f : Value → Option β} {Q : β → Prop} (h : ¬(a < b)) (x : Ans (f (.bool false)) Q) : Ans ((aBinOp P .lss ty (.int k a) (.int k b)).bind f) Q := Ans.step (by rw [aBinOp_lss, decide_eq_false h]) x
theorem Ans.lsS {β : Type} {k : IntKind} {ty : TypeId} {a b : Int} {f : Value → Option β} {Q : β → Prop} (h1 : a < b → Ans (f (.bool true)) Q) (h2 : ¬(a < b) → Ans (f (.bool false)) Q) : Ans ((aBinOp P .lss ty (.int k a) (.int k b)).bind f) Q := if h : a < b then Ans.lsT h (h1 h) else Ans.lsF h (h2 h)
theorem Ans.leT {β : Type} {k : IntKind} {ty : TypeId} {a b : Int} {f : Value → Option β} {Q : β → Prop} (h : a ≤ b) (x : Ans (f (.bool true)) Q) : Ans ((aBinOp P .leq ty (.int k a) (.int k b)).bind f) Q := Ans.step (by rw [aBinOp_leq, decide_eq_true h]) x
theorem Ans.leF {β : Type} {k : IntKind} {ty : TypeId} {a b : Int} {f : Value → Option β} {Q : β → Prop} (h : ¬(a ≤ b)) (x : Ans (f (.bool false)) Q) : Ans ((aBinOp P .leq ty (.int k a) (.int k b)).bind f) Q := Ans.step (by rw [aBinOp_leq, decide_eq_false h]) x
theorem Ans.leS {β : Type} {k : IntKind} {ty : TypeId} {a b : Int} {f : Value → Option β} {Q : β → Prop} (h1 : a ≤ b → Ans (f (.bool true)) Q) (h2 : ¬(a ≤ b) → Ans (f (.bool false)) Q) : Ans ((aBinOp P .leq ty (.int k a) (.int k b)).bind f) Q := if h : a ≤ b then Ans.leT h (h1 h) else Ans.leF h (h2 h)
theorem Ans.grT {β : Type} {k : IntKind} {ty : TypeId} {a b : Int} {f : Value → Option β} {Q : β → Prop} (h : b < a) (x : Ans (f (.bool true)) Q) : Ans ((aBinOp P .gtr ty (.int k a) (.int k b)).bind f) Q := Ans.step (by rw [aBinOp_gtr, decide_eq_true h]) x
theorem Ans.grF {β : Type} {k : IntKind} {ty : TypeId} {a b : Int} {f : Value → Option β} {Q : β → Prop} (h : ¬(b < a)) (x : Ans (f (.bool false)) Q) : Ans ((aBinOp P .gtr ty (.int k a) (.int k b)).bind f) Q := Ans.step (by rw [aBinOp_gtr, decide_eq_false h]) x
theorem Ans.grS {β : Type} {k : IntKind} {ty : TypeId} {a b : Int} {f : Value → Option β} {Q : β → Prop} (h1 : b < a → Ans (f (.bool true)) Q) (h2 : ¬(b < a) → Ans (f (.bool false)) Q) : Ans ((aBinOp P .gtr ty (.int k a) (.int k b)).bind f) Q := if h : b < a then Ans.grT h (h1 h) else Ans.grF h (h2 h)
theorem Ans.geT {β : Type} {k : IntKind} {ty : TypeId} {a b : Int} {f : Value → Option β} {Q : β → Prop} (h : b ≤ a) (x : Ans (f (.bool true)) Q) : Ans ((aBinOp P .geq ty (.int k a) (.int k b)).bind f) Q := Ans.step (by rw [aBinOp_geq, decide_eq_true h]) x
theorem Ans.geF {β : Type} {k : IntKind} {ty : TypeId} {a b : Int} {f : Value → Option β} {Q : β → Prop} (h : ¬(b ≤ a)) (x : Ans (f (.bool false)) Q) : Ans ((aBinOp P .geq ty (.int k a) (.int k b)).bind f) Q := Ans.step (by rw [aBinOp_geq, decide_eq_false h]) x
theorem Ans.geS {β : Type} {k : IntKind} {ty : TypeId} {a b : Int} {f : Value → Option β} {Q : β → Prop} (h1 : b ≤ a → Ans (f (.bool true)) Q) (h2 : ¬(b ≤ a) → Ans (f (.bool false)) Q) : Ans ((aBinOp P .geq ty (.int k a) (.int k b)).bind f) Q := if h : b ≤ a then Ans.geT h (h1 h) else Ans.geF h (h2 h)
theorem Ans.eqT {β : Type} {k : IntKind} {ty : TypeId} {a b : Int} {f : Value → Option β} {Q : β → Prop} (h : a = b) (x : Ans (f (.bool true)) Q) : Ans ((aBinOp P .eql ty (.int k a) (.int k b)).bind f) Q := Ans.step (by rw [aBinOp_eql, decide_eq_true h]) x
theorem Ans.eqF {β : Type} {k : IntKind} {ty : TypeId} {a b : Int} {f : Value → Option β} {Q : β → Prop} (h : ¬(a = b)) (x : Ans (f (.bool false)) Q) : Ans ((aBinOp P .eql ty (.int k a) (.int k b)).bind f) Q := Ans.step (by rw [aBinOp_eql, decide_eq_false h]) x
theorem Ans.eqS {β : Type} {k : IntKind} {ty : TypeId} {a b : Int} {f : Value → Option β} {Q : β → Prop} (h1 : a = b → Ans (f (.bool true)) Q) (h2 : ¬(a = b) → Ans (f (.bool false)) Q) : Ans ((aBinOp P .eql ty (.int k a) (.int k b)).bind f) Q := if h : a = b then Ans.eqT h (h1 h) else Ans.eqF h (h2 h)
theorem Ans.neT {β : Type} {k : IntKind} {ty : TypeId} {a b : Int} {f : Value → Option β} {Q : β → Prop} (h : ¬(a = b)) (x : Ans (f (.bool true)) Q) : Ans ((aBinOp P .neq ty (.int k a) (.int k b)).bind f) Q := Ans.step (by rw [aBinOp_neq, decide_eq_false h]; rfl) x
theorem Ans.neF {β : Type} {k : IntKind} {ty : TypeId} {a b : Int} {f : Value → Option β} {Q : β → Prop} (h : a = b) (x : Ans (f (.bool false)) Q) : Ans ((aBinOp P .neq ty (.int k a) (.int k b)).bind f) Q := Ans.step (by rw [aBinOp_neq, decide_eq_true h]; rfl) x
theorem Ans.neS {β : Type} {k : IntKind} {ty : TypeId} {a b : Int} {f : Value → Option β} {Q : β → Prop} (h1 : ¬(a = b) → Ans (f (.bool true)) Q) (h2 : a = b → Ans (f (.bool false)) Q) : Ans ((aBinOp P .neq ty (.int k a) (.int k b)).bind f) Q := if h : a = b then Ans.neF h (h2 h) else Ans.neT h (h1 h)
theorem Ans.add {β : Type} {ty : TypeId} {a b : Int} {f : Value → Option β} {Q : β → Prop} (h : -9223372036854775808 ≤ a + b ∧ a + b < 9223372036854775808) (x : Ans (f (.int .i64 (a + b))) Q) : Ans ((aBinOp P .add ty (.int .i64 a) (.int .i64 b)).bind f) Q := Ans.step (aBinOp_add ty a b h.1 h.2) x
theorem Ans.sub {β : Type} {ty : TypeId} {a b : Int} {f : Value → Option β} {Q : β → Prop} (h : -9223372036854775808 ≤ a - b ∧ a - b < 9223372036854775808) (x : Ans (f (.int .i64 (a - b))) Q) : Ans ((aBinOp P .sub ty (.int .i64 a) (.int .i64 b)).bind f) Q := Ans.step (aBinOp_sub ty a b h.1 h.2) x
theorem Ans.mul {β : Type} {ty : TypeId} {a b : Int} {f : Value → Option β} {Q : β → Prop} (h : -9223372036854775808 ≤ a * b ∧ a * b < 9223372036854775808) (x : Ans (f (.int .i64 (a * b))) Q) : Ans ((aBinOp P .mul ty (.int .i64 a) (.int .i64 b)).bind f) Q := Ans.step (aBinOp_mul ty a b h.1 h.2) x
theorem Ans.addN {β : Type} {ty : TypeId} {a : Nat} {f : Value → Option β} {Q : β → Prop} (h : (a : Int) < 9223372036854775807) (x : Ans (f (.int .i64 ((a + 1 : Nat) : Int))) Q) : Ans ((aBinOp P .add ty (.int .i64 (a : Int)) (.int .i64 1)).bind f) Q := Ans.step (aBinOp_add ty a 1 (by omega) (by omega)) x
theorem Ans.bF {β : Type} {op : BinOp} {ty : TypeId} {a b : Value} {p : Prop} [Decidable p] {f : Value → Option β} {Q : β → Prop} (e : aBinOp P op ty a b = some (.bool (decide p))) (h : ¬p) (x : Ans (f (.bool false)) Q) : Ans ((aBinOp P op ty a b).bind f) Q := Ans.step (by rw [e, decide_eq_false h]) x
theorem Ans.oT {β : Type} {op : BinOp} {ty : TypeId} {a b : Value} {t : Bool} {f : Value → Option β} {Q : β → Prop} (e : aBinOp P op ty a b = some (.bool t)) (ht : t = true) (x : Ans (f (.bool true)) Q) : Ans ((aBinOp P op ty a b).bind f) Q := Ans.step (by rw [e, ht]) x
theorem Ans.oF {β : Type} {op : BinOp} {ty : TypeId} {a b : Value} {t : Bool} {f : Value → Option β} {Q : β → Prop} (e : aBinOp P op ty a b = some (.bool t)) (ht : t = false) (x : Ans (f (.bool false)) Q) : Ans ((aBinOp P op ty a b).bind f) Q := Ans.step (by rw [e, ht]) x
theorem Ans.oS {β : Type} {op : BinOp} {ty : TypeId} {a b : Value} {t : Bool} {f : Value → Option β} {Q : β → Prop} (e : aBinOp P op ty a b = some (.bool t)) (h1 : t = true → Ans (f (.bool true)) Q) (h2 : t = false → Ans (f (.bool false)) Q) : Ans ((aBinOp P op ty a b).bind f) Q := by
  cases ht : t with
  | true => exact Ans.oT e ht (h1 ht)
  | false => exact Ans.oF e ht (h2 ht)
theorem Ans.gyT {α β : Type} {b : Bool} {X Y : Option α} {f : α → Option β} {Q : β → Prop} (h : Ans (X.bind f) Q) : Ans (((gv (.bool b) b).bind fun w => cond w X Y).bind f) Q := by
  cases b <;> exact h
theorem Ans.gyF {α β : Type} {X Y : Option α} {f : α → Option β} {Q : β → Prop} (h : Ans (Y.bind f) Q) : Ans (((gv (.bool true) false).bind fun w => cond w X Y).bind f) Q := h
theorem Ans.gyG {α β : Type} {X Y : Option α} {f : α → Option β} {Q : β → Prop} (h : Ans (Y.bind f) Q) : Ans (((gv (.bool false) true).bind fun w => cond w X Y).bind f) Q := h
theorem Ans.r1 {β : Type} {h : FH} {c : Nat} {x : Option Value} {f : Value × FH × Nat → Option β} {Q : β → Prop} (e : Ans (x.bind fun v => f (v, h, c)) Q) : Ans ((ret1 h c x).bind f) Q := by
  cases x <;> exact e
theorem Ans.pkT {β : Type} {a b : Value} {f : Value → Option β} {Q : β → Prop} (e : Ans (f a) Q) : Ans ((pickV (.bool true) a b).bind f) Q := e
theorem Ans.pkF {β : Type} {a b : Value} {f : Value → Option β} {Q : β → Prop} (e : Ans (f b) Q) : Ans ((pickV (.bool false) a b).bind f) Q := e
theorem Ans.btL {β : Type} {x y : Option β} {Q : β → Prop} (k : Ans x Q) : Ans (boolK (.bool true) x y) Q := k
theorem Ans.bfL {β : Type} {x y : Option β} {Q : β → Prop} (k : Ans y Q) : Ans (boolK (.bool false) x y) Q := k
def Lk (o : Orc FH) (k : Key) (Q : Rt FH → Prop) (q : Rt FH) : Prop := if q.e = .normal then Ans (o k q.vs q.h q.c q.df) Q else Q q
theorem Ans.loop {o : Orc FH} {k : Key} {L X : Option (Rt FH)} {h : FH} {c : Nat} {df : List Nat} {Q : Rt FH → Prop}
    (N : ∀ q r, L = some q → q.e = .normal → o k q.vs (gcR h c df q).h (gcR h c df q).c q.df = some r → X = some r)
    (Z : ∀ q, L = some q → q.e ≠ .normal → X = some (gcR h c df q))
    (e : Ans L (fun q => Lk o k Q (gcR h c df q))) : Ans X Q := by
  obtain ⟨q, hq, hl⟩ := e
  unfold Lk at hl
  rw [gcR_e, gcR_vs, gcR_df] at hl
  by_cases hn : q.e = .normal
  · rw [if_pos hn] at hl
    obtain ⟨r, hr, h2⟩ := hl
    exact ⟨r, N q r hq hn hr, h2⟩
  · rw [if_neg hn] at hl
    exact ⟨_, Z q hq hn, hl⟩
theorem Ans.loop' {o : Orc FH} {k : Key} {L X : Option (Rt FH)} {Q : Rt FH → Prop}
    (N : ∀ q r, L = some q → q.e = .normal → o k q.vs q.h q.c q.df = some r → X = some r)
    (Z : ∀ q, L = some q → q.e ≠ .normal → X = some q)
    (e : Ans L (fun q => Lk o k Q q)) : Ans X Q := by
  obtain ⟨q, hq, hl⟩ := e
  unfold Lk at hl
  by_cases hn : q.e = .normal
  · rw [if_pos hn] at hl
    obtain ⟨r, hr, h2⟩ := hl
    exact ⟨r, N q r hq hn hr, h2⟩
  · rw [if_neg hn] at hl
    exact ⟨_, Z q hq hn, hl⟩
theorem Lk.next {o : Orc FH} {k : Key} {Q : Rt FH → Prop} {vs : List Value} {h : FH} {c : Nat} {df : List Nat} (e : Ans (o k vs h c df) Q) : Lk o k Q { e := .normal, vs := vs, h := h, c := c, df := df } := by
  unfold Lk; rw [if_pos rfl]; exact e
theorem Lk.exit {o : Orc FH} {k : Key} {Q : Rt FH → Prop} {i : Nat} {vs : List Value} {h : FH} {c : Nat} {df : List Nat} (e : Q { e := .exit i, vs := vs, h := h, c := c, df := df }) : Lk o k Q { e := .exit i, vs := vs, h := h, c := c, df := df } := by
  unfold Lk; rw [if_neg (by simp)]; exact e
theorem Lk.ret {o : Orc FH} {k : Key} {Q : Rt FH → Prop} {vs : List Value} {h : FH} {c : Nat} {df : List Nat} (e : Q { e := .ret, vs := vs, h := h, c := c, df := df }) : Lk o k Q { e := .ret, vs := vs, h := h, c := c, df := df } := by
  unfold Lk; rw [if_neg (by simp)]; exact e
theorem Ans.next0 {o : Orc FH} {k : Key} {Q : Rt FH → Prop} {A h : FH} {c c' : Nat} {vs : List Value} {df : List Nat} (h1 : OkVs c vs) (h2 : Same c A h) (e : Ans (o k vs A c df) Q) :
    Ans (some { e := .normal, vs := vs, h := h, c := c', df := df }) (fun q => Lk o k Q (gcR A c df q)) := .done (by rw [gcR_pure h1 h2]; exact .next e)
theorem Ans.exit0 {o : Orc FH} {k : Key} {Q : Rt FH → Prop} {A h : FH} {c c' : Nat} {vs : List Value} {df : List Nat} {i : Nat} (h1 : OkVs c vs) (h2 : Same c A h) (e : Q { e := .exit i, vs := vs, h := A, c := c, df := df }) :
    Ans (some { e := .exit i, vs := vs, h := h, c := c', df := df }) (fun q => Lk o k Q (gcR A c df q)) := .done (by rw [gcR_pure h1 h2]; exact .exit e)
theorem Ans.ret0 {o : Orc FH} {k : Key} {Q : Rt FH → Prop} {A h : FH} {c c' : Nat} {vs : List Value} {df : List Nat} (h1 : OkVs c vs) (h2 : Same c A h) (e : Q { e := .ret, vs := vs, h := A, c := c, df := df }) :
    Ans (some { e := .ret, vs := vs, h := h, c := c', df := df }) (fun q => Lk o k Q (gcR A c df q)) := .done (by rw [gcR_pure h1 h2]; exact .ret e)
theorem Ans.nextB {o : Orc FH} {k : Key} {Q : Rt FH → Prop} {A B h : FH} {c c' : Nat} {vs : List Value} {df : List Nat} (e : Ans (o k vs B c df) Q) (h1 : OkVs c vs) (h2 : Same c B h) (h3 : Upto c A B) :
    Ans (some { e := .normal, vs := vs, h := h, c := c', df := df }) (fun q => Lk o k Q (gcR A c df q)) := .done (by rw [gcR_to h1 h2 h3]; exact .next e)
theorem Ans.retB {o : Orc FH} {k : Key} {Q : Rt FH → Prop} {A B h : FH} {c c' : Nat} {vs : List Value} {df : List Nat} (e : Q { e := .ret, vs := vs, h := B, c := c, df := df }) (h1 : OkVs c vs) (h2 : Same c B h) (h3 : Upto c A B) :
    Ans (some { e := .ret, vs := vs, h := h, c := c', df := df }) (fun q => Lk o k Q (gcR A c df q)) := .done (by rw [gcR_to h1 h2 h3]; exact .ret e)
theorem Ans.nextN {o : Orc FH} {k : Key} {Q : Rt FH → Prop} {h : FH} {c : Nat} {vs : List Value} {df : List Nat} (e : Ans (o k vs h c df) Q) :
    Ans (some { e := .normal, vs := vs, h := h, c := c, df := df }) (fun q => Lk o k Q q) := .done (.next e)
theorem Ans.exitN {o : Orc FH} {k : Key} {Q : Rt FH → Prop} {h : FH} {c : Nat} {vs : List Value} {df : List Nat} {i : Nat} (e : Q { e := .exit i, vs := vs, h := h, c := c, df := df }) :
    Ans (some { e := .exit i, vs := vs, h := h, c := c, df := df }) (fun q => Lk o k Q q) := .done (.exit e)
theorem Ans.retN {o : Orc FH} {k : Key} {Q : Rt FH → Prop} {h : FH} {c : Nat} {vs : List Value} {df : List Nat} (e : Q { e := .ret, vs := vs, h := h, c := c, df := df }) :
    Ans (some { e := .ret, vs := vs, h := h, c := c, df := df }) (fun q => Lk o k Q q) := .done (.ret e)
theorem OkV.mono {c c' : Nat} {v : Value} (hc : c ≤ c') (h : OkV c v) : OkV c' v := by
  obtain ⟨v', hv⟩ := h
  exact ⟨_, VR.mono (μ' := nuD c') (fun i m e => by
    have := nuD_dom (c := c) (i := i) (by rw [e]; simp)
    rw [nuD_of this] at e
    rw [nuD_of (by omega)]; exact e) hv⟩
theorem OkV.fn (c : Nat) (g : FuncId) : OkV c (.func (.func g) #[] #[]) := ⟨.func (.func g) #[] #[], .fnc g rfl rfl (fun k x y h => by simp at h) (fun k x y h => by simp at h)⟩
@[simp] theorem extV_20 (a b : Value) : extV (.tuple #[a, b]) 0 = some a := rfl
@[simp] theorem extV_21 (a b : Value) : extV (.tuple #[a, b]) 1 = some b := rfl
@[simp] theorem extV_30 (a b c : Value) : extV (.tuple #[a, b, c]) 0 = some a := rfl
@[simp] theorem extV_31 (a b c : Value) : extV (.tuple #[a, b, c]) 1 = some b := rfl
@[simp] theorem extV_32 (a b c : Value) : extV (.tuple #[a, b, c]) 2 = some c := rfl
def blkOf : Value → Nat
  | .slice (some a) _ _ => a.block
  | _ => 0
def offOf : Value → Nat
  | .slice (some a) _ _ => a.off
  | _ => 0
def capOf : Value → Nat
  | .slice _ _ k => k
  | _ => 0
@[simp] theorem blkOf_sl (b o n k : Nat) : blkOf (.slice (some ⟨b, o, none⟩) n k) = b := rfl
@[simp] theorem offOf_sl (b o n k : Nat) : offOf (.slice (some ⟨b, o, none⟩) n k) = o := rfl
def gi (L : List Int) (i : Int) : Int := L.getD i.toNat 0
theorem gi_nat (L : List Int) (i : Nat) : gi L i = L.getD i 0 := rfl
theorem SlI.blk {h : FH} {c : Nat} {s : Value} {sz n : Nat} {L : List Int} (hs : SlI h c s sz n L) : 0 < n → blkOf s < 256 * c := by
  obtain ⟨g1, g2, a, cap, rfl, h4⟩ := hs
  intro hn
  rcases h4 with ⟨e, hv⟩ | ⟨b, o, cs, rfl, e2, e3, e4⟩
  · omega
  · exact e2
theorem SlI.ixs {h : FH} {c : Nat} {s : Value} {sz n : Nat} {L : List Int} (hs : SlI h c s sz n L) (k : IntKind) (i : Int) (h1 : 0 ≤ i) (h2 : i < (n : Int)) :
    ixS sz s (.int k i) = some (.pointer (some ⟨blkOf s, offOf s + i.toNat * sz, none⟩)) := by
  obtain ⟨g1, g2, a, cap, rfl, h4⟩ := hs
  rcases h4 with ⟨e, hv⟩ | ⟨b, o, cs, rfl, e2, e3, e4⟩
  · omega
  · exact ixS_sl sz b o n cap k i h1 h2
theorem SlI.rd {h : FH} {c : Nat} {s : Value} {sz n : Nat} {L : List Int} (hs : SlI h c s sz n L) (j : Nat) (hj : j < n * sz) :
    ld1 h (.pointer (some ⟨blkOf s, offOf s + j, none⟩)) = some (.int .i64 (L.getD j 0)) := by
  obtain ⟨g1, g2, a, cap, rfl, h4⟩ := hs
  rcases h4 with ⟨e, hv⟩ | ⟨b, o, cs, rfl, e2, e3, e4⟩
  · rw [e, Nat.zero_mul] at hj; omega
  · exact ld1_win e3 e4 (by omega)
theorem SlI.ixs1 {h : FH} {c : Nat} {s : Value} {n : Nat} {L : List Int} (hs : SlI h c s 1 n L) (k : IntKind) (i : Int) (h1 : 0 ≤ i) (h2 : i < (n : Int)) :
    ixS 1 s (.int k i) = some (.pointer (some ⟨blkOf s, offOf s + i.toNat, none⟩)) := by rw [hs.ixs k i h1 h2, Nat.mul_one]
theorem SlI.rdi {h : FH} {c : Nat} {s : Value} {n : Nat} {L : List Int} (hs : SlI h c s 1 n L) (i : Int) (h1 : 0 ≤ i) (h2 : i < (n : Int)) :
    ld1 h (.pointer (some ⟨blkOf s, offOf s + i.toNat, none⟩)) = some (.int .i64 (gi L i)) := by
  rw [hs.rd _ (by omega)]; rfl
theorem SlI.rdN {h : FH} {c : Nat} {s : Value} {sz n : Nat} {L : List Int} (hs : SlI h c s sz n L) (q j : Nat) (hq : 0 < q) (hj : j + q ≤ n * sz) :
    ldN h q (.pointer (some ⟨blkOf s, offOf s + j, none⟩)) = some (av ((L.drop j).take q)) := by
  obtain ⟨g1, g2, a, cap, rfl, h4⟩ := hs
  rcases h4 with ⟨e, hv⟩ | ⟨b, o, cs, rfl, e2, e3, e4⟩
  · rw [e, Nat.zero_mul] at hj; omega
  · exact ldN_win e3 e4 (by omega) hq
theorem SlI.row {h : FH} {c : Nat} {s : Value} {n : Nat} {L : List Int} (hs : SlI h c s 20 n L) (t : Int) (h1 : 0 ≤ t) (h2 : t < (n : Int)) :
    ldN h 20 (.pointer (some ⟨blkOf s, offOf s + t.toNat * 20, none⟩)) = some (av (rowL L t.toNat)) := by
  rw [hs.rdN 20 _ (by omega) (by omega)]
  unfold rowL
  rw [Nat.mul_comm 20]
def permAt (Pm : List Int) (i : Nat) : List Int := (Pm.drop (4 * i)).take 4
theorem permAt_length {Pm : List Int} {n i : Nat} (h : Pm.length = n * 4) (hi : i < n) : (permAt Pm i).length = 4 := by simp [permAt]; omega
theorem SlI.keep {h h' : FH} {c : Nat} {s : Value} {sz n : Nat} {L : List Int} (hs : SlI h c s sz n L) (hh : 0 < n → h'.f (blkOf s) = h.f (blkOf s)) : SlI h' c s sz n L := by
  by_cases hn : 0 < n
  · obtain ⟨h1, h2, a, cap, rfl, h4⟩ := hs
    refine ⟨h1, h2, a, cap, rfl, ?_⟩
    rcases h4 with ⟨e, hv⟩ | ⟨b, o, cs, rfl, e2, ⟨ro, op, e3⟩, e4⟩
    · omega
    · exact .inr ⟨b, o, cs, rfl, e2, ⟨ro, op, (hh hn).trans e3⟩, e4⟩
  · have ho := hs.okV
    obtain ⟨h1, h2, a, cap, rfl, h4⟩ := hs
    exact ⟨h1, h2, a, cap, rfl, .inl ⟨by omega, ho⟩⟩
theorem SlI.nil (h : FH) (c sz : Nat) : SlI h c (.slice none 0 0) sz 0 [] := ⟨by simp, by omega, none, 0, rfl, .inl ⟨rfl, OkV.sl0 _ _ _⟩⟩
theorem SlI.flat {h : FH} {c : Nat} {s : Value} {sz n : Nat} {L : List Int} (hs : SlI h c s sz n L) : isFlat s = true := by
  obtain ⟨_, _, a, cap, rfl, _⟩ := hs
  rfl
theorem zeros_one (v : Value) : ∀ n : Nat, zeros [v] n = List.replicate n v
  | 0 => rfl
  | n + 1 => by rw [zeros, zeros_one v n]; rfl
theorem mkS_any (sz by' : Nat) (z : List Value) (k k' : IntKind) (n : Nat) (h : by' * n ≤ 281474976710656) (h2 : n ≤ 281474976710656) : mkS sz by' z (.int k (n : Int)) (.int k' (n : Int)) = some (zeros z n, n, n) := by
  have h3 : (by' : Int) * (n : Int) ≤ 281474976710656 := by rw [← Int.natCast_mul]; omega
  have h4 : (n : Int) ≤ 281474976710656 := by omega
  have h5 : (0 : Int) ≤ n := by omega
  simp only [mkS, aInt, Option.bind_some, decide_eq_true h3, decide_eq_true h4, decide_eq_true h5, decide_eq_true (Int.le_refl (n : Int)), Bool.and_self, cond_true, Int.toNat_natCast]
theorem mkS_int (sz by' : Nat) (k k' : IntKind) (n : Nat) (h : by' * n ≤ 281474976710656) (h2 : n ≤ 281474976710656) : mkS sz by' [.int .i64 0] (.int k (n : Int)) (.int k' (n : Int)) = some (ints (List.replicate n 0), n, n) := by
  rw [mkS_any sz by' _ k k' n h h2, zeros_one, ints, List.map_replicate]
theorem mkS_bool (sz by' : Nat) (k k' : IntKind) (n : Nat) (h : by' * n ≤ 281474976710656) (h2 : n ≤ 281474976710656) : mkS sz by' [.bool false] (.int k (n : Int)) (.int k' (n : Int)) = some (bools (List.replicate n false), n, n) := by
  rw [mkS_any sz by' _ k k' n h h2, zeros_one, bools, List.map_replicate]
def Own (h : FH) (b : Nat) (op : Option Nat) (cs : List Value) : Prop := HeapC.get h b = some (.cells false op cs)
theorem Own.same {h h' : FH} {c b : Nat} {op : Option Nat} {cs : List Value} (hb : b < 256 * c) (hs : Same c h h') (e : Own h b op cs) : Own h' b op cs := (hs b hb).trans e
theorem Own.new (h : FH) (b : Nat) (cs : List Value) : Own (newB h b cs) b none cs := get_newB_same h b cs
theorem Own.set (h : FH) (b : Nat) (op : Option Nat) (cs : List Value) : Own (HeapC.set h b (.cells false op cs)) b op cs := get_set_same h b _
theorem newB_eq_set (h : FH) (b : Nat) (cs : List Value) : newB h b cs = HeapC.set h b (.cells false none cs) := rfl
theorem Upto.set {c b : Nat} {A B : FH} {op : Option Nat} {ro : Bool} {cs : List Value} (hb : b < 256 * c) (hc : OkVs c cs) (h : Upto c A B) : Upto c A (HeapC.set B b (.cells ro op cs)) := by
  intro i
  rw [set_f]
  refine ⟨fun hi => ?_, fun hi => ?_⟩
  · rw [if_neg (by omega)]; exact (h i).1 hi
  · split
    · exact .inr hc
    · exact (h i).2 hi
theorem Ans.call {S X : Option (Rt FH)} {h : FH} {c : Nat} {Q : Rt FH → Prop} (hgo : ∀ r, S = some r → X = some (gcR h c [] r)) (hS : Ans S (fun r => Q (gcR h c [] r))) : Ans X Q := by
  obtain ⟨r, e, hq⟩ := hS
  exact ⟨_, hgo r e, hq⟩
theorem Ans.call' {S X : Option (Rt FH)} {Q : Rt FH → Prop} (hgo : ∀ r, S = some r → X = some r) (hS : Ans S Q) : Ans X Q := by
  obtain ⟨r, e, hq⟩ := hS
  exact ⟨_, hgo r e, hq⟩
def PureR (h : FH) (c : Nat) (v : Value) (r : Rt FH) : Prop := r.e = .ret ∧ r.vs = [v] ∧ Same c h r.h ∧ r.df = []
theorem pure_of' {X S : Option (Rt FH)} {h : FH} {c : Nat} {v : Value} (hgo : ∀ r, S = some r → X = some (gcR h c [] r)) (hv : OkV c v) (hS : Ans S (PureR h c v)) :
    X = some { e := .ret, vs := [v], h := h, c := c, df := [] } := pure_of hgo hv hS
theorem Ans.pure {h h' : FH} {c c' : Nat} {v w : Value} (hv : w = v) (hs : Same c h h') : Ans (some { e := .ret, vs := [w], h := h', c := c', df := [] }) (PureR h c v) := .done ⟨rfl, by rw [hv], hs, rfl⟩
theorem sameB_of {x : Option Nat} {h1 h2 : FH} (e : ∀ i, x = some i → h1.f i = h2.f i) : sameB x h1 h2 = true := by
  cases x with
  | none => rfl
  | some i =>
    show @decide (h1.f i = h2.f i) (Classical.propDecidable _) = true
    exact @decide_eq_true _ (Classical.propDecidable _) (e i rfl)
theorem face_split {x : List Int} (hx : x.length = 5) : x = tetL x :: permL x := by
  match x, hx with
  | [a, b, c, d, e], _ => rfl
end Go.Ab

namespace Go.Ab
open Go
set_option linter.unusedVariables false
set_option linter.unusedSimpArgs false
structure Hid (q : Prop) : Prop where
  h : q
theorem Ans.go {β : Type} {x : Option β} {Q : β → Prop} {q : Prop} (k : q) (h : Hid q → Ans x Q := by
    intro kk
    repeat' (first | ((with_reducible first | refine Ans.bz ?_ | refine Ans.r1 ?_ | refine Ans.pkT ?_ | refine Ans.pkF ?_); try dsimp only [v_zero, v_succ]) | (with_reducible first | refine Ans.btL ?_ | refine Ans.bfL ?_ | refine Ans.gyT ?_ | refine Ans.gyF ?_ | refine Ans.gyG ?_ | refine Ans.bb ?_ | refine Ans.bc ?_ | refine Ans.ba ?_) | ((with_reducible first | refine Ans.lsT ?_ ?_ | refine Ans.leT ?_ ?_ | refine Ans.grT ?_ ?_ | refine Ans.geT ?_ ?_ | refine Ans.eqT ?_ ?_ | refine Ans.neT ?_ ?_); (focus omega)) | ((with_reducible first | refine Ans.lsF ?_ ?_ | refine Ans.leF ?_ ?_ | refine Ans.grF ?_ ?_ | refine Ans.geF ?_ ?_ | refine Ans.eqF ?_ ?_ | refine Ans.neF ?_ ?_); (focus omega)) | (with_reducible first | refine Ans.lsS (fun _ => ?_) (fun _ => ?_) | refine Ans.leS (fun _ => ?_) (fun _ => ?_) | refine Ans.grS (fun _ => ?_) (fun _ => ?_) | refine Ans.geS (fun _ => ?_) (fun _ => ?_) | refine Ans.eqS (fun _ => ?_) (fun _ => ?_) | refine Ans.neS (fun _ => ?_) (fun _ => ?_)) | ((with_reducible first | refine Ans.addN ?_ ?_ | refine Ans.add ?_ ?_ | refine Ans.sub ?_ ?_ | refine Ans.mul ?_ ?_); (focus omega)) | ((with_reducible first | refine Ans.ct ?_ ?_); (focus (simp (disch := (first | omega | with_reducible assumption | (simp <;> omega) | fail)) [fx]; done))) | ((with_reducible first | refine Ans.cf ?_ ?_); (focus (simp (disch := (first | omega | with_reducible assumption | (simp <;> omega) | fail)) [fx]; done))) | (refine Ans.step (by simp (disch := (first | omega | with_reducible assumption | (simp <;> omega) | fail)) [fx, -List.getD_eq_getElem?_getD] <;> rfl) ?_; try dsimp only [v_zero, v_succ]) | fail)
    exact kk.h) : Ans x Q := h ⟨k⟩
theorem Ans.nx0 {o : Orc FH} {k : Key} {Q : Rt FH → Prop} {A h : FH} {c c' : Nat} {vs : List Value} {df : List Nat} (e : Ans (o k vs A c df) Q) (h1 : OkVs c vs := by (simp (disch := (first | omega | with_reducible assumption | (simp <;> omega) | fail)) [fx]; done)) (h2 : Same c A h := by (simp (disch := (first | omega | with_reducible assumption | (simp <;> omega) | fail)) [fx]; done)) :
    Ans (some { e := .normal, vs := vs, h := h, c := c', df := df }) (fun q => Lk o k Q (gcR A c df q)) := Ans.next0 h1 h2 e
theorem Ans.ex0 {o : Orc FH} {k : Key} {Q : Rt FH → Prop} {A h : FH} {c c' : Nat} {vs : List Value} {df : List Nat} {i : Nat} (e : Q { e := .exit i, vs := vs, h := A, c := c, df := df }) (h1 : OkVs c vs := by (simp (disch := (first | omega | with_reducible assumption | (simp <;> omega) | fail)) [fx]; done)) (h2 : Same c A h := by (simp (disch := (first | omega | with_reducible assumption | (simp <;> omega) | fail)) [fx]; done)) :
    Ans (some { e := .exit i, vs := vs, h := h, c := c', df := df }) (fun q => Lk o k Q (gcR A c df q)) := Ans.exit0 h1 h2 e
theorem Ans.rt0 {o : Orc FH} {k : Key} {Q : Rt FH → Prop} {A h : FH} {c c' : Nat} {vs : List Value} {df : List Nat} (e : Q { e := .ret, vs := vs, h := A, c := c, df := df }) (h1 : OkVs c vs := by (simp (disch := (first | omega | with_reducible assumption | (simp <;> omega) | fail)) [fx]; done)) (h2 : Same c A h := by (simp (disch := (first | omega | with_reducible assumption | (simp <;> omega) | fail)) [fx]; done)) :
    Ans (some { e := .ret, vs := vs, h := h, c := c', df := df }) (fun q => Lk o k Q (gcR A c df q)) := Ans.ret0 h1 h2 e
theorem Ans.nxB {o : Orc FH} {k : Key} {Q : Rt FH → Prop} {A B h : FH} {c c' : Nat} {vs : List Value} {df : List Nat} (h3 : Upto c A B) (e : Ans (o k vs B c df) Q) (h1 : OkVs c vs := by (simp (disch := (first | omega | with_reducible assumption | (simp <;> omega) | fail)) [fx]; done)) (h2 : Same c B h := by (simp (disch := (first | omega | with_reducible assumption | (simp <;> omega) | fail)) [fx]; done)) :
    Ans (some { e := .normal, vs := vs, h := h, c := c', df := df }) (fun q => Lk o k Q (gcR A c df q)) := Ans.nextB e h1 h2 h3
theorem Ans.rtB {o : Orc FH} {k : Key} {Q : Rt FH → Prop} {A B h : FH} {c c' : Nat} {vs : List Value} {df : List Nat} (h3 : Upto c A B) (e : Q { e := .ret, vs := vs, h := B, c := c, df := df }) (h1 : OkVs c vs := by (simp (disch := (first | omega | with_reducible assumption | (simp <;> omega) | fail)) [fx]; done)) (h2 : Same c B h := by (simp (disch := (first | omega | with_reducible assumption | (simp <;> omega) | fail)) [fx]; done)) :
    Ans (some { e := .ret, vs := vs, h := h, c := c', df := df }) (fun q => Lk o k Q (gcR A c df q)) := Ans.retB e h1 h2 h3
theorem Ans.pu {h h' : FH} {c c' : Nat} {v w : Value} (hv : w = v := by first | rfl | (simp (disch := (first | omega | with_reducible assumption | (simp <;> omega) | fail)) [fx]; done)) (hs : Same c h h' := by first | with_reducible assumption | (simp (disch := (first | omega | with_reducible assumption | (simp <;> omega) | fail)) [fx]; done)) :
    Ans (some { e := .ret, vs := [w], h := h', c := c', df := [] }) (PureR h c v) := Ans.pure hv hs
end Go.Ab

namespace Go.Ab
open Go
set_option maxRecDepth 100000
set_option linter.unusedVariables false
set_option linter.unusedSimpArgs false
def p24 : List (List Int) := [[0,1,2,3],[0,1,3,2],[0,2,1,3],[0,2,3,1],[0,3,1,2],[0,3,2,1],[1,0,2,3],[1,0,3,2],[1,2,0,3],[1,2,3,0],[1,3,0,2],[1,3,2,0],[2,0,1,3],[2,0,3,1],[2,1,0,3],[2,1,3,0],[2,3,0,1],[2,3,1,0],[3,0,1,2],[3,0,2,1],[3,1,0,2],[3,1,2,0],[3,2,0,1],[3,2,1,0]]
theorem mem24 {p : List Int} (hp : p.length = 4) (h : validB p = true) : p ∈ p24 := by
  have hr := validB_range h
  match p, hp with
  | [a, b, c, d], _ =>
    have ha := hr a (by simp)
    have hb := hr b (by simp)
    have hc := hr c (by simp)
    have hd := hr d (by simp)
    have := all256 (Q := fun a b c d => !validB [(a : Int), (b : Int), (c : Int), (d : Int)] || p24.contains [(a : Int), (b : Int), (c : Int), (d : Int)]) (by kernel_rfl)
      (a := a.toNat) (b := b.toNat) (c := c.toNat) (d := d.toNat) (by omega) (by omega) (by omega) (by omega)
    have ea : ((a.toNat : Nat) : Int) = a := by omega
    have eb : ((b.toNat : Nat) : Int) = b := by omega
    have ec : ((c.toNat : Nat) : Int) = c := by omega
    have ed : ((d.toNat : Nat) : Int) = d := by omega
    rw [ea, eb, ec, ed, h] at this
    simpa using this
theorem all24 {Q : List Int → Bool} (h : p24.all Q = true) {p : List Int} (hp : p ∈ p24) : Q p = true := List.all_eq_true.1 h p hp
theorem len24 {p : List Int} (hp : p ∈ p24) : p.length = 4 := by simpa using all24 (Q := fun p => p.length == 4) (by kernel_rfl) hp
theorem range24 {p : List Int} (hp : p ∈ p24) {i : Nat} (hi : i < 4) : 0 ≤ p.getD i 0 ∧ p.getD i 0 < 4 := by
  have := all24 (Q := fun p => (List.range 4).all fun i => decide (0 ≤ p.getD i 0) && decide (p.getD i 0 < 4)) (by kernel_rfl) hp
  rw [List.all_eq_true] at this
  simpa using this i (by simpa using hi)
theorem okFace_glued {Gl : List Int} {n t f : Nat} (h : okFace Gl n t f = true) (ht : ¬ tetL (faceL Gl t f) < 0) :
    tetL (faceL Gl t f) < n ∧ validB (permL (faceL Gl t f)) = true ∧ ¬ (tetL (faceL Gl t f) = t ∧ (permL (faceL Gl t f)).getD f 0 = f) ∧
      faceL Gl (tetL (faceL Gl t f)).toNat ((permL (faceL Gl t f)).getD f 0).toNat = (t : Int) :: inv (permL (faceL Gl t f)) := by
  unfold okFace at h
  have h0 : faceL Gl t f ≠ noneL := fun e => ht (by rw [e]; decide)
  simp only [h0, decide_false, Bool.false_or, Bool.and_eq_true, decide_eq_true_eq, Bool.not_eq_true'] at h
  obtain ⟨⟨⟨⟨h1, h2⟩, h3⟩, h4⟩, h5⟩ := h
  refine ⟨h2, h3, fun ⟨a, b⟩ => ?_, h5⟩
  rw [decide_eq_true a, decide_eq_true b] at h4
  cases h4
theorem okAll_face {Gl : List Int} {n t f : Nat} (h : okAll Gl n = true) (ht : t < n) (hf : f < 4) : okFace Gl n t f = true := by
  have := (okAll_iff Gl n).1 h (4 * t + f) (by omega)
  have e1 : (4 * t + f) / 4 = t := by omega
  have e2 : (4 * t + f) % 4 = f := by omega
  rwa [e1, e2] at this
def AppS (c0 : Nat) (h : FH) (c : Nat) (v : Value) (sz n : Nat) (L : List Int) : Prop :=
  L.length = n * sz ∧ n ≤ 9223372036854775807 ∧ ((v = .slice none 0 0 ∧ n = 0) ∨
    ∃ i, v = .slice (some ⟨i, 0, none⟩) n n ∧ 256 * c0 ≤ i ∧ i < 256 * c ∧ h.f i = some (.cells false (some sz) (ints L)))
theorem AppS.nil (c0 : Nat) (h : FH) (c sz : Nat) : AppS c0 h c (.slice none 0 0) sz 0 [] := ⟨by simp, by omega, .inl ⟨rfl, rfl⟩⟩
theorem AppS.flat {c0 : Nat} {h : FH} {c : Nat} {v : Value} {sz n : Nat} {L : List Int} (ha : AppS c0 h c v sz n L) : isFlat v = true ∧ v.cells = #[v] := by
  obtain ⟨_, _, ⟨rfl, _⟩ | ⟨i, rfl, _⟩⟩ := ha <;> exact ⟨rfl, rfl⟩
theorem AppS.sl {c0 : Nat} {h : FH} {c : Nat} {v : Value} {sz n : Nat} {L : List Int} (ha : AppS c0 h c v sz n L) : SlI h c v sz n L := by
  obtain ⟨h1, h2, ⟨rfl, rfl⟩ | ⟨i, rfl, h3, h4, h5⟩⟩ := ha
  · exact ⟨h1, h2, none, 0, rfl, .inl ⟨rfl, OkV.sl0 _ _ _⟩⟩
  · refine ⟨h1, h2, some ⟨i, 0, none⟩, n, rfl, .inr ⟨i, 0, ints L, rfl, h4, ⟨false, some sz, h5⟩, ?_⟩⟩
    rw [List.drop_zero, List.take_of_length_le (by simp [h1])]
theorem AppS.mono {c0 : Nat} {h : FH} {c c' : Nat} {v : Value} {sz n : Nat} {L : List Int} (hc : c ≤ c') (ha : AppS c0 h c v sz n L) : AppS c0 h c' v sz n L := by
  obtain ⟨h1, h2, h3 | ⟨i, rfl, h3, h4, h5⟩⟩ := ha
  · exact ⟨h1, h2, .inl h3⟩
  · exact ⟨h1, h2, .inr ⟨i, rfl, h3, by omega, h5⟩⟩
theorem AppS.keep {c0 : Nat} {h h' : FH} {c : Nat} {v : Value} {sz n : Nat} {L : List Int} (hh : ∀ i, 256 * c0 ≤ i → i < 256 * c → h'.f i = h.f i) (ha : AppS c0 h c v sz n L) : AppS c0 h' c v sz n L := by
  obtain ⟨h1, h2, h3 | ⟨i, rfl, h3, h4, h5⟩⟩ := ha
  · exact ⟨h1, h2, .inl h3⟩
  · exact ⟨h1, h2, .inr ⟨i, rfl, h3, h4, by rw [hh i h3 h4, h5]⟩⟩
theorem AppS.app {c0 : Nat} {h : FH} {c c' : Nat} {v : Value} {sz n : Nat} {L : List Int} (ha : AppS c0 h c v sz n L) (X : List Int) (hX : X.length = sz) (hsz : 0 < sz) (by' b id : Nat) (hb : 256 * c ≤ b) (hid : 256 * c ≤ id) (hne : b ≠ id) (hc0 : c0 ≤ c)
    (hid' : id < 256 * c') (hlim : (n + 1) * (by' + 1) ≤ 17592186044416) :
    ∃ v' h', appV (newB h b (ints X)) id sz by' v (.slice (some ⟨b, 0, none⟩) 1 1) = some (v', h') ∧ AppS c0 h' c' v' sz (n + 1) (L ++ X) ∧ Same c0 h h' ∧ v' = .slice (some ⟨id, 0, none⟩) (n + 1) (n + 1) := by
  obtain ⟨h1, h2, h3⟩ := ha
  have hlim' : Nat.ble ((n + 1) * (by' + 1)) 17592186044416 = true := Nat.ble_eq_true_of_le hlim
  have hsrc : srcCells (newB h b (ints X)) sz (.slice (some ⟨b, 0, none⟩) 1 1) = some (ints X, 1) := by
    have : Nat.ble (0 + 1 * sz) (ints X).length = true := Nat.ble_eq_true_of_le (by simp [hX])
    simp only [srcCells, rdCells, getCells, get_newB_same, Option.bind_some, this, cond_true, List.drop_zero]
    rw [List.take_of_length_le (by simp [hX])]
  have hn1 : n + 1 ≤ 17592186044416 := by
    have : (n + 1) * 1 ≤ (n + 1) * (by' + 1) := Nat.mul_le_mul_left _ (by omega)
    omega
  have hcap : Nat.ble (n + 1) n = false := by rw [Bool.eq_false_iff]; intro hh; have := Nat.le_of_ble_eq_true hh; omega
  rcases h3 with ⟨rfl, rfl⟩ | ⟨i, rfl, h3, h4, h5⟩
  · have hL : L = [] := List.eq_nil_of_length_eq_zero (by simpa using h1)
    subst hL
    refine ⟨_, HeapC.set (newB h b (ints X)) id (.cells false (some sz) (ints X)), ?_, ⟨by simp [hX], by omega, .inr ⟨id, rfl, by omega, hid', ?_⟩⟩, ?_, rfl⟩
    · simp only [appV, hsrc, Option.bind_some, appTo, hcap, cond_false, appGrow, hlim', ints_flat, Bool.and_self, cond_true, Nat.beq_refl, Nat.zero_add]
    · rw [set_f, if_pos rfl]; rfl
    · intro j hj
      rw [set_f, if_neg (by omega), newB_f, if_neg (by omega)]
  · have hbi : i ≠ b := by omega
    have hg : HeapC.get (newB h b (ints X)) i = some (.cells false (some sz) (ints L)) := by rw [get_newB_ne _ _ _ _ hbi]; exact h5
    have hr : Nat.ble (0 + n * sz) (ints L).length = true := Nat.ble_eq_true_of_le (by simp [h1])
    refine ⟨_, HeapC.set (HeapC.set (newB h b (ints X)) i .dead) id (.cells false (some sz) (((ints L).drop 0).take (n * sz) ++ ints X)), ?_, ⟨?_, by omega, .inr ⟨id, rfl, by omega, hid', ?_⟩⟩, ?_, rfl⟩
    · simp only [appV, hsrc, Option.bind_some, appTo, hcap, cond_false, appGrow, hlim', ints_flat, Bool.and_self, cond_true, rdCells, getCells, hg, hr, Nat.beq_refl, Bool.not_false, Bool.and_true]
    · simp [h1, hX, Nat.succ_mul]
    · rw [set_f, if_pos rfl, List.drop_zero, List.take_of_length_le (by simp [h1]), ints_append]
    · intro j hj
      rw [set_f, if_neg (by omega), set_f, if_neg (by omega), newB_f, if_neg (by omega)]
def rowTo (F : Nat → List Int) : Nat → List Int
  | 0 => []
  | f + 1 => rowTo F f ++ F f
theorem splice_ints (l x : List Int) (o : Nat) : splice (ints l) o (ints x) = ints (l.take o ++ x ++ l.drop (o + x.length)) := by
  simp [splice, ints, List.map_take, List.map_drop]
end Go.Ab

namespace Go.Ab
open Go
set_option maxRecDepth 100000
set_option linter.unusedVariables false
set_option linter.unusedSimpArgs false
def ordF (Ord Pm : List Int) (n : Nat) : Nat → Nat → List Bool → Bool
  | 0, _, _ => true
  | k + 1, i, met => if Ord.getD i 0 < 0 ∨ (n : Int) ≤ Ord.getD i 0 then false else if met.getD (Ord.getD i 0).toNat false = true then false else
      if validB (permAt Pm i) = false then false else ordF Ord Pm n k (i + 1) (met.set (Ord.getD i 0).toNat true)
def ordB (Ord Pm : List Int) (a b n : Nat) : Bool := decide (a = n) && decide (b = n) && ordF Ord Pm n n 0 (List.replicate n false)
theorem ordF_range {Ord Pm : List Int} {n : Nat} : ∀ {k i : Nat} {met : List Bool}, ordF Ord Pm n k i met = true → ∀ j, i ≤ j → j < i + k → 0 ≤ Ord.getD j 0 ∧ Ord.getD j 0 < n ∧ validB (permAt Pm j) = true
  | 0, i, met, h, j, h1, h2 => by omega
  | k + 1, i, met, h, j, h1, h2 => by
    unfold ordF at h
    split at h
    · cases h
    split at h
    · cases h
    split at h
    · cases h
    rename_i q1 q2 q3
    by_cases hj : j = i
    · subst hj
      exact ⟨by omega, by omega, by simpa using q3⟩
    · exact ordF_range h j (by omega) (by omega)
def backL (Ord : List Int) : Nat → Nat → List Int → List Int
  | 0, _, l => l
  | k + 1, i, l => backL Ord k (i + 1) (l.set (Ord.getD i 0).toNat i)
def back (Ord : List Int) (n : Nat) : List Int := backL Ord n 0 (List.replicate n 0)
def rnF (Gl Ord Pm Bk : List Int) (i f : Nat) : List Int :=
  if tetL (faceL Gl (Ord.getD i 0).toNat ((permAt Pm i).getD f 0).toNat) < 0 then noneL else
    Bk.getD (tetL (faceL Gl (Ord.getD i 0).toNat ((permAt Pm i).getD f 0).toNat)).toNat 0 ::
      comp (inv (permAt Pm (Bk.getD (tetL (faceL Gl (Ord.getD i 0).toNat ((permAt Pm i).getD f 0).toNat)).toNat 0).toNat))
        (comp (permL (faceL Gl (Ord.getD i 0).toNat ((permAt Pm i).getD f 0).toNat)) (permAt Pm i))
def rnL (Gl Ord Pm Bk : List Int) : Nat → List Int
  | 0 => []
  | i + 1 => rnL Gl Ord Pm Bk i ++ rowTo (rnF Gl Ord Pm Bk i) 4
structure RnOk (Gl Ord Pm : List Int) (n : Nat) : Prop where
  gl : Gl.length = n * 20
  ol : Ord.length = n
  pl : Pm.length = n * 4
  ok : okAll Gl n = true
  rng : ∀ j, j < n → 0 ≤ Ord.getD j 0 ∧ Ord.getD j 0 < n ∧ validB (permAt Pm j) = true
theorem RnOk.p24 {Gl Ord Pm : List Int} {n : Nat} (h : RnOk Gl Ord Pm n) {j : Nat} (hj : j < n) : permAt Pm j ∈ Ab.p24 := mem24 (permAt_length h.pl hj) (h.rng j hj).2.2
def sameB2 (n m : Nat) (Gl Hl : List Int) : Bool := decide (n = m) && decide (Gl = Hl)
def rnE (Gl Ord Pm : List Int) (n a b : Nat) : Int := if n ≤ 1000 ∧ okAll Gl n = true then (if ordB Ord Pm a b n = true then 0 else 1) else 7
def rnN (Gl Ord Pm : List Int) (n a b : Nat) : Nat := if n ≤ 1000 ∧ okAll Gl n = true ∧ ordB Ord Pm a b n = true then n else 0
def rnR (Gl Ord Pm : List Int) (n a b : Nat) : List Int := if n ≤ 1000 ∧ okAll Gl n = true ∧ ordB Ord Pm a b n = true then rnL Gl Ord Pm (back Ord n) n else []
theorem ordB_iff {Ord Pm : List Int} {a b n : Nat} : ordB Ord Pm a b n = true ↔ a = n ∧ b = n ∧ ordF Ord Pm n n 0 (List.replicate n false) = true := by
  simp [ordB, and_assoc]
theorem RnOk.of {Gl Ord Pm : List Int} {n a b : Nat} (hG : Gl.length = n * 20) (hO : Ord.length = a) (hP : Pm.length = b * 4) (h2 : okAll Gl n = true) (h3 : ordB Ord Pm a b n = true) : RnOk Gl Ord Pm n := by
  obtain ⟨rfl, rfl, h4⟩ := ordB_iff.1 h3
  exact ⟨hG, hO, hP, h2, fun j hj => ordF_range h4 j (by omega) (by omega)⟩
@[simp] theorem st1_agg (h : FH) (i o : Nat) (cs : List Value) (v : Value) (ho : o < cs.length) (hv : isFlat v = true) : stN (newB h i cs) 1 (.pointer (some ⟨i, o, none⟩)) (.agg #[v]) = some (newB h i (cs.set o v)) := by
  rw [stN_newB_same h 1 i o cs (.agg #[v]) rfl (by omega) (by simp [Value.cells, hv])]
  show some (newB h i (splice cs o [v])) = _
  rw [splice_one cs o _ ho]
@[simp] theorem st1_sl (h : FH) (i o : Nat) (cs : List Value) (a : Option Addr) (n k : Nat) (ho : o < cs.length) : stN (newB h i cs) 1 (.pointer (some ⟨i, o, none⟩)) (.slice a n k) = some (newB h i (cs.set o (.slice a n k))) := by
  rw [stN_newB_same h 1 i o cs (.slice a n k) rfl (by omega) rfl]
  show some (newB h i (splice cs o [.slice a n k])) = _
  rw [splice_one cs o _ ho]
theorem ldN1_own {h : FH} {b : Nat} {cs : List Value} {v : Value} (hg : Holds h b (v :: cs)) : ldN h 1 (.pointer (some ⟨b, 0, none⟩)) = some (.agg #[v]) := by
  rw [ldN_holds hg (by simp)]; simp
def RnPost (h : FH) (c : Nat) (Gl Ord Pm : List Int) (n a b : Nat) (r : Rt FH) : Prop :=
  r.e = .ret ∧ r.df = [] ∧ c ≤ r.c ∧ Same c h r.h ∧ ∃ v, r.vs = [.tuple #[.agg #[v], .int .i64 (rnE Gl Ord Pm n a b)]] ∧ SlI r.h r.c v 20 (rnN Gl Ord Pm n a b) (rnR Gl Ord Pm n a b) ∧ (0 < rnN Gl Ord Pm n a b → 256 * c ≤ blkOf v)
theorem RnPost.callF {o : Orc FH} {g : FuncId} {args : List Value} {h : FH} {c : Nat} {Gl Ord Pm : List Int} {n a b : Nat} (e : Ans (o (.fn g) args h c []) (RnPost h c Gl Ord Pm n a b)) :
    ∃ v h' c', callF o g args h c = some (.tuple #[.agg #[v], .int .i64 (rnE Gl Ord Pm n a b)], h', c') ∧ c ≤ c' ∧ Same c h h' ∧ SlI h' c' v 20 (rnN Gl Ord Pm n a b) (rnR Gl Ord Pm n a b) ∧ (0 < rnN Gl Ord Pm n a b → 256 * c ≤ blkOf v) := by
  obtain ⟨r, e1, r1, r2, r3, r4, v, r5, r6, r7⟩ := e
  refine ⟨v, r.h, r.c, ?_, r3, r4, r6, r7⟩
  simp only [Ab.callF, e1, Option.bind_some, r5]
end Go.Ab

namespace Go.Ab
open Go Go.ChangeShapes Go.RowKit
set_option linter.unusedVariables false
set_option linter.unusedSimpArgs false
section post
variable {H : Type} {enc : TypeId × Value → H} {P : Program}
theorem trodAll_lt : ∀ {ts : List TypeId} {w : World} {vs : List Value} {ds : List (DataW H)} {ps : List MemPlace}, DataW.TrodAll enc P w 0 (fun _ => true) true ts vs ds ps → ∀ x ∈ ps, x.block < w.heap.size
  | [], w, vs, ds, ps, h, x, hx => by
    obtain ⟨_, _, rfl⟩ := trodAll_nil h
    cases hx
  | t :: ts, w, vs, ds, ps, h, x, hx => by
    obtain ⟨v, vs', d, ds', p, q, rfl, rfl, rfl, h1, h2⟩ := trodAll_cons h
    rcases List.mem_append.1 hx with hx | hx
    · obtain ⟨n, h1⟩ := h1
      exact DataW.trod_lt n _ _ _ h1 x hx
    · exact trodAll_lt h2 x hx
theorem trodAll_stays (hl : laidOutB P = true) : ∀ {ts : List TypeId} {w w' : World} {sp : Nat → Bool} {vs : List Value} {ds : List (DataW H)} {ps : List MemPlace}, (∀ t ∈ ts, P.readableRec t = true ∧ t < P.types.size) →
    DataW.TrodAll enc P w 0 (fun _ => true) true ts vs ds ps → (∀ p ∈ ps, w.sameAt w' p) → (∀ p ∈ ps, sp p.block = true) → DataW.TrodAll enc P w' 0 sp true ts vs ds ps
  | [], w, w', sp, vs, ds, ps, _, h, _, _ => by
    obtain ⟨rfl, rfl, rfl⟩ := trodAll_nil h
    exact rfl
  | t :: ts, w, w', sp, vs, ds, ps, hr, h, h1, h2 => by
    obtain ⟨v, vs', d, ds', p, q, rfl, rfl, rfl, g1, g2⟩ := trodAll_cons h
    refine ⟨p, q, ?_, ?_, rfl⟩
    · exact WideElems.Trod_stays hl (hr t (by simp)).1 (hr t (by simp)).2 g1 (fun x hx => h1 x (List.mem_append.2 (.inl hx))) (fun x hx => h2 x (List.mem_append.2 (.inl hx)))
    · exact trodAll_stays hl (fun u hu => hr u (by simp [hu])) g2 (fun x hx => h1 x (List.mem_append.2 (.inr hx))) (fun x hx => h2 x (List.mem_append.2 (.inr hx)))
theorem row_post (hl : laidOutB P = true) {f : Func} {s : ChangeSpec} {apart fresh handsOn again : Bool} {W W' : World} {args : Array Value} {ds gs : List (DataW H)} {before : List MemPlace} {tb : TypeId}
    (hts : ∀ t ∈ f.params.toList, P.readableRec t = true ∧ t < P.types.size) (hvars : s.vars = []) (hres : (s.fn H (ds ++ gs)).results = [.lit (.bool true)]) (hargs : (s.fn H (ds ++ gs)).args = ds) (hvs : (s.fn H (ds ++ gs)).vars = [])
    (hrt : f.resultTypes = #[tb]) (htb : P.underlying tb = some .bool) (hW : DataW.Whole enc P f.params.toList s.vars apart W args.toList ds gs before) (hB : Below W.heap.size W W') :
    s.post enc P f apart fresh handsOn again W args (.bool true) W' := by
  have hW0 := hW
  obtain ⟨p, q, hA, hV, rfl, hfz, hnd⟩ := hW
  rw [hvars] at hV
  have hgq : gs = [] ∧ q = [] := by
    cases gs with
    | nil => exact ⟨rfl, hV⟩
    | cons g gs => exact hV.elim
  obtain ⟨rfl, rfl⟩ := hgq
  have hlt := trodAll_lt hA
  have hrl : Value.resultList f.resultTypes.size (.bool true) = [.bool true] := by rw [hrt]; rfl
  have hR : ∀ (b : Nat) (sp : Nat → Bool) (hd : Bool), DataW.TrodAll enc P W' b sp hd f.resultTypes.toList (Value.resultList f.resultTypes.size (.bool true)) (s.fn H (ds ++ [])).results [] := by
    intro b sp hd
    rw [hrl, hres, hrt]
    exact ⟨[], [], shut_bool htb true, rfl, rfl⟩
  have hS : ∀ sp : Nat → Bool, (∀ x ∈ p, sp x.block = true) → DataW.TrodAll enc P W' 0 sp true f.params.toList args.toList (s.fn H (ds ++ [])).args p := by
    intro sp hsp
    rw [hargs]
    exact trodAll_stays hl hts hA (fun x hx => hB.same (hlt x hx)) hsp
  have hV' : ∀ sp : Nat → Bool, DataW.TrodVars enc P W' sp s.vars (s.fn H (ds ++ [])).vars [] := by
    intro sp; rw [hvars, hvs]; exact rfl
  have hfz' : W'.noneFrozen (p ++ []) := by
    intro b off hp
    have h1 := hfz b off hp
    have h2 : W'.heap[b]? = W.heap[b]? := hB.block b (hlt (.cell b off) (by simpa using hp))
    unfold World.frozen? at h1 ⊢
    simp only at h1 ⊢
    rw [h2]; exact h1
  have hok : ∀ (j : Nat) (t : TypeId) (r : Value), f.resultTypes[j]? = some t → (Value.resultList f.resultTypes.size (.bool true))[j]? = some r → Value.okWide P W' .any 0 t r :=
    ok_one hrt rfl (by simp [Value.okWide, htb, Cell.okWide, Cell.ok])
  refine ⟨ds, [], p ++ [], [], p, [], hW0, hR _ _ _, hS _ (fun x hx => by simpa using hlt x hx), hV' _, ?_, fun _ => ?_⟩
  · refine ⟨hB.os, hB.output, fun i hi => ?_⟩
    rw [hB.block i hi]
    split
    · rename_i h1 h2
      rw [h1] at h2
      cases h2
      exact ⟨rfl, rfl, rfl, fun _ _ => rfl⟩
    · rename_i h1 h2
      rw [h1] at h2
      cases h2
      exact .inr ⟨rfl, rfl⟩
    · rfl
  · refine ⟨hok, _, _, ([] ++ p) ++ [], ⟨[] ++ p, [], trodAll_append (hS (fun _ => true) (fun _ _ => rfl)) (hR _ _ _), hV' _, rfl, ?_, ?_⟩, ?_⟩
    · intro b off hp
      exact hfz' b off (by simpa using hp)
    · intro ha
      have := hnd ha
      simpa using this
    · intro x hx _
      simpa using hx
end post
def OpenS (W : World) (v : Value) (sz n : Nat) (Gl : List Int) : Prop :=
  Gl.length = n * sz ∧ n ≤ 9223372036854775807 ∧ ((v = .slice none 0 0 ∧ n = 0) ∨
    ∃ b o cap C E fr, v = .slice (some ⟨b, o, none⟩) n cap ∧ n ≤ cap ∧ W.heap[b]? = some (.cells C E fr) ∧ ∀ j, j < Gl.length → C[o + j]? = some (.int .i64 (Gl.getD j 0)))
def absS (i : Nat) (v : Value) : Value :=
  match v with
  | .slice (some _) n cap => .slice (some ⟨i, 0, none⟩) n cap
  | v => v
def absM (v : Value) : Option ME :=
  match v with
  | .slice (some a) _ _ => some ⟨a.block, a.off, none⟩
  | _ => none
theorem OpenS.vr {W : World} {v : Value} {sz n : Nat} {Gl : List Int} (h : OpenS W v sz n Gl) {μ : Mu} {i : Nat} (hm : ∀ m, absM v = some m → μ i = some m) : VR μ (absS i v) v := by
  obtain ⟨h1, h2, ⟨rfl, _⟩ | ⟨b, o, cap, C, E, fr, rfl, _, _, _⟩⟩ := h
  · exact .sl0 0 0
  · have := hm ⟨b, o, none⟩ rfl
    exact VR.sl (i := i) (o := 0) this (Nat.le_refl _) (.inl rfl)
theorem OpenS.sl {W : World} {v : Value} {sz n : Nat} {Gl : List Int} (h : OpenS W v sz n Gl) {A : FH} {i c : Nat} (hi : i < 256 * c) (ha : ∀ m, absM v = some m → A.f i = some (.cells true none (ints Gl))) : SlI A c (absS i v) sz n Gl := by
  obtain ⟨h1, h2, ⟨rfl, rfl⟩ | ⟨b, o, cap, C, E, fr, rfl, _, _, _⟩⟩ := h
  · exact ⟨h1, h2, none, 0, rfl, .inl ⟨rfl, OkV.sl0 _ _ _⟩⟩
  · refine ⟨h1, h2, some ⟨i, 0, none⟩, cap, rfl, .inr ⟨i, 0, ints Gl, rfl, hi, ⟨true, none, ha _ rfl⟩, ?_⟩⟩
    rw [List.drop_zero, List.take_of_length_le (by simp [h1])]
theorem OpenS.blk {W : World} {v : Value} {sz n : Nat} {Gl : List Int} (h : OpenS W v sz n Gl) {μ : Mu} {m : ME} (hm : absM v = some m) : BlkR μ m W.heap (some (.cells true none (ints Gl))) ∧ m.b < W.heap.size := by
  obtain ⟨h1, h2, ⟨rfl, rfl⟩ | ⟨b, o, cap, C, E, fr, rfl, _, h3, h4⟩⟩ := h
  · cases hm
  · cases hm
    refine ⟨⟨C, E, fr, h3, fun k x hx => ?_, (fun h => by cases h), rfl⟩, (Array.getElem?_eq_some_iff.1 h3).1⟩
    have hk : k < Gl.length := by have := (List.getElem?_eq_some_iff.1 hx).1; simpa using this
    rw [ints_getD _ _ hk] at hx
    cases hx
    exact ⟨_, h4 k hk, .int _ _⟩
def FlatT (P : Program) (e : TypeId) (sz : Nat) : Prop :=
  P.cellsOf e = sz ∧ ∀ (H : Type) (enc : TypeId × Value → H) (w : World) (base : Nat) (spare : Nat → Bool) (held : Bool) (fuel : Nat) (cs : List Value) (x : DataW H × List MemPlace),
    DataW.trod enc P w base spare held fuel e cs = some x → cs.length = sz ∧ ∀ v ∈ cs, ∃ n, v = .int .i64 n
section flat
variable {P : Program}
theorem FlatT.int {e : TypeId} (he : P.underlying e = some (.int .i64)) (hc : P.cellsOf e = 1) : FlatT P e 1 := by
  refine ⟨hc, fun H enc w base spare held fuel cs x h => ?_⟩
  obtain ⟨n, rfl, _, _⟩ := DataW.trod_int he h
  exact ⟨rfl, fun v hv => ⟨n, by simpa using hv⟩⟩
theorem mapM_get {α β : Type} {f : α → Option β} : ∀ {l : List α} {r : List β}, l.mapM f = some r → ∀ a ∈ l, ∃ b, f a = some b
  | [], r, h, a, ha => by cases ha
  | x :: l, r, h, a, ha => by
    rw [List.mapM_cons] at h
    simp only [Option.bind_eq_bind, Option.bind_eq_some_iff] at h
    obtain ⟨y, hy, ys, hys, _⟩ := h
    rcases List.mem_cons.1 ha with rfl | ha
    · exact ⟨y, hy⟩
    · exact mapM_get hys a ha
theorem FlatT.array {t e : TypeId} {n z : Nat} (ht : P.underlying t = some (.array n e)) (hf : FlatT P e z) (hc : P.cellsOf t = n * z) : FlatT P t (n * z) := by
  refine ⟨hc, fun H enc w base spare held fuel cs x h => ?_⟩
  cases fuel with
  | zero => simp [DataW.trod] at h
  | succ fuel =>
    have h' : (if cs.length = P.cellsOf t then ((List.range n).mapM fun i => DataW.trod enc P w base spare held fuel e ((cs.drop (i * P.cellsOf e)).take (P.cellsOf e))).map fun xs => ((.agg (xs.map (·.1)), xs.flatMap (·.2)) : DataW H × List MemPlace) else none) = some x := by
      have h1 := h
      unfold DataW.trod at h1
      rw [ht] at h1
      split at h1 <;> first | exact h1 | (rename_i e1 _; cases e1) | (rename_i e1 _ _; cases e1) | (rename_i e1; cases e1) | skip
      all_goals first | exact h1 | (simp_all; done) | skip
    split at h'
    · rename_i hl
      rw [hc] at hl
      refine ⟨hl, fun v hv => ?_⟩
      cases hm : (List.range n).mapM fun i => DataW.trod enc P w base spare held fuel e ((cs.drop (i * P.cellsOf e)).take (P.cellsOf e)) with
      | none => rw [hm] at h'; cases h'
      | some ys =>
        obtain ⟨j, hj⟩ := List.getElem?_of_mem hv
        have hjl : j < n * z := by have := (List.getElem?_eq_some_iff.1 hj).1; omega
        have hz : 0 < z := by
          rcases Nat.eq_zero_or_pos z with e | e
          · rw [e] at hjl; simp at hjl
          · exact e
        have hi : j / z < n := by rw [Nat.div_lt_iff_lt_mul hz]; exact hjl
        obtain ⟨y, hy⟩ := mapM_get hm (j / z) (by simpa using hi)
        rw [hf.1] at hy
        refine (hf.2 _ _ _ _ _ _ _ _ _ hy).2 v ?_
        refine List.mem_of_getElem? (i := j % z) ?_
        rw [List.getElem?_take_of_lt (Nat.mod_lt _ hz), List.getElem?_drop, Nat.mul_comm, Nat.div_add_mod]
        exact hj
    · cases h'
theorem FlatT.struct2 {t : TypeId} {f0 f1 : Field} {z0 z1 : Nat} (ht : P.underlying t = some (.struct #[f0, f1])) (h0 : FlatT P f0.type z0) (h1 : FlatT P f1.type z1) (o0 : f0.offset = 0) (o1 : f1.offset = z0) (hc : P.cellsOf t = z0 + z1) : FlatT P t (z0 + z1) := by
  refine ⟨hc, fun H enc w base spare held fuel cs x h => ?_⟩
  obtain ⟨xs, n, rfl, _, hl, hxl, hf⟩ := DataW.trod_struct ht h
  rw [hc] at hl
  refine ⟨hl, fun v hv => ?_⟩
  have g0 := hf 0 f0 rfl
  have g1 := hf 1 f1 rfl
  have l2 : xs.length = 2 := hxl
  rw [List.getElem?_eq_getElem (by omega)] at g0 g1
  rw [h0.1, o0, List.drop_zero] at g0
  rw [h1.1, o1] at g1
  obtain ⟨j, hj⟩ := List.getElem?_of_mem hv
  have hjl : j < z0 + z1 := by have := (List.getElem?_eq_some_iff.1 hj).1; omega
  by_cases hlt : j < z0
  · refine (h0.2 _ _ _ _ _ _ _ _ _ g0).2 v (List.mem_of_getElem? (i := j) ?_)
    rw [List.getElem?_take_of_lt hlt]; exact hj
  · refine (h1.2 _ _ _ _ _ _ _ _ _ g1).2 v (List.mem_of_getElem? (i := j - z0) ?_)
    rw [List.getElem?_take_of_lt (by omega), List.getElem?_drop, show z0 + (j - z0) = j by omega]
    exact hj
theorem open_flat {H : Type} {enc : TypeId × Value → H} {W : World} {base : Nat} {t e : TypeId} {sz : Nat} {v : Value} {fuel : Nat} {x : DataW H × List MemPlace} (ht : P.underlying t = some (.slice e)) (hf : FlatT P e sz) (hz : 0 < sz)
    (hval : Cell.okWide P W .any base t v) (hd : DataW.trod enc P W 0 (fun _ => true) true fuel t [v] = some x) : ∃ n Gl, OpenS W v sz n Gl := by
  rcases DataW.trod_slice ht hd with ⟨h1, _⟩ | ⟨a, len, cap, elems, rest, n, _, h1, _, hb, hl, hm, hlen, hel, _, _⟩
  · cases h1
    exact ⟨0, [], by simp, by omega, .inl ⟨rfl, rfl⟩⟩
  · cases h1
    have hok : Cell.ok P W .any base t (.slice (some a) len cap) := by
      unfold Cell.okWide at hval
      rw [ht] at hval
      exact hval
    unfold Cell.ok at hok
    rw [ht] at hok
    obtain ⟨_, _, _, hsp, row, cells, hsh, _⟩ := hok
    obtain ⟨b, o, sp⟩ := a
    simp only at hsp
    subst hsp
    unfold World.shape? at hsh
    have hblk : ∃ C E fr, W.heap[b]? = some (.cells C E fr) := by
      split at hsh
      · rename_i c el fr hh; exact ⟨c, el, fr, hh⟩
      · cases hsh
    obtain ⟨C, E, fr, hC⟩ := hblk
    have hadd : ∀ o k, (⟨b, o, none⟩ : Addr).add k = ⟨b, o + k, none⟩ := fun o k => by unfold Addr.add; split <;> simp_all
    have hcell : ∀ j, j < len * sz → ∃ z, C[o + j]? = some (.int .i64 z) := by
      intro j hj
      have hi : j / sz < len := by rw [Nat.div_lt_iff_lt_mul hz]; exact hj
      have h2 := hel (j / sz) hi
      rw [List.getElem?_eq_getElem (by omega)] at h2
      simp only [Option.bind_eq_some_iff] at h2
      obtain ⟨cs, hcs, htr⟩ := h2
      rw [hf.1] at hcs
      obtain ⟨_, hcl, hcg⟩ := World.cells?_some hcs
      have h3 := hcg (j % sz) (Nat.mod_lt _ hz)
      have hfl := hf.2 _ _ _ _ _ _ _ _ _ htr
      have hjm : j % sz < cs.length := by rw [hcl]; exact Nat.mod_lt _ hz
      rw [List.getElem?_eq_getElem hjm] at h3
      obtain ⟨z, hz'⟩ := hfl.2 cs[j % sz] (List.getElem_mem hjm)
      rw [hz', hadd] at h3
      have : (⟨b, o + j / sz * sz, none⟩ : Addr).add (j % sz) = ⟨b, o + j, none⟩ := by
        rw [hadd]
        have := Nat.div_add_mod j sz
        rw [Nat.mul_comm] at this
        congr 1; omega
      rw [this] at h3
      refine ⟨z, ?_⟩
      simpa [World.cell?, hC] using h3
    refine ⟨len, (List.range (len * sz)).map fun j => (match C[o + j]? with | some (.int .i64 z) => z | _ => 0), by simp, ?_, .inr ⟨b, o, cap, C, E, fr, rfl, hl, hC, fun j hj => ?_⟩⟩
    · unfold maxLen at hm
      have : cap ≤ 9223372036854775807 := by simp at hm; omega
      omega
    · have hj' : j < len * sz := by simpa using hj
      obtain ⟨z, hz'⟩ := hcell j hj'
      rw [hz']
      congr 2
      simp [List.getD, hj', hz']
end flat
end Go.Ab

namespace Go.Ab
open Go
set_option linter.unusedVariables false
set_option linter.unusedSimpArgs false
def adrOf : Value → Option Addr
  | .slice a _ _ => a
  | _ => none
def SlX (h : FH) (s : Value) (sz n : Nat) : Prop := n ≤ capOf s ∧ szOk h sz (adrOf s) = true
def subS (sz lo hi : Nat) : Value → Value
  | .slice (some ⟨b, o, none⟩) _ cap => .slice (some ⟨b, o + lo * sz, none⟩) (hi - lo) (cap - lo)
  | v => v
theorem SlX.sub {h : FH} {c : Nat} {s : Value} {sz n : Nat} {L : List Int} (hs : SlI h c s sz n L) (hx : SlX h s sz n) (k k' : IntKind) (lo hi : Int) (h1 : 0 ≤ lo) (h2 : lo ≤ hi) (h3 : hi ≤ (n : Int)) (hn : 0 < n) :
    slS h sz s (some (.int k lo)) (some (.int k' hi)) none = some (subS sz lo.toNat hi.toNat s) := by
  obtain ⟨g1, g2, a, cap, rfl, h4⟩ := hs
  obtain ⟨x1, x2⟩ := hx
  rcases h4 with ⟨e, hv⟩ | ⟨b, o, cs, rfl, e2, e3, e4⟩
  · omega
  · simp only [capOf, adrOf] at x1 x2
    have q0 : Nat.ble cap cap = true := Nat.ble_eq_true_of_le (Nat.le_refl _)
    have q1 : (0 : Int) ≤ hi := by omega
    have q2 : hi ≤ (cap : Int) := by omega
    have q3 : lo ≤ (hi.toNat : Int) := by omega
    simp only [slS, x2, cond_true, bnds, bndO, q0, Option.bind_some, bnd, decide_eq_true q1, decide_eq_true q2, decide_eq_true h1, decide_eq_true q3, Bool.and_self, Option.isSome_none, Bool.false_and, cond_false, slOf, subS]
theorem SlI.sub {h : FH} {c : Nat} {s : Value} {sz n : Nat} {L : List Int} (hs : SlI h c s sz n L) (lo hi : Nat) (h2 : lo ≤ hi) (h3 : hi ≤ n) (hn : 0 < n) :
    SlI h c (subS sz lo hi s) sz (hi - lo) ((L.drop (lo * sz)).take ((hi - lo) * sz)) := by
  obtain ⟨g1, g2, a, cap, rfl, h4⟩ := hs
  rcases h4 with ⟨e, hv⟩ | ⟨b, o, cs, rfl, e2, e3, e4⟩
  · omega
  · have hm : lo * sz + (hi - lo) * sz ≤ L.length := by
      rw [g1, ← Nat.add_mul]; exact Nat.mul_le_mul_right _ (by omega)
    refine ⟨by rw [List.length_take, List.length_drop]; omega, by omega, _, _, rfl, .inr ⟨b, o + lo * sz, cs, rfl, e2, e3, ?_⟩⟩
    exact win_sub e4 hm
theorem SlX.same {h h' : FH} {c : Nat} {s : Value} {sz n : Nat} {L : List Int} (hs : SlI h c s sz n L) (hn : 0 < n) (hh : Same c h h') (hx : SlX h s sz n) : SlX h' s sz n := by
  obtain ⟨g1, g2, a, cap, rfl, h4⟩ := hs
  obtain ⟨x1, x2⟩ := hx
  rcases h4 with ⟨e, hv⟩ | ⟨b, o, cs, rfl, e2, e3, e4⟩
  · omega
  · refine ⟨x1, ?_⟩
    simp only [adrOf, szOk] at x2 ⊢
    have : HeapC.get h' b = HeapC.get h b := hh b e2
    rw [this]; exact x2
theorem OpenS.slx {W : World} {v : Value} {sz n : Nat} {Gl : List Int} (h : OpenS W v sz n Gl) {A : FH} {i : Nat} (ha : ∀ m, absM v = some m → A.f i = some (.cells true none (ints Gl))) : SlX A (absS i v) sz n := by
  obtain ⟨h1, h2, ⟨rfl, rfl⟩ | ⟨b, o, cap, C, E, fr, rfl, g1, _, _⟩⟩ := h
  · exact ⟨Nat.zero_le _, rfl⟩
  · refine ⟨g1, ?_⟩
    have : HeapC.get A i = some (.cells true none (ints Gl)) := ha _ rfl
    simp only [absS, adrOf, szOk, this]
def tyT : List Int := [-1, 0, 1, 2, 0, -1, 2, 1, 1, 2, -1, 0, 2, 1, 0, -1]
def ty (i f : Int) : Int := ((tyT.drop (i.toNat * 4)).take 4).getD f.toNat 0
theorem ty_range {i f : Int} (h1 : 0 ≤ i) (h2 : i < 4) (h3 : 0 ≤ f) (h4 : f < 4) (hne : i ≠ f) : 0 ≤ ty i f ∧ ty i f < 3 := by
  have : ((List.range 4).all fun i => (List.range 4).all fun f => decide (i = f) || (decide (0 ≤ ty (i : Nat) (f : Nat)) && decide (ty (i : Nat) (f : Nat) < 3))) = true := by decide
  rw [List.all_eq_true] at this
  have h5 := this i.toNat (by simp; omega)
  rw [List.all_eq_true] at h5
  have h6 := h5 f.toNat (by simp; omega)
  have e1 : ((i.toNat : Nat) : Int) = i := by omega
  have e2 : ((f.toNat : Nat) : Int) = f := by omega
  rw [e1, e2] at h6
  have h7 : ¬ i.toNat = f.toNat := by omega
  simpa [h7] using h6
def arcV (V : List Int) (t f i : Int) : Int := gi V (7 * t + i) + gi V (7 * t + 4 + ty i f)
def nzC : List Int → Nat
  | [] => 0
  | x :: l => (if x = 0 then 0 else 1) + nzC l
def areQ (L : List Int) : Bool := decide (nzC L ≤ 1)
def withinB (L : List Int) : Bool := L.all fun x => decide (0 ≤ x) && decide (x ≤ 1000000)
theorem takeAll_ok : ∀ {df : List Nat} {h : FH}, df.Nodup → (∀ d ∈ df, h.f d = some .dfr) → ∃ h', takeAll h df = some h' ∧ ∀ i, i ∉ df → h'.f i = h.f i
  | [], h, _, _ => ⟨h, rfl, fun _ _ => rfl⟩
  | d :: df, h, hn, hd => by
    have h1 := hd d (by simp)
    have hg : HeapC.get h d = some .dfr := h1
    obtain ⟨hn1, hn2⟩ := List.nodup_cons.1 hn
    obtain ⟨h', e, k⟩ := takeAll_ok (df := df) (h := HeapC.del h d) hn2 (fun x hx => by
      have hne : ¬ x = d := fun e => hn1 (by rw [← e]; exact hx)
      rw [del_f, if_neg hne]
      exact hd x (by simp [hx]))
    refine ⟨h', by simp only [takeAll, hg, e], fun i hi => ?_⟩
    simp only [List.mem_cons, not_or] at hi
    rw [k i hi.2, del_f, if_neg hi.1]
end Go.Ab
