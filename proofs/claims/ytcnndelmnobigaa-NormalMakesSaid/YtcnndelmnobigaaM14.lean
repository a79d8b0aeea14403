/- Parts of a proof: E C1 C2. Conditions: none. -/
import Derived.Test.YtcnndelmnobigaaM10
import Derived.Test.YtcnndelmnobigaaM11
import Derived.Test.YtcnndelmnobigaaM12
import Derived.Test.YtcnndelmnobigaaM13
import Derived.Test.YtcnndelmnobigaaM7
set_option linter.all false
set_option maxRecDepth 100000
namespace Go.Proofs.Ytcnndelmnobigaa
open Go Go.Ab Go.Proofs
variable {H:Type} [HeapC H]
noncomputable def K:LB:={ loop:=fun j=>BT.look ((.node 47001 ([2,4,7,15,16,17,35,36],Z3z,71) (.node 23002 ([1,4,5,8,11,12,33,34,35,81,82],Z3P,112) (.node 15001 ([1,7,8,28,29,30,35,36],Z3V,80) (.node 14000 ([1,5,7,26,27,28],Z3Y,68) (.node 13001 ([1,2,3,4,5],Z41,83) (.node 13000 ([1,2,3,4],Z42,83) .leaf .leaf) .leaf) (.node 15000 ([1,7,28,29,30],Z3W,80) (.node 14001 ([1,5,7,9,10,26,27,28,42,43],Z3X,68) .leaf .leaf) .leaf)) (.node 23000 ([1,4,5,8,33,34,35],Z3R,112) (.node 21000 ([0,1,4,5],Z3T,26) (.node 15002 ([1,7,8,10,28,29,30,35,36,63],Z3U,80) .leaf .leaf) .leaf) (.node 23001 ([1,4,5,8,11,12,33,34,35,53,54],Z3Q,112) .leaf .leaf))) (.node 42000 ([1,2,3,4],Z3G,19) (.node 40001 ([2,3,4,5,7,8,9,10,11],Z3J,135) (.node 40000 ([2,3,4,5,7,8,9],Z3K,135) (.node 25000 ([1,2,4,5,29,30],Z3N,52) .leaf .leaf) .leaf) (.node 41000 ([1,2,3,4],Z3H,30) (.node 40002 ([2,3,4,5,7,8,9,10,11,14],Z3I,135) .leaf .leaf) .leaf)) (.node 46000 ([0,1],Z3C,22) (.node 45000 ([0,3,9,10],Z3D,24) (.node 44001 ([6,7,8,52],Z3E,92) .leaf .leaf) .leaf) (.node 47000 ([2,4,15,16,17],Z3A,71) .leaf .leaf)))) (.node 71000 ([2,3,10,11],Z3l,21) (.node 57002 ([2,4,5,7,11,14,15,16,62,63,64],Z3r,200) (.node 56000 ([3,6,7,8],Z3w,19) (.node 49000 ([1,7,19,20,21],Z3x,36) (.node 48000 ([3,6,7,8],Z3y,17) .leaf .leaf) .leaf) (.node 57001 ([2,4,5,7,11,62,63,64],Z3s,200) (.node 57000 ([1,2,4,5,6,7,33,34],Z3t,200) .leaf .leaf) .leaf)) (.node 68000 ([0,3,4,5],Z3o,43) (.node 57004 ([2,4,5,7,11,15,62,63,64,177,178,179],Z3p,200) (.node 57003 ([2,4,5,7,11,14,15,16,17,18,62,63,64,93,94],Z3q,200) .leaf .leaf) .leaf) (.node 69000 ([0,2,3,4,5],Z3n,51) .leaf .leaf))) (.node 85000 ([2,3,6,7],Z3e,16) (.node 77001 ([0,3,9,10,11,16,17],Z3i,72) (.node 77000 ([0,9,10,11],Z3j,72) (.node 74000 ([0,1,7,8,9,34],Z3k,56) .leaf .leaf) .leaf) (.node 84000 ([2,3,6,7],Z3f,23) (.node 77002 ([0,3,5,6,9,10,11,16,17,44],Z3h,72) .leaf .leaf) .leaf)) (.node 91000 ([0,1,8,9],Z3b,30) (.node 90000 ([0,1,4,7,8],Z3c,19) (.node 86000 ([0,1,4,7,8],Z3d,19) .leaf .leaf) .leaf) (.node 91001 ([0,1,3,8,9,16,17],Z3a,30) .leaf .leaf))))):BT (List Nat × ACode × Nat)) j,rng:=fun nt ps=>ZkE nt ps [(92,[25],([1,5,6],Z1o,Z1n)),(71,[52],([4,7],Z1m,Z1l)),(71,[13,14],([1,2,3],Z1E,Z1D))] }
theorem Zhx:K.loop 13000=some ([1,2,3,4],Z42,83):=by kernel_rfl
theorem Zhw:K.loop 13001=some ([1,2,3,4,5],Z41,83):=by kernel_rfl
theorem Zhv:K.loop 14000=some ([1,5,7,26,27,28],Z3Y,68):=by kernel_rfl
theorem Zhu:K.loop 14001=some ([1,5,7,9,10,26,27,28,42,43],Z3X,68):=by kernel_rfl
theorem Zht:K.loop 15000=some ([1,7,28,29,30],Z3W,80):=by kernel_rfl
theorem Zhs:K.loop 15001=some ([1,7,8,28,29,30,35,36],Z3V,80):=by kernel_rfl
theorem Zhr:K.loop 15002=some ([1,7,8,10,28,29,30,35,36,63],Z3U,80):=by kernel_rfl
theorem Zhq:K.loop 21000=some ([0,1,4,5],Z3T,26):=by kernel_rfl
theorem Zhp:K.loop 23000=some ([1,4,5,8,33,34,35],Z3R,112):=by kernel_rfl
theorem Zho:K.loop 23001=some ([1,4,5,8,11,12,33,34,35,53,54],Z3Q,112):=by kernel_rfl
theorem Zhn:K.loop 23002=some ([1,4,5,8,11,12,33,34,35,81,82],Z3P,112):=by kernel_rfl
theorem Zhm:K.loop 25000=some ([1,2,4,5,29,30],Z3N,52):=by kernel_rfl
theorem Zhl:K.loop 40000=some ([2,3,4,5,7,8,9],Z3K,135):=by kernel_rfl
theorem Zhk:K.loop 40001=some ([2,3,4,5,7,8,9,10,11],Z3J,135):=by kernel_rfl
theorem Zhj:K.loop 40002=some ([2,3,4,5,7,8,9,10,11,14],Z3I,135):=by kernel_rfl
theorem Zhi:K.loop 41000=some ([1,2,3,4],Z3H,30):=by kernel_rfl
theorem Zhh:K.loop 42000=some ([1,2,3,4],Z3G,19):=by kernel_rfl
theorem Zhg:K.loop 44001=some ([6,7,8,52],Z3E,92):=by kernel_rfl
theorem Zhf:K.loop 45000=some ([0,3,9,10],Z3D,24):=by kernel_rfl
theorem Zhe:K.loop 46000=some ([0,1],Z3C,22):=by kernel_rfl
theorem Zhd:K.loop 47000=some ([2,4,15,16,17],Z3A,71):=by kernel_rfl
theorem Zhc:K.loop 47001=some ([2,4,7,15,16,17,35,36],Z3z,71):=by kernel_rfl
theorem Zhb:K.loop 48000=some ([3,6,7,8],Z3y,17):=by kernel_rfl
theorem Zha:K.loop 49000=some ([1,7,19,20,21],Z3x,36):=by kernel_rfl
theorem Zh9:K.loop 56000=some ([3,6,7,8],Z3w,19):=by kernel_rfl
theorem Zh8:K.loop 57000=some ([1,2,4,5,6,7,33,34],Z3t,200):=by kernel_rfl
theorem Zh7:K.loop 57001=some ([2,4,5,7,11,62,63,64],Z3s,200):=by kernel_rfl
theorem Zh6:K.loop 57002=some ([2,4,5,7,11,14,15,16,62,63,64],Z3r,200):=by kernel_rfl
theorem Zh5:K.loop 57003=some ([2,4,5,7,11,14,15,16,17,18,62,63,64,93,94],Z3q,200):=by kernel_rfl
theorem Zh4:K.loop 57004=some ([2,4,5,7,11,15,62,63,64,177,178,179],Z3p,200):=by kernel_rfl
theorem Zh3:K.loop 68000=some ([0,3,4,5],Z3o,43):=by kernel_rfl
theorem Zh2:K.loop 69000=some ([0,2,3,4,5],Z3n,51):=by kernel_rfl
theorem Zh1:K.loop 71000=some ([2,3,10,11],Z3l,21):=by kernel_rfl
theorem Zh0:K.loop 74000=some ([0,1,7,8,9,34],Z3k,56):=by kernel_rfl
theorem ZgZ:K.loop 77000=some ([0,9,10,11],Z3j,72):=by kernel_rfl
theorem ZgY:K.loop 77001=some ([0,3,9,10,11,16,17],Z3i,72):=by kernel_rfl
theorem ZgX:K.loop 77002=some ([0,3,5,6,9,10,11,16,17,44],Z3h,72):=by kernel_rfl
theorem ZgW:K.loop 84000=some ([2,3,6,7],Z3f,23):=by kernel_rfl
theorem ZgV:K.loop 85000=some ([2,3,6,7],Z3e,16):=by kernel_rfl
theorem ZgU:K.loop 86000=some ([0,1,4,7,8],Z3d,19):=by kernel_rfl
theorem ZgT:K.loop 90000=some ([0,1,4,7,8],Z3c,19):=by kernel_rfl
theorem ZgS:K.loop 91000=some ([0,1,8,9],Z3b,30):=by kernel_rfl
theorem ZgR:K.loop 91001=some ([0,1,3,8,9,16,17],Z3a,30):=by kernel_rfl
theorem ZgP:K.rng 71 [52]=some ([4,7],Z1m,Z1l):=by kernel_rfl
theorem ZgQ:K.rng 92 [25]=some ([1,5,6],Z1o,Z1n):=by kernel_rfl
theorem ZgO:K.rng 71 [13,14]=some ([1,2,3],Z1E,Z1D):=by kernel_rfl
theorem ck_11:Z0b K Zjy.nt Zjy.code:=(ai tt (ai tt (ai tt (ai tt (ai (ai tt (ai (ai tt tt) tt)) (ai tt (ai tt (ai tt (ai tt (ai tt (ai (ai tt (ai (ai tt tt) tt)) (ai tt (ai tt (ai tt tt))))))))))))))
theorem fe_11:FE (H:=H) P bk K 11 (fun o vs h c=>match vs with | []=>ZrF o h c | _=>none):=by
 refine ⟨Zjy,bk_11,rfl,ck_11,fun o vs h c r e=>?_⟩
 dsimp only at e
 split at e
 · exact ⟨rfl,(Zp8 o h c).trans e⟩
 · cases e
theorem ZnT:Z0b K 83 Z41:=(ai (ai tt (ai tt tt)) (ai (ai tt (ai (ai tt (ai tt tt)) (ai (ai tt (ai (ai tt tt) tt)) (ai tt (ai (ai tt tt) tt))))) tt))
theorem Zn9:LE (H:=H) P K 13001 (fun o rd vs h c df=>match vs with | [t1,t2,t3,t4,t5]=>Z20 o rd t1 t2 t3 t4 t5 h c df | _=>none):=by
 intro lin b nt hk
 rw [Zhw] at hk
 cases hk
 refine ⟨ZnT,fun o rd vs h c df q e=>?_⟩
 dsimp only at e
 split at e
 · exact (Z5U o rd _ _ _ _ _ h c df).trans e
 · cases e
theorem ZnU:Z0b K 83 Z42:=(ai (ai tt (ai tt tt)) (ai (ai tt (ai rfl Zhw)) tt))
theorem Zna:LE (H:=H) P K 13000 (fun o rd vs h c df=>match vs with | [t1,t2,t3,t4]=>Z1q o rd t1 t2 t3 t4 h c df | _=>none):=by
 intro lin b nt hk
 rw [Zhx] at hk
 cases hk
 refine ⟨ZnU,fun o rd vs h c df q e=>?_⟩
 dsimp only at e
 split at e
 · exact (Z5V o rd _ _ _ _ h c df).trans e
 · cases e
theorem ck_13:Z0b K Zg5.nt Zg5.code:=(ai tt (ai tt (ai (ai tt (ai (ai tt tt) tt)) (ai (ai tt (ai rfl Zhx)) (ai tt tt)))))
theorem fe_13:FE (H:=H) P bk K 13 (fun o vs h c=>match vs with | [t0]=>Zlp o t0 h c | _=>none):=by
 refine ⟨Zg5,bk_13,rfl,ck_13,fun o vs h c r e=>?_⟩
 dsimp only at e
 split at e
 · exact ⟨rfl,(Zic o _ h c).trans e⟩
 · cases e
theorem ZnR:Z0b K 68 Z3X:=(ai tt (ai (ai tt tt) (ai (ai tt (ai tt (ai tt tt))) tt)))
theorem Zn7:LE (H:=H) P K 14001 (fun o rd vs h c df=>match vs with | [t1,t5,t7,t9,t10,t26,t27,t28,t42,t43]=>Z9G o rd t1 t5 t7 t9 t10 t26 t27 t28 t42 t43 h c df | _=>none):=by
 intro lin b nt hk
 rw [Zhu] at hk
 cases hk
 refine ⟨ZnR,fun o rd vs h c df q e=>?_⟩
 dsimp only at e
 split at e
 · exact (ZdP o rd _ _ _ _ _ _ _ _ _ _ h c df).trans e
 · cases e
theorem ZnS:Z0b K 68 Z3Y:=(ai tt (ai (ai tt tt) (ai (ai tt (ai tt (ai (ai tt (ai rfl Zhu)) tt))) tt)))
theorem Zn8:LE (H:=H) P K 14000 (fun o rd vs h c df=>match vs with | [t1,t5,t7,t26,t27,t28]=>Z9H o rd t1 t5 t7 t26 t27 t28 h c df | _=>none):=by
 intro lin b nt hk
 rw [Zhv] at hk
 cases hk
 refine ⟨ZnS,fun o rd vs h c df q e=>?_⟩
 dsimp only at e
 split at e
 · exact (ZdQ o rd _ _ _ _ _ _ h c df).trans e
 · cases e
theorem ck_14:Z0b K Zjx.nt Zjx.code:=(ai tt (ai (ai tt (ai tt (ai (ai tt tt) tt))) (ai tt (ai tt (ai (ai tt (ai rfl Zhv)) (ai tt tt))))))
theorem fe_14:FE (H:=H) P bk K 14 (fun o vs h c=>match vs with | [t0]=>ZrC o t0 h c | _=>none):=by
 refine ⟨Zjx,bk_14,rfl,ck_14,fun o vs h c r e=>?_⟩
 dsimp only at e
 split at e
 · exact ⟨rfl,(Zp5 o _ h c).trans e⟩
 · cases e
theorem ZnO:Z0b K 80 Z3U:=(ai tt (ai (ai tt tt) (ai (ai tt (ai tt (ai tt tt))) tt)))
theorem Zn4:LE (H:=H) P K 15002 (fun o rd vs h c df=>match vs with | [t1,t7,t8,t10,t28,t29,t30,t35,t36,t63]=>Z9D o rd t1 t7 t8 t10 t28 t29 t30 t35 t36 t63 h c df | _=>none):=by
 intro lin b nt hk
 rw [Zhr] at hk
 cases hk
 refine ⟨ZnO,fun o rd vs h c df q e=>?_⟩
 dsimp only at e
 split at e
 · exact (ZdM o rd _ _ _ _ _ _ _ _ _ _ h c df).trans e
 · cases e
theorem ZnP:Z0b K 80 Z3V:=(ai tt (ai (ai tt tt) (ai (ai tt (ai (ai tt (ai tt tt)) (ai tt (ai rfl Zhr)))) tt)))
theorem Zn5:LE (H:=H) P K 15001 (fun o rd vs h c df=>match vs with | [t1,t7,t8,t28,t29,t30,t35,t36]=>Z9E o rd t1 t7 t8 t28 t29 t30 t35 t36 h c df | _=>none):=by
 intro lin b nt hk
 rw [Zhs] at hk
 cases hk
 refine ⟨ZnP,fun o rd vs h c df q e=>?_⟩
 dsimp only at e
 split at e
 · exact (ZdN o rd _ _ _ _ _ _ _ _ h c df).trans e
 · cases e
theorem ZnQ:Z0b K 80 Z3W:=(ai tt (ai (ai tt tt) (ai (ai tt (ai tt (ai rfl Zhs))) tt)))
theorem Zn6:LE (H:=H) P K 15000 (fun o rd vs h c df=>match vs with | [t1,t7,t28,t29,t30]=>Z9F o rd t1 t7 t28 t29 t30 h c df | _=>none):=by
 intro lin b nt hk
 rw [Zht] at hk
 cases hk
 refine ⟨ZnQ,fun o rd vs h c df q e=>?_⟩
 dsimp only at e
 split at e
 · exact (ZdO o rd _ _ _ _ _ h c df).trans e
 · cases e
theorem ck_15:Z0b K Zju.nt Zju.code:=(ai tt (ai (ai tt (ai tt (ai (ai tt tt) tt))) (ai tt (ai (ai tt (ai rfl Zht)) (ai tt tt)))))
theorem fe_15:FE (H:=H) P bk K 15 (fun o vs h c=>match vs with | [t0,t1]=>ZrB o t0 t1 h c | _=>none):=by
 refine ⟨Zju,bk_15,rfl,ck_15,fun o vs h c r e=>?_⟩
 dsimp only at e
 split at e
 · exact ⟨rfl,(Zp4 o _ _ h c).trans e⟩
 · cases e
theorem ck_16:Z0b K Zjp.nt Zjp.code:=(ai tt (ai (ai tt (ai tt (ai (ai tt tt) tt))) (ai tt tt)))
theorem fe_16:FE (H:=H) P bk K 16 (fun o vs h c=>match vs with | [t0,t1]=>ZrA o t0 t1 h c | _=>none):=by
 refine ⟨Zjp,bk_16,rfl,ck_16,fun o vs h c r e=>?_⟩
 dsimp only at e
 split at e
 · exact ⟨rfl,(Zp3 o _ _ h c).trans e⟩
 · cases e
theorem ck_17:Z0b K Zjo.nt Zjo.code:=(ai tt (ai tt tt))
theorem fe_17:FE (H:=H) P bk K 17 (fun o vs h c=>match vs with | [t0,t1]=>Zrz o t0 t1 h c | _=>none):=by
 refine ⟨Zjo,bk_17,rfl,ck_17,fun o vs h c r e=>?_⟩
 dsimp only at e
 split at e
 · exact ⟨rfl,(Zp2 o _ _ h c).trans e⟩
 · cases e
theorem ZnN:Z0b K 26 Z3T:=(ai (ai tt (ai tt tt)) (ai (ai tt (ai (ai tt tt) tt)) tt))
theorem Zn3:LE (H:=H) P K 21000 (fun o rd vs h c df=>match vs with | [t0,t1,t4,t5]=>Z55 o rd t0 t1 t4 t5 h c df | _=>none):=by
 intro lin b nt hk
 rw [Zhq] at hk
 cases hk
 refine ⟨ZnN,fun o rd vs h c df q e=>?_⟩
 dsimp only at e
 split at e
 · exact (Z5T o rd _ _ _ _ h c df).trans e
 · cases e
theorem ck_21:Z0b K Zg3.nt Zg3.code:=(ai tt (ai (ai tt (ai (ai tt tt) tt)) (ai (ai tt (ai rfl Zhq)) (ai tt tt))))
theorem fe_21:FE (H:=H) P bk K 21 (fun o vs h c=>match vs with | [t0,t1]=>Zlo o t0 t1 h c | _=>none):=by
 refine ⟨Zg3,bk_21,rfl,ck_21,fun o vs h c r e=>?_⟩
 dsimp only at e
 split at e
 · exact ⟨rfl,(Zib o _ _ h c).trans e⟩
 · cases e
theorem ZnL:Z0b K 112 Z3Q:=(ai tt (ai (ai tt tt) (ai (ai tt (ai tt (ai tt tt))) tt)))
theorem Zn1:LE (H:=H) P K 23001 (fun o rd vs h c df=>match vs with | [t1,t4,t5,t8,t11,t12,t33,t34,t35,t53,t54]=>Z54 o rd t1 t4 t5 t8 t11 t12 t33 t34 t35 t53 t54 h c df | _=>none):=by
 intro lin b nt hk
 rw [Zho] at hk
 cases hk
 refine ⟨ZnL,fun o rd vs h c df q e=>?_⟩
 dsimp only at e
 split at e
 · exact (Z5S o rd _ _ _ _ _ _ _ _ _ _ _ h c df).trans e
 · cases e
theorem ZnK:Z0b K 112 Z3P:=(ai tt (ai (ai tt tt) (ai (ai tt (ai tt (ai tt tt))) tt)))
theorem Zn0:LE (H:=H) P K 23002 (fun o rd vs h c df=>match vs with | [t1,t4,t5,t8,t11,t12,t33,t34,t35,t81,t82]=>Z53 o rd t1 t4 t5 t8 t11 t12 t33 t34 t35 t81 t82 h c df | _=>none):=by
 intro lin b nt hk
 rw [Zhn] at hk
 cases hk
 refine ⟨ZnK,fun o rd vs h c df q e=>?_⟩
 dsimp only at e
 split at e
 · exact (Z5R o rd _ _ _ _ _ _ _ _ _ _ _ h c df).trans e
 · cases e
theorem ZnM:Z0b K 112 Z3R:=(ai tt (ai (ai tt tt) (ai (ai tt (ai tt (ai (ai tt (ai rfl Zho)) (ai (ai tt (ai rfl Zhn)) tt)))) tt)))
theorem Zn2:LE (H:=H) P K 23000 (fun o rd vs h c df=>match vs with | [t1,t4,t5,t8,t33,t34,t35]=>Z3S o rd t1 t4 t5 t8 t33 t34 t35 h c df | _=>none):=by
 intro lin b nt hk
 rw [Zhp] at hk
 cases hk
 refine ⟨ZnM,fun o rd vs h c df q e=>?_⟩
 dsimp only at e
 split at e
 · exact (Z35 o rd _ _ _ _ _ _ _ h c df).trans e
 · cases e
theorem ck_23:Z0b K Zg2.nt Zg2.code:=(ai tt (ai (ai tt (ai tt (ai (ai tt tt) tt))) (ai tt (ai tt (ai tt (ai (ai tt (ai rfl Zhp)) (ai tt tt)))))))
theorem fe_23:FE (H:=H) P bk K 23 (fun o vs h c=>match vs with | [t0,t1]=>Zln o t0 t1 h c | _=>none):=by
 refine ⟨Zg2,bk_23,rfl,ck_23,fun o vs h c r e=>?_⟩
 dsimp only at e
 split at e
 · exact ⟨rfl,(Zia o _ _ h c).trans e⟩
 · cases e
theorem ZnJ:Z0b K 52 Z3N:=(ai tt (ai (ai tt tt) (ai (ai tt (ai tt (ai (ai tt tt) tt))) tt)))
theorem ZmZ:LE (H:=H) P K 25000 (fun o rd vs h c df=>match vs with | [t1,t2,t4,t5,t29,t30]=>Z3O o rd t1 t2 t4 t5 t29 t30 h c df | _=>none):=by
 intro lin b nt hk
 rw [Zhm] at hk
 cases hk
 refine ⟨ZnJ,fun o rd vs h c df q e=>?_⟩
 dsimp only at e
 split at e
 · exact (Z34 o rd _ _ _ _ _ _ h c df).trans e
 · cases e
theorem ck_25:Z0b K Zg1.nt Zg1.code:=(ai tt (ai (ai tt (ai tt (ai (ai tt tt) tt))) (ai (ai tt (ai (ai tt tt) tt)) (ai (ai tt (ai rfl Zhm)) (ai tt (ai (ai tt (ai (ai tt tt) tt)) (ai tt tt)))))))
theorem fe_25:FE (H:=H) P bk K 25 (fun o vs h c=>match vs with | [t0,t1]=>Zlm o t0 t1 h c | _=>none):=by
 refine ⟨Zg1,bk_25,rfl,ck_25,fun o vs h c r e=>?_⟩
 dsimp only at e
 split at e
 · exact ⟨rfl,(Zi9 o _ _ h c).trans e⟩
 · cases e
theorem ZnG:Z0b K 135 Z3I:=(ai (ai tt (ai tt tt)) (ai (ai tt (ai (ai tt (ai (ai tt tt) tt)) tt)) tt))
theorem ZmW:LE (H:=H) P K 40002 (fun o rd vs h c df=>match vs with | [t2,t3,t4,t5,t7,t8,t9,t10,t11,t14]=>Z8Z o rd t2 t3 t4 t5 t7 t8 t9 t10 t11 t14 h c df | _=>none):=by
 intro lin b nt hk
 rw [Zhj] at hk
 cases hk
 refine ⟨ZnG,fun o rd vs h c df q e=>?_⟩
 dsimp only at e
 split at e
 · exact (ZdJ o rd _ _ _ _ _ _ _ _ _ _ h c df).trans e
 · cases e
theorem ZnH:Z0b K 135 Z3J:=(ai (ai tt (ai tt tt)) (ai (ai (ai tt (ai (ai tt tt) tt)) (ai (ai tt (ai (ai tt (ai tt tt)) tt)) (ai tt (ai (ai tt (ai (ai tt tt) tt)) (ai tt (ai (ai tt (ai rfl Zhj)) tt)))))) tt))
theorem ZmX:LE (H:=H) P K 40001 (fun o rd vs h c df=>match vs with | [t2,t3,t4,t5,t7,t8,t9,t10,t11]=>Z90 o rd t2 t3 t4 t5 t7 t8 t9 t10 t11 h c df | _=>none):=by
 intro lin b nt hk
 rw [Zhk] at hk
 cases hk
 refine ⟨ZnH,fun o rd vs h c df q e=>?_⟩
 dsimp only at e
 split at e
 · exact (ZdK o rd _ _ _ _ _ _ _ _ _ h c df).trans e
 · cases e
theorem ZnI:Z0b K 135 Z3K:=(ai (ai tt (ai tt tt)) (ai (ai tt (ai (ai tt (ai rfl Zhk)) tt)) tt))
theorem ZmY:LE (H:=H) P K 40000 (fun o rd vs h c df=>match vs with | [t2,t3,t4,t5,t7,t8,t9]=>Z91 o rd t2 t3 t4 t5 t7 t8 t9 h c df | _=>none):=by
 intro lin b nt hk
 rw [Zhl] at hk
 cases hk
 refine ⟨ZnI,fun o rd vs h c df q e=>?_⟩
 dsimp only at e
 split at e
 · exact (ZdL o rd _ _ _ _ _ _ _ h c df).trans e
 · cases e
theorem ck_40:Z0b K Zjm.nt Zjm.code:=(ai tt (ai (ai tt (ai (ai tt tt) tt)) (ai tt (ai (ai tt (ai (ai tt tt) tt)) (ai tt (ai (ai tt (ai (ai tt tt) tt)) (ai tt (ai tt (ai (ai tt (ai rfl Zhl)) (ai (ai tt (ai (ai tt tt) tt)) (ai (ai tt (ai (ai tt tt) tt)) (ai tt tt))))))))))))
theorem fe_40:FE (H:=H) P bk K 40 (fun o vs h c=>match vs with | [t0]=>Zrn o t0 h c | _=>none):=by
 refine ⟨Zjm,bk_40,rfl,ck_40,fun o vs h c r e=>?_⟩
 dsimp only at e
 split at e
 · exact ⟨rfl,(ZoE o _ h c).trans e⟩
 · cases e
theorem ZnF:Z0b K 30 Z3H:=(ai (ai tt (ai tt tt)) (ai (ai (ai tt (ai (ai tt tt) tt)) tt) tt))
theorem ZmV:LE (H:=H) P K 41000 (fun o rd vs h c df=>match vs with | [t1,t2,t3,t4]=>Z1p o rd t1 t2 t3 t4 h c df | _=>none):=by
 intro lin b nt hk
 rw [Zhi] at hk
 cases hk
 refine ⟨ZnF,fun o rd vs h c df q e=>?_⟩
 dsimp only at e
 split at e
 · exact (Z5K o rd _ _ _ _ h c df).trans e
 · cases e
theorem ck_41:Z0b K Zg0.nt Zg0.code:=(ai tt (ai tt (ai (ai tt (ai rfl Zhi)) (ai tt tt))))
theorem fe_41:FE (H:=H) P bk K 41 (fun o vs h c=>match vs with | [t0]=>Zll o t0 h c | _=>none):=by
 refine ⟨Zg0,bk_41,rfl,ck_41,fun o vs h c r e=>?_⟩
 dsimp only at e
 split at e
 · exact ⟨rfl,(Zi8 o _ h c).trans e⟩
 · cases e
theorem ZnE:Z0b K 19 Z3G:=(ai (ai tt (ai tt tt)) (ai tt tt))
theorem ZmU:LE (H:=H) P K 42000 (fun o rd vs h c df=>match vs with | [t1,t2,t3,t4]=>Z2v o rd t1 t2 t3 t4 h c df | _=>none):=by
 intro lin b nt hk
 rw [Zhh] at hk
 cases hk
 refine ⟨ZnE,fun o rd vs h c df q e=>?_⟩
 dsimp only at e
 split at e
 · exact (Z5J o rd _ _ _ _ h c df).trans e
 · cases e
theorem ck_42:Z0b K ZfZ.nt ZfZ.code:=(ai tt (ai tt (ai (ai tt (ai (ai tt tt) tt)) (ai (ai tt (ai rfl Zhh)) (ai tt tt)))))
theorem fe_42:FE (H:=H) P bk K 42 (fun o vs h c=>match vs with | [t0]=>Zlk o t0 h c | _=>none):=by
 refine ⟨ZfZ,bk_42,rfl,ck_42,fun o vs h c r e=>?_⟩
 dsimp only at e
 split at e
 · exact ⟨rfl,(Zi7 o _ h c).trans e⟩
 · cases e
theorem ck_43:Z0b K ZfX.nt ZfX.code:=(ai tt (ai (ai tt (ai (ai tt tt) (ai tt (ai (ai tt tt) tt)))) (ai tt tt)))
theorem fe_43:FE (H:=H) P bk K 43 (fun o vs h c=>match vs with | [t0]=>Zlj o t0 h c | _=>none):=by
 refine ⟨ZfX,bk_43,rfl,ck_43,fun o vs h c r e=>?_⟩
 dsimp only at e
 split at e
 · exact ⟨rfl,(Zi6 o _ h c).trans e⟩
 · cases e
theorem ZnC:Z0b K 92 Z3E:=(ai tt (ai (ai tt tt) (ai (ai tt (ai tt (ai tt tt))) tt)))
theorem ZmT:LE (H:=H) P K 44001 (fun o rd vs h c df=>match vs with | [t6,t7,t8,t52]=>Z2u o rd t6 t7 t8 t52 h c df | _=>none):=by
 intro lin b nt hk
 rw [Zhg] at hk
 cases hk
 refine ⟨ZnC,fun o rd vs h c df q e=>?_⟩
 dsimp only at e
 split at e
 · exact (Z2b o rd _ _ _ _ h c df).trans e
 · cases e
theorem ZnX:Z0b K 92 Z1o:=tt
theorem ZnD:Z0b K 92 Z1n:=(ai tt (ai tt (ai tt (ai rfl Zhg))))
theorem Zmg:RE (H:=H) P K 92 [25] (fun o l vs h c=>match vs with | [t25,t1,t5,t6]=>Z3F o l t25 t1 t5 t6 h c | _=>none):=by
 intro lin a b hk
 rw [ZgQ] at hk
 cases hk
 refine ⟨ZnX,ZnD,fun o l vs h c r e=>?_⟩
 dsimp only at e
 split at e
 · exact (Z7W o l _ _ _ _ h c).trans e
 · cases e
theorem ck_44:Z0b K ZfW.nt ZfW.code:=(ai tt (ai tt (ai tt (ai (ai tt (ai rfl ZgQ)) (ai tt tt)))))
theorem fe_44:FE (H:=H) P bk K 44 (fun o vs h c=>match vs with | [t0]=>Zli o t0 h c | _=>none):=by
 refine ⟨ZfW,bk_44,rfl,ck_44,fun o vs h c r e=>?_⟩
 dsimp only at e
 split at e
 · exact ⟨rfl,(Zi5 o _ h c).trans e⟩
 · cases e
theorem ZnB:Z0b K 24 Z3D:=(ai tt (ai (ai tt tt) (ai (ai tt (ai tt (ai tt tt))) tt)))
theorem ZmS:LE (H:=H) P K 45000 (fun o rd vs h c df=>match vs with | [t0,t3,t9,t10]=>Z4X o rd t0 t3 t9 t10 h c df | _=>none):=by
 intro lin b nt hk
 rw [Zhf] at hk
 cases hk
 refine ⟨ZnB,fun o rd vs h c df q e=>?_⟩
 dsimp only at e
 split at e
 · exact (Z5I o rd _ _ _ _ h c df).trans e
 · cases e
theorem ck_45:Z0b K ZfV.nt ZfV.code:=(ai tt (ai tt (ai (ai tt (ai rfl Zhf)) (ai tt tt))))
theorem fe_45:FE (H:=H) P bk K 45 (fun o vs h c=>match vs with | [t0]=>Zlh o t0 h c | _=>none):=by
 refine ⟨ZfV,bk_45,rfl,ck_45,fun o vs h c r e=>?_⟩
 dsimp only at e
 split at e
 · exact ⟨rfl,(Zi4 o _ h c).trans e⟩
 · cases e
theorem ZnA:Z0b K 22 Z3C:=(ai (ai tt (ai tt tt)) tt)
theorem ZmR:LE (H:=H) P K 46000 (fun o rd vs h c df=>match vs with | [t0,t1]=>Z6J o rd t0 t1 h c df | _=>none):=by
 intro lin b nt hk
 rw [Zhe] at hk
 cases hk
 refine ⟨ZnA,fun o rd vs h c df q e=>?_⟩
 dsimp only at e
 split at e
 · exact (Z7V o rd _ _ h c df).trans e
 · cases e
theorem ck_46:Z0b K ZfU.nt ZfU.code:=(ai tt (ai (ai rfl Zhe) (ai tt tt)))
theorem fe_46:FE (H:=H) P bk K 46 (fun o vs h c=>match vs with | [t0,t1]=>Zlg o t0 t1 h c | _=>none):=by
 refine ⟨ZfU,bk_46,rfl,ck_46,fun o vs h c r e=>?_⟩
 dsimp only at e
 split at e
 · exact ⟨rfl,(Zi3 o _ _ h c).trans e⟩
 · cases e
theorem Zny:Z0b K 71 Z3z:=(ai tt (ai (ai tt tt) (ai (ai tt (ai tt (ai (ai tt tt) tt))) tt)))
theorem ZmP:LE (H:=H) P K 47001 (fun o rd vs h c df=>match vs with | [t2,t4,t7,t15,t16,t17,t35,t36]=>Z4V o rd t2 t4 t7 t15 t16 t17 t35 t36 h c df | _=>none):=by
 intro lin b nt hk
 rw [Zhc] at hk
 cases hk
 refine ⟨Zny,fun o rd vs h c df q e=>?_⟩
 dsimp only at e
 split at e
 · exact (Z5G o rd _ _ _ _ _ _ _ _ h c df).trans e
 · cases e
theorem Znz:Z0b K 71 Z3A:=(ai tt (ai (ai tt tt) (ai (ai tt (ai (ai tt (ai (ai tt tt) tt)) (ai (ai tt (ai rfl Zhc)) (ai tt (ai rfl ZgP))))) tt)))
theorem ZmQ:LE (H:=H) P K 47000 (fun o rd vs h c df=>match vs with | [t2,t4,t15,t16,t17]=>Z4W o rd t2 t4 t15 t16 t17 h c df | _=>none):=by
 intro lin b nt hk
 rw [Zhd] at hk
 cases hk
 refine ⟨Znz,fun o rd vs h c df q e=>?_⟩
 dsimp only at e
 split at e
 · exact (Z5H o rd _ _ _ _ _ h c df).trans e
 · cases e
theorem ZnW:Z0b K 71 Z1m:=tt
theorem Znx:Z0b K 71 Z1l:=(ai tt (ai (ai tt tt) tt))
theorem Zmf:RE (H:=H) P K 71 [52] (fun o l vs h c=>match vs with | [t52,t4,t7]=>Z3B o l t52 t4 t7 h c | _=>none):=by
 intro lin a b hk
 rw [ZgP] at hk
 cases hk
 refine ⟨ZnW,Znx,fun o l vs h c r e=>?_⟩
 dsimp only at e
 split at e
 · exact (Z7U o l _ _ _ h c).trans e
 · cases e
theorem ck_47:Z0b K ZfT.nt ZfT.code:=(ai tt (ai (ai tt (ai tt (ai (ai tt tt) tt))) (ai (ai tt (ai rfl Zhd)) (ai tt tt))))
theorem fe_47:FE (H:=H) P bk K 47 (fun o vs h c=>match vs with | [t0,t1]=>Zle o t0 t1 h c | _=>none):=by
 refine ⟨ZfT,bk_47,rfl,ck_47,fun o vs h c r e=>?_⟩
 dsimp only at e
 split at e
 · exact ⟨rfl,(Zi2 o _ _ h c).trans e⟩
 · cases e
theorem Znw:Z0b K 17 Z3y:=(ai tt (ai (ai tt tt) (ai (ai tt tt) tt)))
theorem ZmO:LE (H:=H) P K 48000 (fun o rd vs h c df=>match vs with | [t3,t6,t7,t8]=>Z8X o rd t3 t6 t7 t8 h c df | _=>none):=by
 intro lin b nt hk
 rw [Zhb] at hk
 cases hk
 refine ⟨Znw,fun o rd vs h c df q e=>?_⟩
 dsimp only at e
 split at e
 · exact (ZdI o rd _ _ _ _ h c df).trans e
 · cases e
theorem ck_48:Z0b K Zjd.nt Zjd.code:=(ai tt (ai tt (ai (ai tt (ai rfl Zhb)) (ai tt tt))))
theorem fe_48:FE (H:=H) P bk K 48 (fun o vs h c=>match vs with | [t0]=>Zrm o t0 h c | _=>none):=by
 refine ⟨Zjd,bk_48,rfl,ck_48,fun o vs h c r e=>?_⟩
 dsimp only at e
 split at e
 · exact ⟨rfl,(ZoD o _ h c).trans e⟩
 · cases e
theorem Znv:Z0b K 36 Z3x:=(ai tt (ai (ai tt tt) (ai (ai tt tt) tt)))
theorem ZmN:LE (H:=H) P K 49000 (fun o rd vs h c df=>match vs with | [t1,t7,t19,t20,t21]=>Z8W o rd t1 t7 t19 t20 t21 h c df | _=>none):=by
 intro lin b nt hk
 rw [Zha] at hk
 cases hk
 refine ⟨Znv,fun o rd vs h c df q e=>?_⟩
 dsimp only at e
 split at e
 · exact (ZdG o rd _ _ _ _ _ h c df).trans e
 · cases e
theorem ck_49:Z0b K Zjb.nt Zjb.code:=(ai tt (ai tt (ai tt (ai (ai tt (ai rfl Zha)) (ai tt tt)))))
theorem fe_49:FE (H:=H) P bk K 49 (fun o vs h c=>match vs with | [t0,t1]=>Zrl o t0 t1 h c | _=>none):=by
 refine ⟨Zjb,bk_49,rfl,ck_49,fun o vs h c r e=>?_⟩
 dsimp only at e
 split at e
 · exact ⟨rfl,(ZoC o _ _ h c).trans e⟩
 · cases e
theorem ck_50:Z0b K ZfS.nt ZfS.code:=(ai tt (ai tt tt))
theorem fe_50:FE (H:=H) P bk K 50 (fun o vs h c=>match vs with | [t0,t1,t2,t3]=>Zj9 o t0 t1 t2 t3 h c | _=>none):=by
 refine ⟨ZfS,bk_50,rfl,ck_50,fun o vs h c r e=>?_⟩
 dsimp only at e
 split at e
 · exact ⟨rfl,(Zi1 o _ _ _ _ h c).trans e⟩
 · cases e
theorem ck_53:Z0b K ZfR.nt ZfR.code:=(ai tt (ai (ai tt (ai (ai tt tt) tt)) (ai tt tt)))
theorem fe_53:FE (H:=H) P bk K 53 (fun o vs h c=>match vs with | [t0]=>Zld o t0 h c | _=>none):=by
 refine ⟨ZfR,bk_53,rfl,ck_53,fun o vs h c r e=>?_⟩
 dsimp only at e
 split at e
 · exact ⟨rfl,(Zi0 o _ h c).trans e⟩
 · cases e
theorem ck_55:Z0b K ZfQ.nt ZfQ.code:=(ai tt (ai tt tt))
theorem fe_55:FE (H:=H) P bk K 55 (fun o vs h c=>match vs with | [t0]=>Zlb o t0 h c | _=>none):=by
 refine ⟨ZfQ,bk_55,rfl,ck_55,fun o vs h c r e=>?_⟩
 dsimp only at e
 split at e
 · exact ⟨rfl,(ZhZ o _ h c).trans e⟩
 · cases e
theorem Znu:Z0b K 19 Z3w:=(ai tt (ai (ai tt tt) (ai (ai tt (ai tt (ai tt tt))) tt)))
theorem ZmM:LE (H:=H) P K 56000 (fun o rd vs h c df=>match vs with | [t3,t6,t7,t8]=>Z4U o rd t3 t6 t7 t8 h c df | _=>none):=by
 intro lin b nt hk
 rw [Zh9] at hk
 cases hk
 refine ⟨Znu,fun o rd vs h c df q e=>?_⟩
 dsimp only at e
 split at e
 · exact (Z5F o rd _ _ _ _ h c df).trans e
 · cases e
theorem ck_56:Z0b K ZfP.nt ZfP.code:=(ai tt (ai tt (ai (ai tt (ai rfl Zh9)) (ai tt tt))))
theorem fe_56:FE (H:=H) P bk K 56 (fun o vs h c=>match vs with | [t0]=>Zla o t0 h c | _=>none):=by
 refine ⟨ZfP,bk_56,rfl,ck_56,fun o vs h c r e=>?_⟩
 dsimp only at e
 split at e
 · exact ⟨rfl,(ZhY o _ h c).trans e⟩
 · cases e
theorem Znt:Z0b K 200 Z3t:=(ai tt (ai (ai tt tt) (ai (ai tt tt) tt)))
theorem ZmL:LE (H:=H) P K 57000 (fun o rd vs h c df=>match vs with | [t1,t2,t4,t5,t6,t7,t33,t34]=>Z4T o rd t1 t2 t4 t5 t6 t7 t33 t34 h c df | _=>none):=by
 intro lin b nt hk
 rw [Zh8] at hk
 cases hk
 refine ⟨Znt,fun o rd vs h c df q e=>?_⟩
 dsimp only at e
 split at e
 · exact (Z5E o rd _ _ _ _ _ _ _ _ h c df).trans e
 · cases e
theorem Znq:Z0b K 200 Z3q:=(ai tt (ai (ai tt tt) (ai (ai tt (ai (ai tt (ai tt tt)) (ai tt (ai tt (ai tt (ai (ai tt (ai tt (ai tt tt))) (ai tt (ai (ai tt tt) tt)))))))) tt)))
theorem ZmI:LE (H:=H) P K 57003 (fun o rd vs h c df=>match vs with | [t2,t4,t5,t7,t11,t14,t15,t16,t17,t18,t62,t63,t64,t93,t94]=>Z1F o rd t2 t4 t5 t7 t11 t14 t15 t16 t17 t18 t62 t63 t64 t93 t94 h c df | _=>none):=by
 intro lin b nt hk
 rw [Zh5] at hk
 cases hk
 refine ⟨Znq,fun o rd vs h c df q e=>?_⟩
 dsimp only at e
 split at e
 · exact (Z1b o rd _ _ _ _ _ _ _ _ _ _ _ _ _ _ _ h c df).trans e
 · cases e
theorem Znr:Z0b K 200 Z3r:=(ai (ai tt (ai tt tt)) (ai (ai tt (ai tt (ai rfl Zh5))) tt))
theorem ZmJ:LE (H:=H) P K 57002 (fun o rd vs h c df=>match vs with | [t2,t4,t5,t7,t11,t14,t15,t16,t62,t63,t64]=>Z3u o rd t2 t4 t5 t7 t11 t14 t15 t16 t62 t63 t64 h c df | _=>none):=by
 intro lin b nt hk
 rw [Zh6] at hk
 cases hk
 refine ⟨Znr,fun o rd vs h c df q e=>?_⟩
 dsimp only at e
 split at e
 · exact (Z2Z o rd _ _ _ _ _ _ _ _ _ _ _ h c df).trans e
 · cases e
theorem Znp:Z0b K 200 Z3p:=(ai tt (ai (ai tt tt) (ai (ai tt tt) tt)))
theorem ZmH:LE (H:=H) P K 57004 (fun o rd vs h c df=>match vs with | [t2,t4,t5,t7,t11,t15,t62,t63,t64,t177,t178,t179]=>Z4S o rd t2 t4 t5 t7 t11 t15 t62 t63 t64 t177 t178 t179 h c df | _=>none):=by
 intro lin b nt hk
 rw [Zh4] at hk
 cases hk
 refine ⟨Znp,fun o rd vs h c df q e=>?_⟩
 dsimp only at e
 split at e
 · exact (Z5D o rd _ _ _ _ _ _ _ _ _ _ _ _ h c df).trans e
 · cases e
theorem Zns:Z0b K 200 Z3s:=(ai tt (ai (ai tt tt) (ai (ai tt (ai tt (ai tt (ai tt (ai (ai tt (ai rfl Zh6)) (ai tt (ai rfl Zh4))))))) tt)))
theorem ZmK:LE (H:=H) P K 57001 (fun o rd vs h c df=>match vs with | [t2,t4,t5,t7,t11,t62,t63,t64]=>Z3v o rd t2 t4 t5 t7 t11 t62 t63 t64 h c df | _=>none):=by
 intro lin b nt hk
 rw [Zh7] at hk
 cases hk
 refine ⟨Zns,fun o rd vs h c df q e=>?_⟩
 dsimp only at e
 split at e
 · exact (Z30 o rd _ _ _ _ _ _ _ _ h c df).trans e
 · cases e
theorem ck_57:Z0b K ZfO.nt ZfO.code:=(ai tt (ai tt (ai tt (ai (ai tt (ai rfl Zh8)) (ai tt (ai tt (ai (ai tt (ai rfl Zh7)) (ai tt tt))))))))
theorem fe_57:FE (H:=H) P bk K 57 (fun o vs h c=>match vs with | [t0,t1]=>Zl9 o t0 t1 h c | _=>none):=by
 refine ⟨ZfO,bk_57,rfl,ck_57,fun o vs h c r e=>?_⟩
 dsimp only at e
 split at e
 · exact ⟨rfl,(ZhX o _ _ h c).trans e⟩
 · cases e
theorem ck_59:Z0b K ZfM.nt ZfM.code:=(ai tt (ai tt tt))
theorem fe_59:FE (H:=H) P bk K 59 (fun o vs h c=>match vs with | [t0]=>Zl8 o t0 h c | _=>none):=by
 refine ⟨ZfM,bk_59,rfl,ck_59,fun o vs h c r e=>?_⟩
 dsimp only at e
 split at e
 · exact ⟨rfl,(ZhW o _ h c).trans e⟩
 · cases e
theorem ck_60:Z0b K ZfL.nt ZfL.code:=(ai tt (ai tt tt))
theorem fe_60:FE (H:=H) P bk K 60 (fun o vs h c=>match vs with | []=>Zl7 o h c | _=>none):=by
 refine ⟨ZfL,bk_60,rfl,ck_60,fun o vs h c r e=>?_⟩
 dsimp only at e
 split at e
 · exact ⟨rfl,(ZhV o h c).trans e⟩
 · cases e
theorem Zno:Z0b K 43 Z3o:=(ai (ai tt (ai tt tt)) (ai (ai tt (ai (ai tt (ai tt tt)) (ai tt (ai (ai tt tt) tt)))) tt))
theorem ZmG:LE (H:=H) P K 68000 (fun o rd vs h c df=>match vs with | [t0,t3,t4,t5]=>Z8F o rd t0 t3 t4 t5 h c df | _=>none):=by
 intro lin b nt hk
 rw [Zh3] at hk
 cases hk
 refine ⟨Zno,fun o rd vs h c df q e=>?_⟩
 dsimp only at e
 split at e
 · exact (ZdD o rd _ _ _ _ h c df).trans e
 · cases e
theorem ck_68:Z0b K Zj8.nt Zj8.code:=(ai tt (ai tt (ai tt (ai (ai tt (ai rfl Zh3)) (ai tt tt)))))
theorem fe_68:FE (H:=H) P bk K 68 (fun o vs h c=>match vs with | [t0]=>Zra o t0 h c | _=>none):=by
 refine ⟨Zj8,bk_68,rfl,ck_68,fun o vs h c r e=>?_⟩
 dsimp only at e
 split at e
 · exact ⟨rfl,(Zop o _ h c).trans e⟩
 · cases e
theorem Znn:Z0b K 51 Z3n:=(ai (ai tt (ai tt tt)) (ai (ai (ai tt (ai (ai tt tt) tt)) tt) tt))
theorem ZmF:LE (H:=H) P K 69000 (fun o rd vs h c df=>match vs with | [t0,t2,t3,t4,t5]=>Z8E o rd t0 t2 t3 t4 t5 h c df | _=>none):=by
 intro lin b nt hk
 rw [Zh2] at hk
 cases hk
 refine ⟨Znn,fun o rd vs h c df q e=>?_⟩
 dsimp only at e
 split at e
 · exact (ZdC o rd _ _ _ _ _ h c df).trans e
 · cases e
theorem ck_69:Z0b K Zj6.nt Zj6.code:=(ai tt (ai (ai tt (ai (ai tt tt) tt)) (ai tt (ai (ai tt (ai rfl Zh2)) (ai tt tt)))))
theorem fe_69:FE (H:=H) P bk K 69 (fun o vs h c=>match vs with | [t0]=>Zr9 o t0 h c | _=>none):=by
 refine ⟨Zj6,bk_69,rfl,ck_69,fun o vs h c r e=>?_⟩
 dsimp only at e
 split at e
 · exact ⟨rfl,(Zoo o _ h c).trans e⟩
 · cases e
theorem ZnV:Z0b K 71 Z1E:=(ai tt tt)
theorem Znm:Z0b K 71 Z1D:=(ai (ai tt (ai tt tt)) (ai (ai tt (ai (ai tt tt) tt)) (ai tt (ai (ai tt tt) tt))))
theorem Zme:RE (H:=H) P K 71 [13,14] (fun o l vs h c=>match vs with | [t13,t14,t1,t2,t3]=>Z3m o l t13 t14 t1 t2 t3 h c | _=>none):=by
 intro lin a b hk
 rw [ZgO] at hk
 cases hk
 refine ⟨ZnV,Znm,fun o l vs h c r e=>?_⟩
 dsimp only at e
 split at e
 · exact (Z7O o l _ _ _ _ _ h c).trans e
 · cases e
theorem ck_70:Z0b K ZfK.nt ZfK.code:=(ai tt (ai (ai tt (ai (ai tt tt) tt)) (ai tt (ai (ai tt (ai rfl ZgO)) (ai tt tt)))))
theorem fe_70:FE (H:=H) P bk K 70 (fun o vs h c=>match vs with | [t0]=>Zl6 o t0 h c | _=>none):=by
 refine ⟨ZfK,bk_70,rfl,ck_70,fun o vs h c r e=>?_⟩
 dsimp only at e
 split at e
 · exact ⟨rfl,(ZhU o _ h c).trans e⟩
 · cases e
theorem Znl:Z0b K 21 Z3l:=(ai tt (ai (ai tt tt) (ai (ai tt tt) tt)))
theorem ZmE:LE (H:=H) P K 71000 (fun o rd vs h c df=>match vs with | [t2,t3,t10,t11]=>Z4P o rd t2 t3 t10 t11 h c df | _=>none):=by
 intro lin b nt hk
 rw [Zh1] at hk
 cases hk
 refine ⟨Znl,fun o rd vs h c df q e=>?_⟩
 dsimp only at e
 split at e
 · exact (Z5y o rd _ _ _ _ h c df).trans e
 · cases e
theorem ck_71:Z0b K ZfJ.nt ZfJ.code:=(ai tt (ai tt (ai (ai tt (ai rfl Zh1)) (ai tt tt))))
theorem fe_71:FE (H:=H) P bk K 71 (fun o vs h c=>match vs with | [t0]=>Zl5 o t0 h c | _=>none):=by
 refine ⟨ZfJ,bk_71,rfl,ck_71,fun o vs h c r e=>?_⟩
 dsimp only at e
 split at e
 · exact ⟨rfl,(ZhT o _ h c).trans e⟩
 · cases e
theorem ck_72:Z0b K ZfI.nt ZfI.code:=(ai tt tt)
theorem fe_72:FE (H:=H) P bk K 72 (fun o vs h c=>match vs with | [t0,t1,t2]=>Zj3 o t0 t1 t2 h c | _=>none):=by
 refine ⟨ZfI,bk_72,rfl,ck_72,fun o vs h c r e=>?_⟩
 dsimp only at e
 split at e
 · exact ⟨rfl,(ZhS o _ _ _ h c).trans e⟩
 · cases e
theorem ck_73:Z0b K ZfH.nt ZfH.code:=(ai tt (ai tt tt))
theorem fe_73:FE (H:=H) P bk K 73 (fun o vs h c=>match vs with | [t0,t1]=>Zl4 o t0 t1 h c | _=>none):=by
 refine ⟨ZfH,bk_73,rfl,ck_73,fun o vs h c r e=>?_⟩
 dsimp only at e
 split at e
 · exact ⟨rfl,(ZhR o _ _ h c).trans e⟩
 · cases e
theorem Znk:Z0b K 56 Z3k:=(ai tt (ai (ai tt tt) (ai (ai tt (ai tt (ai tt tt))) tt)))
theorem ZmD:LE (H:=H) P K 74000 (fun o rd vs h c df=>match vs with | [t0,t1,t7,t8,t9,t34]=>Z8D o rd t0 t1 t7 t8 t9 t34 h c df | _=>none):=by
 intro lin b nt hk
 rw [Zh0] at hk
 cases hk
 refine ⟨Znk,fun o rd vs h c df q e=>?_⟩
 dsimp only at e
 split at e
 · exact (ZdA o rd _ _ _ _ _ _ h c df).trans e
 · cases e
theorem ck_74:Z0b K Zj2.nt Zj2.code:=(ai tt (ai tt (ai tt (ai (ai tt (ai rfl Zh0)) (ai tt tt)))))
theorem fe_74:FE (H:=H) P bk K 74 (fun o vs h c=>match vs with | [t0,t1,t2]=>Zr6 o t0 t1 t2 h c | _=>none):=by
 refine ⟨Zj2,bk_74,rfl,ck_74,fun o vs h c r e=>?_⟩
 dsimp only at e
 split at e
 · exact ⟨rfl,(Zon o _ _ _ h c).trans e⟩
 · cases e
theorem ck_75:Z0b K ZfG.nt ZfG.code:=(ai tt (ai tt tt))
theorem fe_75:FE (H:=H) P bk K 75 (fun o vs h c=>match vs with | [t0,t1]=>Zl3 o t0 t1 h c | _=>none):=by
 refine ⟨ZfG,bk_75,rfl,ck_75,fun o vs h c r e=>?_⟩
 dsimp only at e
 split at e
 · exact ⟨rfl,(ZhQ o _ _ h c).trans e⟩
 · cases e
theorem ck_76:Z0b K ZfF.nt ZfF.code:=(ai tt (ai tt tt))
theorem fe_76:FE (H:=H) P bk K 76 (fun o vs h c=>match vs with | [t0]=>Zl2 o t0 h c | _=>none):=by
 refine ⟨ZfF,bk_76,rfl,ck_76,fun o vs h c r e=>?_⟩
 dsimp only at e
 split at e
 · exact ⟨rfl,(ZhP o _ h c).trans e⟩
 · cases e
theorem Znh:Z0b K 72 Z3h:=(ai tt (ai (ai tt tt) (ai (ai tt (ai tt (ai tt tt))) tt)))
theorem ZmA:LE (H:=H) P K 77002 (fun o rd vs h c df=>match vs with | [t0,t3,t5,t6,t9,t10,t11,t16,t17,t44]=>Z2s o rd t0 t3 t5 t6 t9 t10 t11 t16 t17 t44 h c df | _=>none):=by
 intro lin b nt hk
 rw [ZgX] at hk
 cases hk
 refine ⟨Znh,fun o rd vs h c df q e=>?_⟩
 dsimp only at e
 split at e
 · exact (Z2a o rd _ _ _ _ _ _ _ _ _ _ h c df).trans e
 · cases e
theorem Zni:Z0b K 72 Z3i:=(ai tt (ai (ai tt tt) (ai (ai tt (ai (ai tt (ai tt tt)) (ai tt (ai rfl ZgX)))) tt)))
theorem ZmB:LE (H:=H) P K 77001 (fun o rd vs h c df=>match vs with | [t0,t3,t9,t10,t11,t16,t17]=>Z4N o rd t0 t3 t9 t10 t11 t16 t17 h c df | _=>none):=by
 intro lin b nt hk
 rw [ZgY] at hk
 cases hk
 refine ⟨Zni,fun o rd vs h c df q e=>?_⟩
 dsimp only at e
 split at e
 · exact (Z5w o rd _ _ _ _ _ _ _ h c df).trans e
 · cases e
theorem Znj:Z0b K 72 Z3j:=(ai tt (ai (ai tt tt) (ai (ai tt (ai tt (ai rfl ZgY))) tt)))
theorem ZmC:LE (H:=H) P K 77000 (fun o rd vs h c df=>match vs with | [t0,t9,t10,t11]=>Z4O o rd t0 t9 t10 t11 h c df | _=>none):=by
 intro lin b nt hk
 rw [ZgZ] at hk
 cases hk
 refine ⟨Znj,fun o rd vs h c df q e=>?_⟩
 dsimp only at e
 split at e
 · exact (Z5x o rd _ _ _ _ h c df).trans e
 · cases e
theorem ck_77:Z0b K ZfE.nt ZfE.code:=(ai tt (ai rfl ZgZ))
theorem fe_77:FE (H:=H) P bk K 77 (fun o vs h c=>match vs with | [t0,t1]=>Zl1 o t0 t1 h c | _=>none):=by
 refine ⟨ZfE,bk_77,rfl,ck_77,fun o vs h c r e=>?_⟩
 dsimp only at e
 split at e
 · exact ⟨rfl,(ZhO o _ _ h c).trans e⟩
 · cases e
theorem ck_83:Z0b K ZfD.nt ZfD.code:=(ai tt (ai tt tt))
theorem fe_83:FE (H:=H) P bk K 83 (fun o vs h c=>match vs with | [t0]=>Zl0 o t0 h c | _=>none):=by
 refine ⟨ZfD,bk_83,rfl,ck_83,fun o vs h c r e=>?_⟩
 dsimp only at e
 split at e
 · exact ⟨rfl,(ZhN o _ h c).trans e⟩
 · cases e
theorem Zng:Z0b K 23 Z3f:=(ai tt (ai (ai tt tt) (ai (ai tt (ai (ai tt (ai (ai tt tt) tt)) tt)) tt)))
theorem Zmz:LE (H:=H) P K 84000 (fun o rd vs h c df=>match vs with | [t2,t3,t6,t7]=>Z1Z o rd t2 t3 t6 t7 h c df | _=>none):=by
 intro lin b nt hk
 rw [ZgW] at hk
 cases hk
 refine ⟨Zng,fun o rd vs h c df q e=>?_⟩
 dsimp only at e
 split at e
 · exact (Z5t o rd _ _ _ _ h c df).trans e
 · cases e
theorem ck_84:Z0b K ZfC.nt ZfC.code:=(ai tt (ai tt (ai (ai tt (ai rfl ZgW)) (ai tt tt))))
theorem fe_84:FE (H:=H) P bk K 84 (fun o vs h c=>match vs with | [t0]=>ZkZ o t0 h c | _=>none):=by
 refine ⟨ZfC,bk_84,rfl,ck_84,fun o vs h c r e=>?_⟩
 dsimp only at e
 split at e
 · exact ⟨rfl,(ZhM o _ h c).trans e⟩
 · cases e
theorem Znf:Z0b K 16 Z3e:=(ai tt (ai (ai tt tt) (ai (ai tt tt) tt)))
theorem Zmy:LE (H:=H) P K 85000 (fun o rd vs h c df=>match vs with | [t2,t3,t6,t7]=>Z2r o rd t2 t3 t6 t7 h c df | _=>none):=by
 intro lin b nt hk
 rw [ZgV] at hk
 cases hk
 refine ⟨Znf,fun o rd vs h c df q e=>?_⟩
 dsimp only at e
 split at e
 · exact (Z5s o rd _ _ _ _ h c df).trans e
 · cases e
theorem ck_85:Z0b K ZfB.nt ZfB.code:=(ai tt (ai tt (ai (ai tt (ai rfl ZgV)) (ai tt tt))))
theorem fe_85:FE (H:=H) P bk K 85 (fun o vs h c=>match vs with | [t0]=>ZkY o t0 h c | _=>none):=by
 refine ⟨ZfB,bk_85,rfl,ck_85,fun o vs h c r e=>?_⟩
 dsimp only at e
 split at e
 · exact ⟨rfl,(ZhL o _ h c).trans e⟩
 · cases e
theorem Zne:Z0b K 19 Z3d:=(ai tt (ai (ai tt tt) (ai (ai tt (ai tt (ai (ai tt tt) tt))) tt)))
theorem Zmx:LE (H:=H) P K 86000 (fun o rd vs h c df=>match vs with | [t0,t1,t4,t7,t8]=>Z4K o rd t0 t1 t4 t7 t8 h c df | _=>none):=by
 intro lin b nt hk
 rw [ZgU] at hk
 cases hk
 refine ⟨Zne,fun o rd vs h c df q e=>?_⟩
 dsimp only at e
 split at e
 · exact (Z5r o rd _ _ _ _ _ h c df).trans e
 · cases e
theorem ck_86:Z0b K ZfA.nt ZfA.code:=(ai tt (ai (ai tt (ai rfl ZgU)) (ai tt tt)))
theorem fe_86:FE (H:=H) P bk K 86 (fun o vs h c=>match vs with | [t0,t1]=>ZkX o t0 t1 h c | _=>none):=by
 refine ⟨ZfA,bk_86,rfl,ck_86,fun o vs h c r e=>?_⟩
 dsimp only at e
 split at e
 · exact ⟨rfl,(ZhK o _ _ h c).trans e⟩
 · cases e
theorem ck_87:Z0b K Zfz.nt Zfz.code:=(ai tt (ai tt (ai tt tt)))
theorem fe_87:FE (H:=H) P bk K 87 (fun o vs h c=>match vs with | []=>ZkW o h c | _=>none):=by
 refine ⟨Zfz,bk_87,rfl,ck_87,fun o vs h c r e=>?_⟩
 dsimp only at e
 split at e
 · exact ⟨rfl,(ZhJ o h c).trans e⟩
 · cases e
theorem ck_88:Z0b K Zfy.nt Zfy.code:=(ai tt (ai tt tt))
theorem fe_88:FE (H:=H) P bk K 88 (fun o vs h c=>match vs with | [t0,t1,t2]=>ZkV o t0 t1 t2 h c | _=>none):=by
 refine ⟨Zfy,bk_88,rfl,ck_88,fun o vs h c r e=>?_⟩
 dsimp only at e
 split at e
 · exact ⟨rfl,(ZhI o _ _ _ h c).trans e⟩
 · cases e
theorem ck_89:Z0b K Zfx.nt Zfx.code:=(ai tt (ai tt tt))
theorem fe_89:FE (H:=H) P bk K 89 (fun o vs h c=>match vs with | []=>ZkU o h c | _=>none):=by
 refine ⟨Zfx,bk_89,rfl,ck_89,fun o vs h c r e=>?_⟩
 dsimp only at e
 split at e
 · exact ⟨rfl,(ZhH o h c).trans e⟩
 · cases e
theorem Znd:Z0b K 19 Z3c:=(ai tt (ai (ai tt tt) (ai (ai tt (ai tt (ai (ai tt tt) tt))) tt)))
theorem Zmw:LE (H:=H) P K 90000 (fun o rd vs h c df=>match vs with | [t0,t1,t4,t7,t8]=>Z4J o rd t0 t1 t4 t7 t8 h c df | _=>none):=by
 intro lin b nt hk
 rw [ZgT] at hk
 cases hk
 refine ⟨Znd,fun o rd vs h c df q e=>?_⟩
 dsimp only at e
 split at e
 · exact (Z5q o rd _ _ _ _ _ h c df).trans e
 · cases e
theorem ck_90:Z0b K Zfw.nt Zfw.code:=(ai tt (ai (ai tt (ai rfl ZgT)) (ai tt tt)))
theorem fe_90:FE (H:=H) P bk K 90 (fun o vs h c=>match vs with | [t0,t1]=>ZiX o t0 t1 h c | _=>none):=by
 refine ⟨Zfw,bk_90,rfl,ck_90,fun o vs h c r e=>?_⟩
 dsimp only at e
 split at e
 · exact ⟨rfl,(ZhG o _ _ h c).trans e⟩
 · cases e
theorem Znb:Z0b K 30 Z3a:=(ai tt (ai (ai tt tt) (ai (ai tt (ai tt (ai tt tt))) tt)))
theorem Zmu:LE (H:=H) P K 91001 (fun o rd vs h c df=>match vs with | [t0,t1,t3,t8,t9,t16,t17]=>Z1X o rd t0 t1 t3 t8 t9 t16 t17 h c df | _=>none):=by
 intro lin b nt hk
 rw [ZgR] at hk
 cases hk
 refine ⟨Znb,fun o rd vs h c df q e=>?_⟩
 dsimp only at e
 split at e
 · exact (Z5o o rd _ _ _ _ _ _ _ h c df).trans e
 · cases e
theorem Znc:Z0b K 30 Z3b:=(ai tt (ai (ai tt tt) (ai (ai tt (ai tt (ai rfl ZgR))) tt)))
theorem Zmv:LE (H:=H) P K 91000 (fun o rd vs h c df=>match vs with | [t0,t1,t8,t9]=>Z1Y o rd t0 t1 t8 t9 h c df | _=>none):=by
 intro lin b nt hk
 rw [ZgS] at hk
 cases hk
 refine ⟨Znc,fun o rd vs h c df q e=>?_⟩
 dsimp only at e
 split at e
 · exact (Z5p o rd _ _ _ _ h c df).trans e
 · cases e
theorem ck_91:Z0b K Zfv.nt Zfv.code:=(ai tt (ai rfl ZgS))
theorem fe_91:FE (H:=H) P bk K 91 (fun o vs h c=>match vs with | [t0,t1]=>ZiU o t0 t1 h c | _=>none):=by
 refine ⟨Zfv,bk_91,rfl,ck_91,fun o vs h c r e=>?_⟩
 dsimp only at e
 split at e
 · exact ⟨rfl,(ZhF o _ _ h c).trans e⟩
 · cases e
noncomputable def tbF:BT (Orc H->List Value->H->Nat->Option (Rt H)):=(.node 56 (fun o vs h c=>match vs with | [t0]=>Zla o t0 h c | _=>none) (.node 42 (fun o vs h c=>match vs with | [t0]=>Zlk o t0 h c | _=>none) (.node 17 (fun o vs h c=>match vs with | [t0,t1]=>Zrz o t0 t1 h c | _=>none) (.node 14 (fun o vs h c=>match vs with | [t0]=>ZrC o t0 h c | _=>none) (.node 13 (fun o vs h c=>match vs with | [t0]=>Zlp o t0 h c | _=>none) (.node 11 (fun o vs h c=>match vs with | []=>ZrF o h c | _=>none) .leaf .leaf) .leaf) (.node 16 (fun o vs h c=>match vs with | [t0,t1]=>ZrA o t0 t1 h c | _=>none) (.node 15 (fun o vs h c=>match vs with | [t0,t1]=>ZrB o t0 t1 h c | _=>none) .leaf .leaf) .leaf)) (.node 25 (fun o vs h c=>match vs with | [t0,t1]=>Zlm o t0 t1 h c | _=>none) (.node 23 (fun o vs h c=>match vs with | [t0,t1]=>Zln o t0 t1 h c | _=>none) (.node 21 (fun o vs h c=>match vs with | [t0,t1]=>Zlo o t0 t1 h c | _=>none) .leaf .leaf) .leaf) (.node 41 (fun o vs h c=>match vs with | [t0]=>Zll o t0 h c | _=>none) (.node 40 (fun o vs h c=>match vs with | [t0]=>Zrn o t0 h c | _=>none) .leaf .leaf) .leaf))) (.node 48 (fun o vs h c=>match vs with | [t0]=>Zrm o t0 h c | _=>none) (.node 45 (fun o vs h c=>match vs with | [t0]=>Zlh o t0 h c | _=>none) (.node 44 (fun o vs h c=>match vs with | [t0]=>Zli o t0 h c | _=>none) (.node 43 (fun o vs h c=>match vs with | [t0]=>Zlj o t0 h c | _=>none) .leaf .leaf) .leaf) (.node 47 (fun o vs h c=>match vs with | [t0,t1]=>Zle o t0 t1 h c | _=>none) (.node 46 (fun o vs h c=>match vs with | [t0,t1]=>Zlg o t0 t1 h c | _=>none) .leaf .leaf) .leaf)) (.node 53 (fun o vs h c=>match vs with | [t0]=>Zld o t0 h c | _=>none) (.node 50 (fun o vs h c=>match vs with | [t0,t1,t2,t3]=>Zj9 o t0 t1 t2 t3 h c | _=>none) (.node 49 (fun o vs h c=>match vs with | [t0,t1]=>Zrl o t0 t1 h c | _=>none) .leaf .leaf) .leaf) (.node 55 (fun o vs h c=>match vs with | [t0]=>Zlb o t0 h c | _=>none) .leaf .leaf)))) (.node 76 (fun o vs h c=>match vs with | [t0]=>Zl2 o t0 h c | _=>none) (.node 70 (fun o vs h c=>match vs with | [t0]=>Zl6 o t0 h c | _=>none) (.node 60 (fun o vs h c=>match vs with | []=>Zl7 o h c | _=>none) (.node 59 (fun o vs h c=>match vs with | [t0]=>Zl8 o t0 h c | _=>none) (.node 57 (fun o vs h c=>match vs with | [t0,t1]=>Zl9 o t0 t1 h c | _=>none) .leaf .leaf) .leaf) (.node 69 (fun o vs h c=>match vs with | [t0]=>Zr9 o t0 h c | _=>none) (.node 68 (fun o vs h c=>match vs with | [t0]=>Zra o t0 h c | _=>none) .leaf .leaf) .leaf)) (.node 73 (fun o vs h c=>match vs with | [t0,t1]=>Zl4 o t0 t1 h c | _=>none) (.node 72 (fun o vs h c=>match vs with | [t0,t1,t2]=>Zj3 o t0 t1 t2 h c | _=>none) (.node 71 (fun o vs h c=>match vs with | [t0]=>Zl5 o t0 h c | _=>none) .leaf .leaf) .leaf) (.node 75 (fun o vs h c=>match vs with | [t0,t1]=>Zl3 o t0 t1 h c | _=>none) (.node 74 (fun o vs h c=>match vs with | [t0,t1,t2]=>Zr6 o t0 t1 t2 h c | _=>none) .leaf .leaf) .leaf))) (.node 87 (fun o vs h c=>match vs with | []=>ZkW o h c | _=>none) (.node 84 (fun o vs h c=>match vs with | [t0]=>ZkZ o t0 h c | _=>none) (.node 83 (fun o vs h c=>match vs with | [t0]=>Zl0 o t0 h c | _=>none) (.node 77 (fun o vs h c=>match vs with | [t0,t1]=>Zl1 o t0 t1 h c | _=>none) .leaf .leaf) .leaf) (.node 86 (fun o vs h c=>match vs with | [t0,t1]=>ZkX o t0 t1 h c | _=>none) (.node 85 (fun o vs h c=>match vs with | [t0]=>ZkY o t0 h c | _=>none) .leaf .leaf) .leaf)) (.node 90 (fun o vs h c=>match vs with | [t0,t1]=>ZiX o t0 t1 h c | _=>none) (.node 89 (fun o vs h c=>match vs with | []=>ZkU o h c | _=>none) (.node 88 (fun o vs h c=>match vs with | [t0,t1,t2]=>ZkV o t0 t1 t2 h c | _=>none) .leaf .leaf) .leaf) (.node 91 (fun o vs h c=>match vs with | [t0,t1]=>ZiU o t0 t1 h c | _=>none) .leaf .leaf)))))
noncomputable def tbL:BT (Orc H->Option Nat->List Value->H->Nat->List Nat->Option (Rt H)):=(.node 47001 (fun o rd vs h c df=>match vs with | [t2,t4,t7,t15,t16,t17,t35,t36]=>Z4V o rd t2 t4 t7 t15 t16 t17 t35 t36 h c df | _=>none) (.node 23002 (fun o rd vs h c df=>match vs with | [t1,t4,t5,t8,t11,t12,t33,t34,t35,t81,t82]=>Z53 o rd t1 t4 t5 t8 t11 t12 t33 t34 t35 t81 t82 h c df | _=>none) (.node 15001 (fun o rd vs h c df=>match vs with | [t1,t7,t8,t28,t29,t30,t35,t36]=>Z9E o rd t1 t7 t8 t28 t29 t30 t35 t36 h c df | _=>none) (.node 14000 (fun o rd vs h c df=>match vs with | [t1,t5,t7,t26,t27,t28]=>Z9H o rd t1 t5 t7 t26 t27 t28 h c df | _=>none) (.node 13001 (fun o rd vs h c df=>match vs with | [t1,t2,t3,t4,t5]=>Z20 o rd t1 t2 t3 t4 t5 h c df | _=>none) (.node 13000 (fun o rd vs h c df=>match vs with | [t1,t2,t3,t4]=>Z1q o rd t1 t2 t3 t4 h c df | _=>none) .leaf .leaf) .leaf) (.node 15000 (fun o rd vs h c df=>match vs with | [t1,t7,t28,t29,t30]=>Z9F o rd t1 t7 t28 t29 t30 h c df | _=>none) (.node 14001 (fun o rd vs h c df=>match vs with | [t1,t5,t7,t9,t10,t26,t27,t28,t42,t43]=>Z9G o rd t1 t5 t7 t9 t10 t26 t27 t28 t42 t43 h c df | _=>none) .leaf .leaf) .leaf)) (.node 23000 (fun o rd vs h c df=>match vs with | [t1,t4,t5,t8,t33,t34,t35]=>Z3S o rd t1 t4 t5 t8 t33 t34 t35 h c df | _=>none) (.node 21000 (fun o rd vs h c df=>match vs with | [t0,t1,t4,t5]=>Z55 o rd t0 t1 t4 t5 h c df | _=>none) (.node 15002 (fun o rd vs h c df=>match vs with | [t1,t7,t8,t10,t28,t29,t30,t35,t36,t63]=>Z9D o rd t1 t7 t8 t10 t28 t29 t30 t35 t36 t63 h c df | _=>none) .leaf .leaf) .leaf) (.node 23001 (fun o rd vs h c df=>match vs with | [t1,t4,t5,t8,t11,t12,t33,t34,t35,t53,t54]=>Z54 o rd t1 t4 t5 t8 t11 t12 t33 t34 t35 t53 t54 h c df | _=>none) .leaf .leaf))) (.node 42000 (fun o rd vs h c df=>match vs with | [t1,t2,t3,t4]=>Z2v o rd t1 t2 t3 t4 h c df | _=>none) (.node 40001 (fun o rd vs h c df=>match vs with | [t2,t3,t4,t5,t7,t8,t9,t10,t11]=>Z90 o rd t2 t3 t4 t5 t7 t8 t9 t10 t11 h c df | _=>none) (.node 40000 (fun o rd vs h c df=>match vs with | [t2,t3,t4,t5,t7,t8,t9]=>Z91 o rd t2 t3 t4 t5 t7 t8 t9 h c df | _=>none) (.node 25000 (fun o rd vs h c df=>match vs with | [t1,t2,t4,t5,t29,t30]=>Z3O o rd t1 t2 t4 t5 t29 t30 h c df | _=>none) .leaf .leaf) .leaf) (.node 41000 (fun o rd vs h c df=>match vs with | [t1,t2,t3,t4]=>Z1p o rd t1 t2 t3 t4 h c df | _=>none) (.node 40002 (fun o rd vs h c df=>match vs with | [t2,t3,t4,t5,t7,t8,t9,t10,t11,t14]=>Z8Z o rd t2 t3 t4 t5 t7 t8 t9 t10 t11 t14 h c df | _=>none) .leaf .leaf) .leaf)) (.node 46000 (fun o rd vs h c df=>match vs with | [t0,t1]=>Z6J o rd t0 t1 h c df | _=>none) (.node 45000 (fun o rd vs h c df=>match vs with | [t0,t3,t9,t10]=>Z4X o rd t0 t3 t9 t10 h c df | _=>none) (.node 44001 (fun o rd vs h c df=>match vs with | [t6,t7,t8,t52]=>Z2u o rd t6 t7 t8 t52 h c df | _=>none) .leaf .leaf) .leaf) (.node 47000 (fun o rd vs h c df=>match vs with | [t2,t4,t15,t16,t17]=>Z4W o rd t2 t4 t15 t16 t17 h c df | _=>none) .leaf .leaf)))) (.node 71000 (fun o rd vs h c df=>match vs with | [t2,t3,t10,t11]=>Z4P o rd t2 t3 t10 t11 h c df | _=>none) (.node 57002 (fun o rd vs h c df=>match vs with | [t2,t4,t5,t7,t11,t14,t15,t16,t62,t63,t64]=>Z3u o rd t2 t4 t5 t7 t11 t14 t15 t16 t62 t63 t64 h c df | _=>none) (.node 56000 (fun o rd vs h c df=>match vs with | [t3,t6,t7,t8]=>Z4U o rd t3 t6 t7 t8 h c df | _=>none) (.node 49000 (fun o rd vs h c df=>match vs with | [t1,t7,t19,t20,t21]=>Z8W o rd t1 t7 t19 t20 t21 h c df | _=>none) (.node 48000 (fun o rd vs h c df=>match vs with | [t3,t6,t7,t8]=>Z8X o rd t3 t6 t7 t8 h c df | _=>none) .leaf .leaf) .leaf) (.node 57001 (fun o rd vs h c df=>match vs with | [t2,t4,t5,t7,t11,t62,t63,t64]=>Z3v o rd t2 t4 t5 t7 t11 t62 t63 t64 h c df | _=>none) (.node 57000 (fun o rd vs h c df=>match vs with | [t1,t2,t4,t5,t6,t7,t33,t34]=>Z4T o rd t1 t2 t4 t5 t6 t7 t33 t34 h c df | _=>none) .leaf .leaf) .leaf)) (.node 68000 (fun o rd vs h c df=>match vs with | [t0,t3,t4,t5]=>Z8F o rd t0 t3 t4 t5 h c df | _=>none) (.node 57004 (fun o rd vs h c df=>match vs with | [t2,t4,t5,t7,t11,t15,t62,t63,t64,t177,t178,t179]=>Z4S o rd t2 t4 t5 t7 t11 t15 t62 t63 t64 t177 t178 t179 h c df | _=>none) (.node 57003 (fun o rd vs h c df=>match vs with | [t2,t4,t5,t7,t11,t14,t15,t16,t17,t18,t62,t63,t64,t93,t94]=>Z1F o rd t2 t4 t5 t7 t11 t14 t15 t16 t17 t18 t62 t63 t64 t93 t94 h c df | _=>none) .leaf .leaf) .leaf) (.node 69000 (fun o rd vs h c df=>match vs with | [t0,t2,t3,t4,t5]=>Z8E o rd t0 t2 t3 t4 t5 h c df | _=>none) .leaf .leaf))) (.node 85000 (fun o rd vs h c df=>match vs with | [t2,t3,t6,t7]=>Z2r o rd t2 t3 t6 t7 h c df | _=>none) (.node 77001 (fun o rd vs h c df=>match vs with | [t0,t3,t9,t10,t11,t16,t17]=>Z4N o rd t0 t3 t9 t10 t11 t16 t17 h c df | _=>none) (.node 77000 (fun o rd vs h c df=>match vs with | [t0,t9,t10,t11]=>Z4O o rd t0 t9 t10 t11 h c df | _=>none) (.node 74000 (fun o rd vs h c df=>match vs with | [t0,t1,t7,t8,t9,t34]=>Z8D o rd t0 t1 t7 t8 t9 t34 h c df | _=>none) .leaf .leaf) .leaf) (.node 84000 (fun o rd vs h c df=>match vs with | [t2,t3,t6,t7]=>Z1Z o rd t2 t3 t6 t7 h c df | _=>none) (.node 77002 (fun o rd vs h c df=>match vs with | [t0,t3,t5,t6,t9,t10,t11,t16,t17,t44]=>Z2s o rd t0 t3 t5 t6 t9 t10 t11 t16 t17 t44 h c df | _=>none) .leaf .leaf) .leaf)) (.node 91000 (fun o rd vs h c df=>match vs with | [t0,t1,t8,t9]=>Z1Y o rd t0 t1 t8 t9 h c df | _=>none) (.node 90000 (fun o rd vs h c df=>match vs with | [t0,t1,t4,t7,t8]=>Z4J o rd t0 t1 t4 t7 t8 h c df | _=>none) (.node 86000 (fun o rd vs h c df=>match vs with | [t0,t1,t4,t7,t8]=>Z4K o rd t0 t1 t4 t7 t8 h c df | _=>none) .leaf .leaf) .leaf) (.node 91001 (fun o rd vs h c df=>match vs with | [t0,t1,t3,t8,t9,t16,t17]=>Z1X o rd t0 t1 t3 t8 t9 t16 t17 h c df | _=>none) .leaf .leaf)))))
noncomputable def tbR:List (Nat × List Nat × (Orc H->Nat->List Value->H->Nat->Option (Rt H))):=[(92,[25],(fun o l vs h c=>match vs with | [t25,t1,t5,t6]=>Z3F o l t25 t1 t5 t6 h c | _=>none)),(71,[52],(fun o l vs h c=>match vs with | [t52,t4,t7]=>Z3B o l t52 t4 t7 h c | _=>none)),(71,[13,14],(fun o l vs h c=>match vs with | [t13,t14,t1,t2,t3]=>Z3m o l t13 t14 t1 t2 t3 h c | _=>none))]
noncomputable def tab:Tab H:={ F:=fun f=>tbF.look f,L:=fun j=>tbL.look j,R:=fun nt ps=>ZkE nt ps tbR }
theorem tab_ok:TabOK (H:=H) P bk K tab:=⟨fun f F e=>BT.look_all (Q:=FE P bk K) (t:=tbF) (ai fe_56 (ai (ai fe_42 (ai (ai fe_17 (ai (ai fe_14 (ai (ai fe_13 (ai (ai fe_11 (ai tt tt)) tt)) (ai fe_16 (ai (ai fe_15 (ai tt tt)) tt)))) (ai fe_25 (ai (ai fe_23 (ai (ai fe_21 (ai tt tt)) tt)) (ai fe_41 (ai (ai fe_40 (ai tt tt)) tt)))))) (ai fe_48 (ai (ai fe_45 (ai (ai fe_44 (ai (ai fe_43 (ai tt tt)) tt)) (ai fe_47 (ai (ai fe_46 (ai tt tt)) tt)))) (ai fe_53 (ai (ai fe_50 (ai (ai fe_49 (ai tt tt)) tt)) (ai fe_55 (ai tt tt)))))))) (ai fe_76 (ai (ai fe_70 (ai (ai fe_60 (ai (ai fe_59 (ai (ai fe_57 (ai tt tt)) tt)) (ai fe_69 (ai (ai fe_68 (ai tt tt)) tt)))) (ai fe_73 (ai (ai fe_72 (ai (ai fe_71 (ai tt tt)) tt)) (ai fe_75 (ai (ai fe_74 (ai tt tt)) tt)))))) (ai fe_87 (ai (ai fe_84 (ai (ai fe_83 (ai (ai fe_77 (ai tt tt)) tt)) (ai fe_86 (ai (ai fe_85 (ai tt tt)) tt)))) (ai fe_90 (ai (ai fe_89 (ai (ai fe_88 (ai tt tt)) tt)) (ai fe_91 (ai tt tt)))))))))) e,
 fun j B lin b nt e hk=>BT.look_all (Q:=LE P K) (t:=tbL) (ai ZmP (ai (ai Zn0 (ai (ai Zn5 (ai (ai Zn8 (ai (ai Zn9 (ai (ai Zna (ai tt tt)) tt)) (ai Zn6 (ai (ai Zn7 (ai tt tt)) tt)))) (ai Zn2 (ai (ai Zn3 (ai (ai Zn4 (ai tt tt)) tt)) (ai Zn1 (ai tt tt)))))) (ai ZmU (ai (ai ZmX (ai (ai ZmY (ai (ai ZmZ (ai tt tt)) tt)) (ai ZmV (ai (ai ZmW (ai tt tt)) tt)))) (ai ZmR (ai (ai ZmS (ai (ai ZmT (ai tt tt)) tt)) (ai ZmQ (ai tt tt)))))))) (ai ZmE (ai (ai ZmJ (ai (ai ZmM (ai (ai ZmN (ai (ai ZmO (ai tt tt)) tt)) (ai ZmK (ai (ai ZmL (ai tt tt)) tt)))) (ai ZmG (ai (ai ZmH (ai (ai ZmI (ai tt tt)) tt)) (ai ZmF (ai tt tt)))))) (ai Zmy (ai (ai ZmB (ai (ai ZmC (ai (ai ZmD (ai tt tt)) tt)) (ai Zmz (ai (ai ZmA (ai tt tt)) tt)))) (ai Zmv (ai (ai Zmw (ai (ai Zmx (ai tt tt)) tt)) (ai Zmu (ai tt tt)))))))))) e lin b nt hk,
 fun nt ps D lin a b e hk=>Zeq (Q:=RE P K) (l:=tbR) (ai Zmg (ai Zmf (ai Zme tt))) e lin a b hk⟩
theorem ev_run {n:Nat} {k:Key} {vs:List Value} {h:H} {c:Nat} {df:List Nat} {r:Rt H} (hk:KeyOK K k) (hi:Z7r K h) (e:evT tab n k vs h c df=some r):run P bk k vs h c df=some r:=(Zie tab_ok n k vs h c df r hk hi e).1

theorem ZlL (t:TypeId) (a b:Int):Z00 P .or t (.int .i64 a) (.int .i64 b)=some (.int .i64 (orB a b)):=by rw [Z0H]; simp [Z0U,Z1T,orB]; rfl
theorem Zgp (t:TypeId) (x:Int) (h:0<=x):Z00 P .shl t (.int .i64 1) (.int .i64 x)=some (.int .i64 (shB x)):=by
 rw [Z0H]
 have:¬ x<0:=by omega
 simp [Z0U,Z6u,shB,this]; rfl
theorem Zit (p:List Int) (hp:p.length=4) (h:FH) (c:Nat) (df:List Nat):∀ (k i:Nat) (m:Int),i+k=4 →
 Ans (G (Z4M none) [.bool false,.int .i64 m,av p,.int .i64 i] h c df) fun r=>r.h=h/\r.c=c/\r.df=df ∧
  (match Z7u (p.drop i) m with
   | some m'=>r.e = .exit 0/\r.v 1 = .int .i64 m'
   | none=>r.e = .ret/\r.v 0 = .bool false):=by
 intro k
 induction k with
 | zero =>
  intro i m hi
  obtain rfl:i=4:=by omega
  rw [List.drop_of_length_le qO]
  have e1:¬ ((4:Nat):Int)<4:=by omega
  refine .intro (ZbX (q:=⟨.exit 0,[.bool false,.int .i64 m,av p,.int .i64 (4:Nat)],h,c+1,df⟩) (by unfold Z1Z; simp [e1]) (by simp)) ?_
  rw [Z1C (by simp)]
  simp [Z7u]
 | succ k ih =>
  intro i m hi
  have hlt:i<p.length:=by omega
  have e0:(i:Int)<4:=by omega
  rw [List.drop_eq_getElem_cons hlt]
  have hx:p.getD i 0=p[i]:=by simp [List.getD,List.getElem?_eq_getElem hlt]
  by_cases hc:p[i]<0 ∨ 3<p[i]
  · simp only [Z7u,hc,if_true]
    refine .intro (ZbX (q:=⟨.ret,[.bool false,.int .i64 m,av p,.int .i64 i],h,_,df⟩) (by
     unfold Z1Z
     by_cases h1:p[i]<0
     · simp (disch:=omega) [e0,ZaN,hx,h1,-List.getD_eq_getElem?_getD]; rfl
     · have h2:3<p[i]:=by omega
       simp (disch:=omega) [e0,ZaN,hx,h1,h2,-List.getD_eq_getElem?_getD] <;> rfl) (by simp)) ?_
    rw [Z1C (by simp)]
    simp
  · have h1:¬ p[i]<0:=by omega
    have h2:¬ 3<p[i]:=by omega
    simp only [Z7u,hc,if_false]
    obtain ⟨r,hr,hq⟩:=ih (i+1) (orB m (shB p[i])) qO
    refine .intro (Zj0 (q:=⟨.normal,[.bool false,.int .i64 (orB m (shB p[i])),av p,.int .i64 (i+1:Nat)],h,c+1+1+1+1+1,df⟩) (by
     unfold Z1Z
     simp (disch:=omega) [e0,ZaN,hx,h1,h2,Zgp _ p[i] qO,ZlL,-List.getD_eq_getElem?_getD]) rfl ?_) hq
    rw [Z1C (by simp)]
    exact hr
theorem ZlR (p:List Int) (hp:p.length=4) (h:FH) (c:Nat) (df:List Nat) :
 G (.fn 84) [av p] h c df=some ⟨.ret,[.bool (Z1s p)],h,c,[]⟩:=by
 refine Z7h (fun r e=>f84_go e) (by simp) ?_
 obtain ⟨⟨re,rv,rh,rc,rd⟩,hr,h1,h2,h3,h4⟩:=Zit p hp (newB h (256*c) (ints p)) (c+1+1+1) [] 4 0 0 rfl
 simp only at h1 h2 h3
 subst h1 h2 h3
 unfold ZkZ
 simp only [List.drop_zero] at h4
 have e1:p.take 4=p:=List.take_of_length_le qO
 simp only [Int.ofNat_eq_natCast,Int.cast_ofNat_Int] at hr
 unfold Z1s
 cases hv:Z7u p 0 with
 | none =>
  rw [hv] at h4
  obtain ⟨rfl,h5⟩:=h4
  simp [hr,e1,hp,h5]
 | some m =>
  rw [hv] at h4
  obtain ⟨rfl,h5⟩:=h4
  simp [hr,e1,hp,h5]
theorem Zet (p:List Int) (hp:p.length=4) (hr:InR p) (h:FH) (b1 b3 c:Nat) (hb1:b1<256*c) (hb:b3<256*c) (df:List Nat):∀ (k i:Nat) (out:List Int),i+k=4->out.length=4 →
 G (Z4L none) [ptrTo b1,ptrTo b3,av p,.int .i64 i] (newB h b3 (ints out)) c df =
  some ⟨.exit 0,[ptrTo b1,ptrTo b3,av p,.int .i64 4],newB h b3 (ints (ZiP (p.drop i) i out)),c,df⟩:=by
 intro k
 induction k with
 | zero =>
  intro i out hi ho
  obtain rfl:i=4:=by omega
  rw [List.drop_of_length_le qO]
  refine (ZiY (q:=⟨.exit 0,[ptrTo b1,ptrTo b3,av p,.int .i64 4],newB h b3 (ints out),c+1,df⟩) (by unfold Z2r; simp) (by simp)).trans ?_
  rw [Z1C (by simp [hb1,hb])]
  rfl
 | succ k ih =>
  intro i out hi ho
  have hlt:i<p.length:=by omega
  have e0:(i:Int)<4:=by omega
  rw [List.drop_eq_getElem_cons hlt]
  have hx:p.getD i 0=p[i]:=by simp [List.getD,List.getElem?_eq_getElem hlt]
  have hxr:=hr p[i] (List.getElem_mem hlt)
  refine ZiZ (q:=⟨.normal,[ptrTo b1,ptrTo b3,av p,.int .i64 (i+1:Nat)],newB h b3 (ints (out.set p[i].toNat i)),c+1+1+1+1,df⟩) ?_ rfl ?_
  · unfold Z2r
    simp (disch:=(first | omega | (simp <;> omega) | fail)) [e0,ZaN,hx,hxr,ho,-List.getD_eq_getElem?_getD]
  · rw [Zfp hb (by simp [hb1,hb]) (by simp)]
    exact ih (i+1) _ qO (by simpa using ho)
theorem ZiO (p:List Int) (hp:p.length=4) (hr:InR p) (h:FH) (c:Nat) (df:List Nat) :
 G (.fn 85) [av p] h c df=some ⟨.ret,[av (inv p)],h,c,[]⟩:=by
 refine Z7h (fun r e=>f85_go e) (by simp) ?_
 have e1:p.take 4=p:=List.take_of_length_le qO
 have hl:=Zet p hp hr (newB (newB h (256*c) (ints p)) (256*c+1) (ints [0,0,0,0])) (256*c+1) (256*(c+1)) (c+1+1+1) qO qO [] 4 0 [0,0,0,0] rfl rfl
 have hl2:(ZiP p 0 [0,0,0,0]).length=4:=Z4e p 0 [0,0,0,0]
 have e2:(ZiP p 0 [0,0,0,0]).take 4=ZiP p 0 [0,0,0,0]:=List.take_of_length_le qO
 unfold ZkY
 simp only [Zeu,ZhA,Int.ofNat_eq_natCast,Int.cast_ofNat_Int,List.drop_zero] at hl
 simp (disch:=(first | omega | (simp <;> omega) | fail)) [hl,e1,e2,hp,hl2,inv]

theorem Zpb (a0 a1 a2 a3 a4 b0 b1 b2 b3 b4:Int):Z0U P .eql 41 (av [a0,a1,a2,a3,a4]) (av [b0,b1,b2,b3,b4]) =
 (cond (a0 == b0) ((cond (a1 == b1) (cond (a2 == b2) (cond (a3 == b3) (cond (a4 == b4) (some true) (some false)) (some false)) (some false)) (some false)).bind fun r=>cond r (some true) (some false)) (some false)).bind fun b=>some (.bool b):=by kernel_rfl
theorem Z4v (x y:List Int) (hx:x.length=5) (hy:y.length=5):Z00 P .eql 41 (av x) (av y)=some (.bool (decide (x=y))):=by
 match x,hx,y,hy with
 | [a0,a1,a2,a3,a4],_,[b0,b1,b2,b3,b4],_ =>
  rw [Z0H,Zpb]
  by_cases h0:a0=b0 <;> by_cases h1:a1=b1 <;> by_cases h2:a2=b2 <;> by_cases h3:a3=b3 <;> by_cases h4:a4=b4 <;> simp [h0,h1,h2,h3,h4,Bool.cond_eq_ite]
theorem Z6B (x y:List Int) (hx:x.length=5) (hy:y.length=5):Z00 P .neq 41 (av x) (av y)=some (.bool (!decide (x=y))):=by
 have h:=Z4v x y hx hy
 rw [Z0H] at h ⊢
 have e1:Z0U P .eql 41 (av x) (av y)=cond (Z7i P 41 (av x)) ((aEq P Z2y 41 (av x) (av y)).bind fun b=>some (.bool b)) none:=rfl
 have e2:Z0U P .neq 41 (av x) (av y)=cond (Z7i P 41 (av x)) ((aEq P Z2y 41 (av x) (av y)).bind fun b=>some (.bool (!b))) none:=rfl
 rw [e1] at h
 rw [e2]
 cases hg:Z7i P 41 (av x) with
 | false=>rw [hg] at h; cases h
 | true =>
  rw [hg] at h
  simp only [cond_true] at h ⊢
  cases hq:aEq P Z2y 41 (av x) (av y) with
  | none=>rw [hq] at h; cases h
  | some b=>rw [hq] at h; simp only [Option.bind_some,Option.some.injEq,Value.bool.injEq] at h ⊢; rw [h]
structure FacesI (y:Value) (s:Value) (n:Nat) (Gl:List Int) (gb:Nat) (I:Nat->FH->Nat->Prop) (J:FH->Nat->Prop):Prop where
 stab:∀ k h c h' c',I k h c->c<=c'->Z0u c h h'->I k h' c'
 jstab:∀ h c h' c',J h c->c<=c'->Z0u c h h'->J h' c'
 read:∀ k h c,I k h c->Z09 h gb [s]/\SlI h c s 20 n Gl
 step:∀ t f h c,t<n->f<4->I (4*t+f) h c →
  Ans (Z2A G h c y [av [(t:Int),(f:Int)],av (Z03 Gl t f)]) (fun q=>c<=q.2.2/\((q.1 = .bool true/\I (4*t+f+1) q.2.1 q.2.2) ∨ (q.1 = .bool false/\J q.2.1 q.2.2)))
theorem Zoa {y s:Value} {n:Nat} {Gl:List Int} {gb:Nat} {I:Nat->FH->Nat->Prop} {J:FH->Nat->Prop} (hI:FacesI y s n Gl gb I J) (hG:Gl.length=n*20) (t:Nat) (ht:t<n) (df:List Nat) :
 ∀ (k f:Nat) (h:FH) (c:Nat),f+k=4->I (4*t+f) h c →
 Ans (G (Z4H none) [y,ptrTo gb,.int .i64 t,.int .i64 n,.int .i64 t,av (Z73 Gl t),.int .i64 f] h c df) fun r=>c<=r.c/\r.df=df ∧
  ((r.e = .exit 2/\r.vs=[y,ptrTo gb,.int .i64 t,.int .i64 n,.int .i64 t,av (Z73 Gl t),.int .i64 4]/\I (4*t+4) r.h r.c) ∨ (r.e = .ret/\r.vs.length=7/\J r.h r.c)):=by
 intro k
 induction k with
 | zero =>
  intro f h c hf hi
  obtain rfl:f=4:=by omega
  refine .intro (ZbT (q:=⟨.exit 2,_,h,c+1,df⟩) (by unfold Z1X; simp; rfl) (by simp)) ?_
  exact ⟨by simp,rfl,.inl ⟨rfl,rfl,hI.stab _ _ _ _ _ hi (by simp) (Z0u.refl _ _)⟩⟩
 | succ k ih =>
  intro f h c hf hi
  have hf4:f<4:=by omega
  have e0:(f:Int)<4:=by omega
  have hl:=Z0o hG ht hf4
  have hrl:=Z5i hG ht
  have hb:∀ cs,Z0u c h (newB h (256*(c+1)+2) cs):=fun cs=>(Z0u.refl _ _).newB qO
  obtain ⟨q,hq,hcq,hcase⟩:=hI.step t f (newB h (256*(c+1)+2) (ints (Z03 Gl t f))) (c+1+1+1) ht hf4 (hI.stab _ _ _ _ _ hi qO (hb _))
  have e1:(Z03 Gl t f).take 5=Z03 Gl t f:=List.take_of_length_le qO
  have body:Z1X G none y (ptrTo gb) (.int .i64 t) (.int .i64 n) (.int .i64 t) (av (Z73 Gl t)) (.int .i64 f) h c df =
   (Z1i .not q.1).bind fun t27=>Z07 t27 (some ⟨.ret,[y,ptrTo gb,.int .i64 t,.int .i64 n,.int .i64 t,av (Z73 Gl t),.int .i64 f],q.2.1,q.2.2,df⟩)
    (some ⟨.normal,[y,ptrTo gb,.int .i64 t,.int .i64 n,.int .i64 t,av (Z73 Gl t),.int .i64 (f+1:Nat)],q.2.1,q.2.2+1,df⟩):=by
   unfold Z1X
   simp (disch:=(first | omega | (simp <;> omega) | fail)) [e0,Z8s,hrl,Zda hf4,hl,e1,bld2,hq]
  rcases hcase with ⟨hv,hi2⟩ | ⟨hv,hj⟩
  · rw [hv] at body
    simp only [aUnOp_not,Option.bind_some,boolK_bool,Bool.not_true,cond_false] at body
    refine (ih (f+1) q.2.1 (q.2.2+1) qO (hI.stab _ _ _ _ _ hi2 qO (Z0u.refl _ _))).elim fun r ⟨hr,h1,h2⟩=>?_
    exact .intro (ZiV body rfl hr) ⟨by omega,h2⟩
  · rw [hv] at body
    simp only [aUnOp_not,Option.bind_some,boolK_bool,Bool.not_false,cond_true] at body
    exact .intro (ZbT body (by simp)) ⟨by simp; omega,rfl,.inr ⟨rfl,rfl,hj⟩⟩
theorem ZkS {y s:Value} {n:Nat} {Gl:List Int} {gb:Nat} {I:Nat->FH->Nat->Prop} {J:FH->Nat->Prop} (hI:FacesI y s n Gl gb I J) (hG:Gl.length=n*20) (hn:n<=9223372036854775807) (df:List Nat) :
 ∀ (k t:Nat) (h:FH) (c:Nat),t+k=n->I (4*t) h c →
 Ans (G (Z4I none) [y,ptrTo gb,.int .i64 n,.int .i64 t] h c df) fun r=>c<=r.c/\r.df=df ∧
  ((r.e = .exit 0/\I (4*n) r.h r.c) ∨ (r.e = .ret/\J r.h r.c)):=by
 intro k
 induction k with
 | zero =>
  intro t h c ht hi
  obtain rfl:t=n:=by omega
  refine .intro (ZbU (q:=⟨.exit 0,_,h,c+1,df⟩) (by unfold Z1Y; simp; rfl) (by simp)) ?_
  exact ⟨by simp,rfl,.inl ⟨rfl,hI.stab _ _ _ _ _ hi (by simp) (Z0u.refl _ _)⟩⟩
 | succ k ih =>
  intro t h c ht hi
  have htn:t<n:=by omega
  have e0:(t:Int)<n:=by omega
  obtain ⟨hgb,hs⟩:=hI.read _ _ _ hi
  obtain ⟨b,o,cs,e1,hb,hh,hw⟩:=hs.ix .i64 t qO e0
  have e2:ld1 h (.pointer (some ⟨gb,0,none⟩))=some s:=by rw [Z01 hgb]; rfl
  have e3:ldN h 20 (.pointer (some ⟨b,o+t*20,none⟩))=some (av (Z73 Gl t)):=by
   have:=Zdl hh hw (j:=t*20) (q:=20) qO qO
   rw [this]; unfold Z73; rw [Nat.mul_comm]
  simp only [Int.toNat_natCast] at e1
  obtain ⟨r,hr,hcr,hdf,hcase⟩:=Zoa hI hG t htn df 4 0 h (c+1+1+1) rfl (hI.stab _ _ _ _ _ hi qO (Z0u.refl _ _))
  have body:Z1Y G none y (ptrTo gb) (.int .i64 n) (.int .i64 t) h c df =
   cond (Z0q r.e (.exit 2)) ((Z00 P .add 3 (r.v 4) (.int .i64 1)).bind fun t29=>some ⟨.normal,[(r.v 0),(r.v 1),(r.v 3),t29],r.h,(r.c+1),r.df⟩)
    (cond (Z0q r.e .ret) (some ⟨.ret,[(r.v 0),(r.v 1),(r.v 3),(r.v 4)],r.h,r.c,r.df⟩) none):=by
   unfold Z1Y
   simp only [Int.ofNat_eq_natCast,Int.cast_ofNat_Int] at hr
   simp (disch:=(first | omega | (simp <;> omega) | fail)) [e0,e2,e1,e3,hr]
  obtain ⟨re,rv,rh,rc,rd⟩:=r
  simp only at hcase hcr hdf
  subst hdf
  rcases hcase with ⟨rfl,rfl,hi2⟩ | ⟨rfl,hl,hj⟩
  · simp (disch:=omega) at body
    refine (ih (t+1) rh (rc+1) qO (hI.stab _ _ _ _ _ hi2 qO (Z0u.refl _ _))).elim fun r ⟨hr2,h1,h2⟩=>?_
    exact .intro (ZiW body rfl (by simpa using hr2)) ⟨by omega,h2⟩
  · simp at body
    exact .intro (ZbU body (by simp)) ⟨by simp; omega,rfl,.inr ⟨rfl,hj⟩⟩
theorem Zo9 {y s:Value} {n:Nat} {Gl:List Int} {gb:Nat} {I:Nat->FH->Nat->Prop} {J:FH->Nat->Prop} (hI:FacesI y s n Gl gb I J) {h:FH} {c:Nat} (hi:I 0 h c) (df:List Nat) :
 Ans (G (.fn 91) [y,ptrTo gb] h c df) fun r=>r.e = .ret/\r.vs=[.tuple #[]]/\r.df=[]/\c<=r.c/\(I (4*n) r.h r.c ∨ J r.h r.c):=by
 obtain ⟨hgb,hs⟩:=hI.read _ _ _ hi
 obtain ⟨r,hr,hcr,hdf,hcase⟩:=ZkS hI hs.1 hs.2.1 [] n 0 h (c+1) qO (hI.stab _ _ _ _ _ hi qO (Z0u.refl _ _))
 have e2:ld1 h (.pointer (some ⟨gb,0,none⟩))=some s:=by rw [Z01 hgb]; rfl
 obtain ⟨re,rv,rh,rc,rd⟩:=r
 simp only at hcase hcr hdf
 subst hdf
 simp only [Int.ofNat_eq_natCast,Int.cast_ofNat_Int] at hr
 rcases hcase with ⟨rfl,hi2⟩ | ⟨rfl,hj⟩
 · refine .intro (ZpW (r:=⟨.ret,[.tuple #[]],rh,rc,[]⟩) (by unfold ZiU; simp [e2,hs.len,hr])) ?_
   exact ⟨rfl,rfl,rfl,by simp; omega,.inl hi2⟩
 · refine .intro (ZpW (r:=⟨.ret,[.tuple #[]],rh,rc,[]⟩) (by unfold ZiU; simp [e2,hs.len,hr])) ?_
   exact ⟨rfl,rfl,rfl,by simp; omega,.inr hj⟩
end Go.Proofs.Ytcnndelmnobigaa
