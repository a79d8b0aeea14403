/- Parts of a proof: E C1 C2. Conditions: none. -/
import Derived.Test.YtcnndelmnobigaaM10
import Derived.Test.YtcnndelmnobigaaM11
import Derived.Test.YtcnndelmnobigaaM12
import Derived.Test.YtcnndelmnobigaaM13
import Derived.Test.YtcnndelmnobigaaM7
set_option linter.all false
set_option maxRecDepth 100000
namespace Go.Proofs.Ytcnndelmnobigaa
open Go Go.Ab Go.Proofs
variable {H:Type} [HeapC H]
noncomputable def K:LB:={ loop:=fun j=>BT.look ((.node 47001 ([2,4,7,15,16,17,35,36],Z3p,71) (.node 23002 ([1,4,5,8,11,12,33,34,35,81,82],Z3C,112) (.node 15001 ([1,7,8,28,29,30,35,36],Z3H,80) (.node 14000 ([1,5,7,26,27,28],Z3L,68) (.node 13001 ([1,2,3,4,5],Z3O,83) (.node 13000 ([1,2,3,4],Z3P,83) .leaf .leaf) .leaf) (.node 15000 ([1,7,28,29,30],Z3I,80) (.node 14001 ([1,5,7,9,10,26,27,28,42,43],Z3K,68) .leaf .leaf) .leaf)) (.node 23000 ([1,4,5,8,33,34,35],Z3E,112) (.node 21000 ([0,1,4,5],Z3F,26) (.node 15002 ([1,7,8,10,28,29,30,35,36,63],Z3G,80) .leaf .leaf) .leaf) (.node 23001 ([1,4,5,8,11,12,33,34,35,53,54],Z3D,112) .leaf .leaf))) (.node 42000 ([1,2,3,4],Z3w,19) (.node 40001 ([2,3,4,5,7,8,9,10,11],Z3z,135) (.node 40000 ([2,3,4,5,7,8,9],Z3A,135) (.node 25000 ([1,2,4,5,29,30],Z3B,52) .leaf .leaf) .leaf) (.node 41000 ([1,2,3,4],Z3x,30) (.node 40002 ([2,3,4,5,7,8,9,10,11,14],Z3y,135) .leaf .leaf) .leaf)) (.node 46000 ([0,1],Z3s,22) (.node 45000 ([0,3,9,10],Z3t,24) (.node 44001 ([6,7,8,52],Z3u,92) .leaf .leaf) .leaf) (.node 47000 ([2,4,15,16,17],Z3q,71) .leaf .leaf)))) (.node 71000 ([2,3,10,11],Z3c,21) (.node 57002 ([2,4,5,7,11,14,15,16,62,63,64],Z3j,200) (.node 56000 ([3,6,7,8],Z3m,19) (.node 49000 ([1,7,19,20,21],Z3n,36) (.node 48000 ([3,6,7,8],Z3o,17) .leaf .leaf) .leaf) (.node 57001 ([2,4,5,7,11,62,63,64],Z3k,200) (.node 57000 ([1,2,4,5,6,7,33,34],Z3l,200) .leaf .leaf) .leaf)) (.node 68000 ([0,3,4,5],Z3f,43) (.node 57004 ([2,4,5,7,11,15,62,63,64,177,178,179],Z3h,200) (.node 57003 ([2,4,5,7,11,14,15,16,17,18,62,63,64,93,94],Z3i,200) .leaf .leaf) .leaf) (.node 69000 ([0,2,3,4,5],Z3e,51) .leaf .leaf))) (.node 85000 ([2,3,6,7],Z35,16) (.node 77001 ([0,3,9,10,11,16,17],Z39,72) (.node 77000 ([0,9,10,11],Z3a,72) (.node 74000 ([0,1,7,8,9,34],Z3b,56) .leaf .leaf) .leaf) (.node 84000 ([2,3,6,7],Z36,23) (.node 77002 ([0,3,5,6,9,10,11,16,17,44],Z38,72) .leaf .leaf) .leaf)) (.node 91000 ([0,1,8,9],Z32,30) (.node 90000 ([0,1,4,7,8],Z33,19) (.node 86000 ([0,1,4,7,8],Z34,19) .leaf .leaf) .leaf) (.node 91001 ([0,1,3,8,9,16,17],Z31,30) .leaf .leaf))))):BT (List Nat × ACode × Nat)) j,rng:=fun nt ps=>Zk2 nt ps [(92,[25],([1,5,6],Z1d,Z1c)),(71,[52],([4,7],Z1b,Z1a)),(71,[13,14],([1,2,3],Z1y,Z1x))] }
theorem ZgR:K.loop 13000 = some ([1,2,3,4],Z3P,83):=by kernel_rfl
theorem ZgQ:K.loop 13001 = some ([1,2,3,4,5],Z3O,83):=by kernel_rfl
theorem ZgP:K.loop 14000 = some ([1,5,7,26,27,28],Z3L,68):=by kernel_rfl
theorem ZgO:K.loop 14001 = some ([1,5,7,9,10,26,27,28,42,43],Z3K,68):=by kernel_rfl
theorem ZgN:K.loop 15000 = some ([1,7,28,29,30],Z3I,80):=by kernel_rfl
theorem ZgM:K.loop 15001 = some ([1,7,8,28,29,30,35,36],Z3H,80):=by kernel_rfl
theorem ZgL:K.loop 15002 = some ([1,7,8,10,28,29,30,35,36,63],Z3G,80):=by kernel_rfl
theorem ZgK:K.loop 21000 = some ([0,1,4,5],Z3F,26):=by kernel_rfl
theorem ZgJ:K.loop 23000 = some ([1,4,5,8,33,34,35],Z3E,112):=by kernel_rfl
theorem ZgI:K.loop 23001 = some ([1,4,5,8,11,12,33,34,35,53,54],Z3D,112):=by kernel_rfl
theorem ZgH:K.loop 23002 = some ([1,4,5,8,11,12,33,34,35,81,82],Z3C,112):=by kernel_rfl
theorem ZgG:K.loop 25000 = some ([1,2,4,5,29,30],Z3B,52):=by kernel_rfl
theorem ZgF:K.loop 40000 = some ([2,3,4,5,7,8,9],Z3A,135):=by kernel_rfl
theorem ZgE:K.loop 40001 = some ([2,3,4,5,7,8,9,10,11],Z3z,135):=by kernel_rfl
theorem ZgD:K.loop 40002 = some ([2,3,4,5,7,8,9,10,11,14],Z3y,135):=by kernel_rfl
theorem ZgC:K.loop 41000 = some ([1,2,3,4],Z3x,30):=by kernel_rfl
theorem ZgB:K.loop 42000 = some ([1,2,3,4],Z3w,19):=by kernel_rfl
theorem ZgA:K.loop 44001 = some ([6,7,8,52],Z3u,92):=by kernel_rfl
theorem Zgz:K.loop 45000 = some ([0,3,9,10],Z3t,24):=by kernel_rfl
theorem Zgy:K.loop 46000 = some ([0,1],Z3s,22):=by kernel_rfl
theorem Zgx:K.loop 47000 = some ([2,4,15,16,17],Z3q,71):=by kernel_rfl
theorem Zgw:K.loop 47001 = some ([2,4,7,15,16,17,35,36],Z3p,71):=by kernel_rfl
theorem Zgv:K.loop 48000 = some ([3,6,7,8],Z3o,17):=by kernel_rfl
theorem Zgu:K.loop 49000 = some ([1,7,19,20,21],Z3n,36):=by kernel_rfl
theorem Zgt:K.loop 56000 = some ([3,6,7,8],Z3m,19):=by kernel_rfl
theorem Zgs:K.loop 57000 = some ([1,2,4,5,6,7,33,34],Z3l,200):=by kernel_rfl
theorem Zgr:K.loop 57001 = some ([2,4,5,7,11,62,63,64],Z3k,200):=by kernel_rfl
theorem Zgq:K.loop 57002 = some ([2,4,5,7,11,14,15,16,62,63,64],Z3j,200):=by kernel_rfl
theorem Zgp:K.loop 57003 = some ([2,4,5,7,11,14,15,16,17,18,62,63,64,93,94],Z3i,200):=by kernel_rfl
theorem Zgo:K.loop 57004 = some ([2,4,5,7,11,15,62,63,64,177,178,179],Z3h,200):=by kernel_rfl
theorem Zgn:K.loop 68000 = some ([0,3,4,5],Z3f,43):=by kernel_rfl
theorem Zgm:K.loop 69000 = some ([0,2,3,4,5],Z3e,51):=by kernel_rfl
theorem Zgl:K.loop 71000 = some ([2,3,10,11],Z3c,21):=by kernel_rfl
theorem Zgk:K.loop 74000 = some ([0,1,7,8,9,34],Z3b,56):=by kernel_rfl
theorem Zgj:K.loop 77000 = some ([0,9,10,11],Z3a,72):=by kernel_rfl
theorem Zgi:K.loop 77001 = some ([0,3,9,10,11,16,17],Z39,72):=by kernel_rfl
theorem Zgh:K.loop 77002 = some ([0,3,5,6,9,10,11,16,17,44],Z38,72):=by kernel_rfl
theorem Zgg:K.loop 84000 = some ([2,3,6,7],Z36,23):=by kernel_rfl
theorem Zgf:K.loop 85000 = some ([2,3,6,7],Z35,16):=by kernel_rfl
theorem Zge:K.loop 86000 = some ([0,1,4,7,8],Z34,19):=by kernel_rfl
theorem Zgd:K.loop 90000 = some ([0,1,4,7,8],Z33,19):=by kernel_rfl
theorem Zgc:K.loop 91000 = some ([0,1,8,9],Z32,30):=by kernel_rfl
theorem Zgb:K.loop 91001 = some ([0,1,3,8,9,16,17],Z31,30):=by kernel_rfl
theorem Zg9:K.rng 71 [52] = some ([4,7],Z1b,Z1a):=by kernel_rfl
theorem Zga:K.rng 92 [25] = some ([1,5,6],Z1d,Z1c):=by kernel_rfl
theorem Zg8:K.rng 71 [13,14] = some ([1,2,3],Z1y,Z1x):=by kernel_rfl
theorem ck_11:Z0b K ZiR.nt ZiR.code:=(ai tt (ai tt (ai tt (ai tt (ai (ai tt (ai (ai tt tt) tt)) (ai tt (ai tt (ai tt (ai tt (ai tt (ai (ai tt (ai (ai tt tt) tt)) (ai tt (ai tt (ai tt tt))))))))))))))
theorem fe_11:FE (H:=H) P bk K 11 (fun o vs h c=>match vs with | []=>Zr5 o h c | _=>none):=by
 refine ⟨ZiR,bk_11,rfl,ck_11,fun o vs h c r e=>?_⟩
 dsimp only at e
 split at e
 · exact ⟨rfl,(ZoG o h c).trans e⟩
 · cases e
theorem Zny:Z0b K 83 Z3O:=(ai (ai tt (ai tt tt)) (ai (ai tt (ai (ai tt (ai tt tt)) (ai (ai tt (ai (ai tt tt) tt)) (ai tt (ai (ai tt tt) tt))))) tt))
theorem ZmO:LE (H:=H) P K 13001 (fun o rd vs h c df=>match vs with | [t1,t2,t3,t4,t5]=>Z20 o rd t1 t2 t3 t4 t5 h c df | _=>none):=by
 intro lin b nt hk
 rw [ZgQ] at hk
 cases hk
 refine ⟨Zny,fun o rd vs h c df q e=>?_⟩
 dsimp only at e
 split at e
 · exact (Z5B o rd _ _ _ _ _ h c df).trans e
 · cases e
theorem Znz:Z0b K 83 Z3P:=(ai (ai tt (ai tt tt)) (ai (ai tt (ai rfl ZgQ)) tt))
theorem ZmP:LE (H:=H) P K 13000 (fun o rd vs h c df=>match vs with | [t1,t2,t3,t4]=>Z1f o rd t1 t2 t3 t4 h c df | _=>none):=by
 intro lin b nt hk
 rw [ZgR] at hk
 cases hk
 refine ⟨Znz,fun o rd vs h c df q e=>?_⟩
 dsimp only at e
 split at e
 · exact (Z5C o rd _ _ _ _ h c df).trans e
 · cases e
theorem ck_13:Z0b K Zfp.nt Zfp.code:=(ai tt (ai tt (ai (ai tt (ai (ai tt tt) tt)) (ai (ai tt (ai rfl ZgR)) (ai tt tt)))))
theorem fe_13:FE (H:=H) P bk K 13 (fun o vs h c=>match vs with | [t0]=>ZkU o t0 h c | _=>none):=by
 refine ⟨Zfp,bk_13,rfl,ck_13,fun o vs h c r e=>?_⟩
 dsimp only at e
 split at e
 · exact ⟨rfl,(ZhA o _ h c).trans e⟩
 · cases e
theorem Znw:Z0b K 68 Z3K:=(ai tt (ai (ai tt tt) (ai (ai tt (ai tt (ai tt tt))) tt)))
theorem ZmM:LE (H:=H) P K 14001 (fun o rd vs h c df=>match vs with | [t1,t5,t7,t9,t10,t26,t27,t28,t42,t43]=>Z4Q o rd t1 t5 t7 t9 t10 t26 t27 t28 t42 t43 h c df | _=>none):=by
 intro lin b nt hk
 rw [ZgO] at hk
 cases hk
 refine ⟨Znw,fun o rd vs h c df q e=>?_⟩
 dsimp only at e
 split at e
 · exact (Z5z o rd _ _ _ _ _ _ _ _ _ _ h c df).trans e
 · cases e
theorem Znx:Z0b K 68 Z3L:=(ai tt (ai (ai tt tt) (ai (ai tt (ai tt (ai (ai tt (ai rfl ZgO)) tt))) tt)))
theorem ZmN:LE (H:=H) P K 14000 (fun o rd vs h c df=>match vs with | [t1,t5,t7,t26,t27,t28]=>Z4R o rd t1 t5 t7 t26 t27 t28 h c df | _=>none):=by
 intro lin b nt hk
 rw [ZgP] at hk
 cases hk
 refine ⟨Znx,fun o rd vs h c df q e=>?_⟩
 dsimp only at e
 split at e
 · exact (Z5A o rd _ _ _ _ _ _ h c df).trans e
 · cases e
theorem ck_14:Z0b K Zfo.nt Zfo.code:=(ai tt (ai (ai tt (ai tt (ai (ai tt tt) tt))) (ai tt (ai tt (ai (ai tt (ai rfl ZgP)) (ai tt tt))))))
theorem fe_14:FE (H:=H) P bk K 14 (fun o vs h c=>match vs with | [t0]=>ZkT o t0 h c | _=>none):=by
 refine ⟨Zfo,bk_14,rfl,ck_14,fun o vs h c r e=>?_⟩
 dsimp only at e
 split at e
 · exact ⟨rfl,(Zhz o _ h c).trans e⟩
 · cases e
theorem Znt:Z0b K 80 Z3G:=(ai tt (ai (ai tt tt) (ai (ai tt (ai tt (ai tt tt))) tt)))
theorem ZmJ:LE (H:=H) P K 15002 (fun o rd vs h c df=>match vs with | [t1,t7,t8,t10,t28,t29,t30,t35,t36,t63]=>Z3J o rd t1 t7 t8 t10 t28 t29 t30 t35 t36 t63 h c df | _=>none):=by
 intro lin b nt hk
 rw [ZgL] at hk
 cases hk
 refine ⟨Znt,fun o rd vs h c df q e=>?_⟩
 dsimp only at e
 split at e
 · exact (Z2T o rd _ _ _ _ _ _ _ _ _ _ h c df).trans e
 · cases e
theorem Znu:Z0b K 80 Z3H:=(ai tt (ai (ai tt tt) (ai (ai tt (ai (ai tt (ai tt tt)) (ai tt (ai rfl ZgL)))) tt)))
theorem ZmK:LE (H:=H) P K 15001 (fun o rd vs h c df=>match vs with | [t1,t7,t8,t28,t29,t30,t35,t36]=>Z4N o rd t1 t7 t8 t28 t29 t30 t35 t36 h c df | _=>none):=by
 intro lin b nt hk
 rw [ZgM] at hk
 cases hk
 refine ⟨Znu,fun o rd vs h c df q e=>?_⟩
 dsimp only at e
 split at e
 · exact (Z5x o rd _ _ _ _ _ _ _ _ h c df).trans e
 · cases e
theorem Znv:Z0b K 80 Z3I:=(ai tt (ai (ai tt tt) (ai (ai tt (ai tt (ai rfl ZgM))) tt)))
theorem ZmL:LE (H:=H) P K 15000 (fun o rd vs h c df=>match vs with | [t1,t7,t28,t29,t30]=>Z4O o rd t1 t7 t28 t29 t30 h c df | _=>none):=by
 intro lin b nt hk
 rw [ZgN] at hk
 cases hk
 refine ⟨Znv,fun o rd vs h c df q e=>?_⟩
 dsimp only at e
 split at e
 · exact (Z5y o rd _ _ _ _ _ h c df).trans e
 · cases e
theorem ck_15:Z0b K Zfn.nt Zfn.code:=(ai tt (ai (ai tt (ai tt (ai (ai tt tt) tt))) (ai tt (ai (ai tt (ai rfl ZgN)) (ai tt tt)))))
theorem fe_15:FE (H:=H) P bk K 15 (fun o vs h c=>match vs with | [t0,t1]=>ZkS o t0 t1 h c | _=>none):=by
 refine ⟨Zfn,bk_15,rfl,ck_15,fun o vs h c r e=>?_⟩
 dsimp only at e
 split at e
 · exact ⟨rfl,(Zhy o _ _ h c).trans e⟩
 · cases e
theorem ck_16:Z0b K Zfm.nt Zfm.code:=(ai tt (ai (ai tt (ai tt (ai (ai tt tt) tt))) (ai tt tt)))
theorem fe_16:FE (H:=H) P bk K 16 (fun o vs h c=>match vs with | [t0,t1]=>ZkR o t0 t1 h c | _=>none):=by
 refine ⟨Zfm,bk_16,rfl,ck_16,fun o vs h c r e=>?_⟩
 dsimp only at e
 split at e
 · exact ⟨rfl,(Zhx o _ _ h c).trans e⟩
 · cases e
theorem ck_17:Z0b K Zfl.nt Zfl.code:=(ai tt (ai tt tt))
theorem fe_17:FE (H:=H) P bk K 17 (fun o vs h c=>match vs with | [t0,t1]=>ZkQ o t0 t1 h c | _=>none):=by
 refine ⟨Zfl,bk_17,rfl,ck_17,fun o vs h c r e=>?_⟩
 dsimp only at e
 split at e
 · exact ⟨rfl,(Zhw o _ _ h c).trans e⟩
 · cases e
theorem Zns:Z0b K 26 Z3F:=(ai (ai tt (ai tt tt)) (ai (ai tt (ai (ai tt tt) tt)) tt))
theorem ZmI:LE (H:=H) P K 21000 (fun o rd vs h c df=>match vs with | [t0,t1,t4,t5]=>Z4M o rd t0 t1 t4 t5 h c df | _=>none):=by
 intro lin b nt hk
 rw [ZgK] at hk
 cases hk
 refine ⟨Zns,fun o rd vs h c df q e=>?_⟩
 dsimp only at e
 split at e
 · exact (Z5w o rd _ _ _ _ h c df).trans e
 · cases e
theorem ck_21:Z0b K Zfj.nt Zfj.code:=(ai tt (ai (ai tt (ai (ai tt tt) tt)) (ai (ai tt (ai rfl ZgK)) (ai tt tt))))
theorem fe_21:FE (H:=H) P bk K 21 (fun o vs h c=>match vs with | [t0,t1]=>ZkP o t0 t1 h c | _=>none):=by
 refine ⟨Zfj,bk_21,rfl,ck_21,fun o vs h c r e=>?_⟩
 dsimp only at e
 split at e
 · exact ⟨rfl,(Zhv o _ _ h c).trans e⟩
 · cases e
theorem Znq:Z0b K 112 Z3D:=(ai tt (ai (ai tt tt) (ai (ai tt (ai tt (ai tt tt))) tt)))
theorem ZmG:LE (H:=H) P K 23001 (fun o rd vs h c df=>match vs with | [t1,t4,t5,t8,t11,t12,t33,t34,t35,t53,t54]=>Z99 o rd t1 t4 t5 t8 t11 t12 t33 t34 t35 t53 t54 h c df | _=>none):=by
 intro lin b nt hk
 rw [ZgI] at hk
 cases hk
 refine ⟨Znq,fun o rd vs h c df q e=>?_⟩
 dsimp only at e
 split at e
 · exact (Zd6 o rd _ _ _ _ _ _ _ _ _ _ _ h c df).trans e
 · cases e
theorem Znp:Z0b K 112 Z3C:=(ai tt (ai (ai tt tt) (ai (ai tt (ai tt (ai tt tt))) tt)))
theorem ZmF:LE (H:=H) P K 23002 (fun o rd vs h c df=>match vs with | [t1,t4,t5,t8,t11,t12,t33,t34,t35,t81,t82]=>Z98 o rd t1 t4 t5 t8 t11 t12 t33 t34 t35 t81 t82 h c df | _=>none):=by
 intro lin b nt hk
 rw [ZgH] at hk
 cases hk
 refine ⟨Znp,fun o rd vs h c df q e=>?_⟩
 dsimp only at e
 split at e
 · exact (Zd5 o rd _ _ _ _ _ _ _ _ _ _ _ h c df).trans e
 · cases e
theorem Znr:Z0b K 112 Z3E:=(ai tt (ai (ai tt tt) (ai (ai tt (ai tt (ai (ai tt (ai rfl ZgI)) (ai (ai tt (ai rfl ZgH)) tt)))) tt)))
theorem ZmH:LE (H:=H) P K 23000 (fun o rd vs h c df=>match vs with | [t1,t4,t5,t8,t33,t34,t35]=>Z9a o rd t1 t4 t5 t8 t33 t34 t35 h c df | _=>none):=by
 intro lin b nt hk
 rw [ZgJ] at hk
 cases hk
 refine ⟨Znr,fun o rd vs h c df q e=>?_⟩
 dsimp only at e
 split at e
 · exact (Zd7 o rd _ _ _ _ _ _ _ h c df).trans e
 · cases e
theorem ck_23:Z0b K ZiP.nt ZiP.code:=(ai tt (ai (ai tt (ai tt (ai (ai tt tt) tt))) (ai tt (ai tt (ai tt (ai (ai tt (ai rfl ZgJ)) (ai tt tt)))))))
theorem fe_23:FE (H:=H) P bk K 23 (fun o vs h c=>match vs with | [t0,t1]=>Zr0 o t0 t1 h c | _=>none):=by
 refine ⟨ZiP,bk_23,rfl,ck_23,fun o vs h c r e=>?_⟩
 dsimp only at e
 split at e
 · exact ⟨rfl,(Zoy o _ _ h c).trans e⟩
 · cases e
theorem Zno:Z0b K 52 Z3B:=(ai tt (ai (ai tt tt) (ai (ai tt (ai tt (ai (ai tt tt) tt))) tt)))
theorem ZmE:LE (H:=H) P K 25000 (fun o rd vs h c df=>match vs with | [t1,t2,t4,t5,t29,t30]=>Z97 o rd t1 t2 t4 t5 t29 t30 h c df | _=>none):=by
 intro lin b nt hk
 rw [ZgG] at hk
 cases hk
 refine ⟨Zno,fun o rd vs h c df q e=>?_⟩
 dsimp only at e
 split at e
 · exact (Zd4 o rd _ _ _ _ _ _ h c df).trans e
 · cases e
theorem ck_25:Z0b K ZiL.nt ZiL.code:=(ai tt (ai (ai tt (ai tt (ai (ai tt tt) tt))) (ai (ai tt (ai (ai tt tt) tt)) (ai (ai tt (ai rfl ZgG)) (ai tt (ai (ai tt (ai (ai tt tt) tt)) (ai tt tt)))))))
theorem fe_25:FE (H:=H) P bk K 25 (fun o vs h c=>match vs with | [t0,t1]=>ZqZ o t0 t1 h c | _=>none):=by
 refine ⟨ZiL,bk_25,rfl,ck_25,fun o vs h c r e=>?_⟩
 dsimp only at e
 split at e
 · exact ⟨rfl,(Zox o _ _ h c).trans e⟩
 · cases e
theorem Znl:Z0b K 135 Z3y:=(ai (ai tt (ai tt tt)) (ai (ai tt (ai (ai tt (ai (ai tt tt) tt)) tt)) tt))
theorem ZmB:LE (H:=H) P K 40002 (fun o rd vs h c df=>match vs with | [t2,t3,t4,t5,t7,t8,t9,t10,t11,t14]=>Z8J o rd t2 t3 t4 t5 t7 t8 t9 t10 t11 t14 h c df | _=>none):=by
 intro lin b nt hk
 rw [ZgD] at hk
 cases hk
 refine ⟨Znl,fun o rd vs h c df q e=>?_⟩
 dsimp only at e
 split at e
 · exact (Zd0 o rd _ _ _ _ _ _ _ _ _ _ h c df).trans e
 · cases e
theorem Znm:Z0b K 135 Z3z:=(ai (ai tt (ai tt tt)) (ai (ai (ai tt (ai (ai tt tt) tt)) (ai (ai tt (ai (ai tt (ai tt tt)) tt)) (ai tt (ai (ai tt (ai (ai tt tt) tt)) (ai tt (ai (ai tt (ai rfl ZgD)) tt)))))) tt))
theorem ZmC:LE (H:=H) P K 40001 (fun o rd vs h c df=>match vs with | [t2,t3,t4,t5,t7,t8,t9,t10,t11]=>Z8K o rd t2 t3 t4 t5 t7 t8 t9 t10 t11 h c df | _=>none):=by
 intro lin b nt hk
 rw [ZgE] at hk
 cases hk
 refine ⟨Znm,fun o rd vs h c df q e=>?_⟩
 dsimp only at e
 split at e
 · exact (Zd1 o rd _ _ _ _ _ _ _ _ _ h c df).trans e
 · cases e
theorem Znn:Z0b K 135 Z3A:=(ai (ai tt (ai tt tt)) (ai (ai tt (ai (ai tt (ai rfl ZgE)) tt)) tt))
theorem ZmD:LE (H:=H) P K 40000 (fun o rd vs h c df=>match vs with | [t2,t3,t4,t5,t7,t8,t9]=>Z8L o rd t2 t3 t4 t5 t7 t8 t9 h c df | _=>none):=by
 intro lin b nt hk
 rw [ZgF] at hk
 cases hk
 refine ⟨Znn,fun o rd vs h c df q e=>?_⟩
 dsimp only at e
 split at e
 · exact (Zd2 o rd _ _ _ _ _ _ _ h c df).trans e
 · cases e
theorem ck_40:Z0b K ZiI.nt ZiI.code:=(ai tt (ai (ai tt (ai (ai tt tt) tt)) (ai tt (ai (ai tt (ai (ai tt tt) tt)) (ai tt (ai (ai tt (ai (ai tt tt) tt)) (ai tt (ai tt (ai (ai tt (ai rfl ZgF)) (ai (ai tt (ai (ai tt tt) tt)) (ai (ai tt (ai (ai tt tt) tt)) (ai tt tt))))))))))))
theorem fe_40:FE (H:=H) P bk K 40 (fun o vs h c=>match vs with | [t0]=>ZqQ o t0 h c | _=>none):=by
 refine ⟨ZiI,bk_40,rfl,ck_40,fun o vs h c r e=>?_⟩
 dsimp only at e
 split at e
 · exact ⟨rfl,(Zog o _ h c).trans e⟩
 · cases e
theorem Znk:Z0b K 30 Z3x:=(ai (ai tt (ai tt tt)) (ai (ai (ai tt (ai (ai tt tt) tt)) tt) tt))
theorem ZmA:LE (H:=H) P K 41000 (fun o rd vs h c df=>match vs with | [t1,t2,t3,t4]=>Z1e o rd t1 t2 t3 t4 h c df | _=>none):=by
 intro lin b nt hk
 rw [ZgC] at hk
 cases hk
 refine ⟨Znk,fun o rd vs h c df q e=>?_⟩
 dsimp only at e
 split at e
 · exact (Z5s o rd _ _ _ _ h c df).trans e
 · cases e
theorem ck_41:Z0b K Zfi.nt Zfi.code:=(ai tt (ai tt (ai (ai tt (ai rfl ZgC)) (ai tt tt))))
theorem fe_41:FE (H:=H) P bk K 41 (fun o vs h c=>match vs with | [t0]=>ZkO o t0 h c | _=>none):=by
 refine ⟨Zfi,bk_41,rfl,ck_41,fun o vs h c r e=>?_⟩
 dsimp only at e
 split at e
 · exact ⟨rfl,(Zhu o _ h c).trans e⟩
 · cases e
theorem Znj:Z0b K 19 Z3w:=(ai (ai tt (ai tt tt)) (ai tt tt))
theorem Zmz:LE (H:=H) P K 42000 (fun o rd vs h c df=>match vs with | [t1,t2,t3,t4]=>Z2r o rd t1 t2 t3 t4 h c df | _=>none):=by
 intro lin b nt hk
 rw [ZgB] at hk
 cases hk
 refine ⟨Znj,fun o rd vs h c df q e=>?_⟩
 dsimp only at e
 split at e
 · exact (Z5r o rd _ _ _ _ h c df).trans e
 · cases e
theorem ck_42:Z0b K Zfh.nt Zfh.code:=(ai tt (ai tt (ai (ai tt (ai (ai tt tt) tt)) (ai (ai tt (ai rfl ZgB)) (ai tt tt)))))
theorem fe_42:FE (H:=H) P bk K 42 (fun o vs h c=>match vs with | [t0]=>ZkN o t0 h c | _=>none):=by
 refine ⟨Zfh,bk_42,rfl,ck_42,fun o vs h c r e=>?_⟩
 dsimp only at e
 split at e
 · exact ⟨rfl,(Zht o _ h c).trans e⟩
 · cases e
theorem ck_43:Z0b K Zff.nt Zff.code:=(ai tt (ai (ai tt (ai (ai tt tt) (ai tt (ai (ai tt tt) tt)))) (ai tt tt)))
theorem fe_43:FE (H:=H) P bk K 43 (fun o vs h c=>match vs with | [t0]=>ZkM o t0 h c | _=>none):=by
 refine ⟨Zff,bk_43,rfl,ck_43,fun o vs h c r e=>?_⟩
 dsimp only at e
 split at e
 · exact ⟨rfl,(Zhs o _ h c).trans e⟩
 · cases e
theorem Znh:Z0b K 92 Z3u:=(ai tt (ai (ai tt tt) (ai (ai tt (ai tt (ai tt tt))) tt)))
theorem Zmy:LE (H:=H) P K 44001 (fun o rd vs h c df=>match vs with | [t6,t7,t8,t52]=>Z2q o rd t6 t7 t8 t52 h c df | _=>none):=by
 intro lin b nt hk
 rw [ZgA] at hk
 cases hk
 refine ⟨Znh,fun o rd vs h c df q e=>?_⟩
 dsimp only at e
 split at e
 · exact (Z2c o rd _ _ _ _ h c df).trans e
 · cases e
theorem ZnC:Z0b K 92 Z1d:=tt
theorem Zni:Z0b K 92 Z1c:=(ai tt (ai tt (ai tt (ai rfl ZgA))))
theorem ZlY:RE (H:=H) P K 92 [25] (fun o l vs h c=>match vs with | [t25,t1,t5,t6]=>Z3v o l t25 t1 t5 t6 h c | _=>none):=by
 intro lin a b hk
 rw [Zga] at hk
 cases hk
 refine ⟨ZnC,Zni,fun o l vs h c r e=>?_⟩
 dsimp only at e
 split at e
 · exact (Z7v o l _ _ _ _ h c).trans e
 · cases e
theorem ck_44:Z0b K Zfe.nt Zfe.code:=(ai tt (ai tt (ai tt (ai (ai tt (ai rfl Zga)) (ai tt tt)))))
theorem fe_44:FE (H:=H) P bk K 44 (fun o vs h c=>match vs with | [t0]=>ZkL o t0 h c | _=>none):=by
 refine ⟨Zfe,bk_44,rfl,ck_44,fun o vs h c r e=>?_⟩
 dsimp only at e
 split at e
 · exact ⟨rfl,(Zhr o _ h c).trans e⟩
 · cases e
theorem Zng:Z0b K 24 Z3t:=(ai tt (ai (ai tt tt) (ai (ai tt (ai tt (ai tt tt))) tt)))
theorem Zmx:LE (H:=H) P K 45000 (fun o rd vs h c df=>match vs with | [t0,t3,t9,t10]=>Z4J o rd t0 t3 t9 t10 h c df | _=>none):=by
 intro lin b nt hk
 rw [Zgz] at hk
 cases hk
 refine ⟨Zng,fun o rd vs h c df q e=>?_⟩
 dsimp only at e
 split at e
 · exact (Z5q o rd _ _ _ _ h c df).trans e
 · cases e
theorem ck_45:Z0b K Zfd.nt Zfd.code:=(ai tt (ai tt (ai (ai tt (ai rfl Zgz)) (ai tt tt))))
theorem fe_45:FE (H:=H) P bk K 45 (fun o vs h c=>match vs with | [t0]=>ZkK o t0 h c | _=>none):=by
 refine ⟨Zfd,bk_45,rfl,ck_45,fun o vs h c r e=>?_⟩
 dsimp only at e
 split at e
 · exact ⟨rfl,(Zhq o _ h c).trans e⟩
 · cases e
theorem Znf:Z0b K 22 Z3s:=(ai (ai tt (ai tt tt)) tt)
theorem Zmw:LE (H:=H) P K 46000 (fun o rd vs h c df=>match vs with | [t0,t1]=>Z6m o rd t0 t1 h c df | _=>none):=by
 intro lin b nt hk
 rw [Zgy] at hk
 cases hk
 refine ⟨Znf,fun o rd vs h c df q e=>?_⟩
 dsimp only at e
 split at e
 · exact (Z7u o rd _ _ h c df).trans e
 · cases e
theorem ck_46:Z0b K Zfc.nt Zfc.code:=(ai tt (ai (ai rfl Zgy) (ai tt tt)))
theorem fe_46:FE (H:=H) P bk K 46 (fun o vs h c=>match vs with | [t0,t1]=>ZkJ o t0 t1 h c | _=>none):=by
 refine ⟨Zfc,bk_46,rfl,ck_46,fun o vs h c r e=>?_⟩
 dsimp only at e
 split at e
 · exact ⟨rfl,(Zhp o _ _ h c).trans e⟩
 · cases e
theorem Znd:Z0b K 71 Z3p:=(ai tt (ai (ai tt tt) (ai (ai tt (ai tt (ai (ai tt tt) tt))) tt)))
theorem Zmu:LE (H:=H) P K 47001 (fun o rd vs h c df=>match vs with | [t2,t4,t7,t15,t16,t17,t35,t36]=>Z4H o rd t2 t4 t7 t15 t16 t17 t35 t36 h c df | _=>none):=by
 intro lin b nt hk
 rw [Zgw] at hk
 cases hk
 refine ⟨Znd,fun o rd vs h c df q e=>?_⟩
 dsimp only at e
 split at e
 · exact (Z5o o rd _ _ _ _ _ _ _ _ h c df).trans e
 · cases e
theorem Zne:Z0b K 71 Z3q:=(ai tt (ai (ai tt tt) (ai (ai tt (ai (ai tt (ai (ai tt tt) tt)) (ai (ai tt (ai rfl Zgw)) (ai tt (ai rfl Zg9))))) tt)))
theorem Zmv:LE (H:=H) P K 47000 (fun o rd vs h c df=>match vs with | [t2,t4,t15,t16,t17]=>Z4I o rd t2 t4 t15 t16 t17 h c df | _=>none):=by
 intro lin b nt hk
 rw [Zgx] at hk
 cases hk
 refine ⟨Zne,fun o rd vs h c df q e=>?_⟩
 dsimp only at e
 split at e
 · exact (Z5p o rd _ _ _ _ _ h c df).trans e
 · cases e
theorem ZnB:Z0b K 71 Z1b:=tt
theorem Znc:Z0b K 71 Z1a:=(ai tt (ai (ai tt tt) tt))
theorem ZlX:RE (H:=H) P K 71 [52] (fun o l vs h c=>match vs with | [t52,t4,t7]=>Z3r o l t52 t4 t7 h c | _=>none):=by
 intro lin a b hk
 rw [Zg9] at hk
 cases hk
 refine ⟨ZnB,Znc,fun o l vs h c r e=>?_⟩
 dsimp only at e
 split at e
 · exact (Z7t o l _ _ _ h c).trans e
 · cases e
theorem ck_47:Z0b K Zfb.nt Zfb.code:=(ai tt (ai (ai tt (ai tt (ai (ai tt tt) tt))) (ai (ai tt (ai rfl Zgx)) (ai tt tt))))
theorem fe_47:FE (H:=H) P bk K 47 (fun o vs h c=>match vs with | [t0,t1]=>ZkH o t0 t1 h c | _=>none):=by
 refine ⟨Zfb,bk_47,rfl,ck_47,fun o vs h c r e=>?_⟩
 dsimp only at e
 split at e
 · exact ⟨rfl,(Zho o _ _ h c).trans e⟩
 · cases e
theorem Znb:Z0b K 17 Z3o:=(ai tt (ai (ai tt tt) (ai (ai tt tt) tt)))
theorem Zmt:LE (H:=H) P K 48000 (fun o rd vs h c df=>match vs with | [t3,t6,t7,t8]=>Z4G o rd t3 t6 t7 t8 h c df | _=>none):=by
 intro lin b nt hk
 rw [Zgv] at hk
 cases hk
 refine ⟨Znb,fun o rd vs h c df q e=>?_⟩
 dsimp only at e
 split at e
 · exact (Z5n o rd _ _ _ _ h c df).trans e
 · cases e
theorem ck_48:Z0b K Zfa.nt Zfa.code:=(ai tt (ai tt (ai (ai tt (ai rfl Zgv)) (ai tt tt))))
theorem fe_48:FE (H:=H) P bk K 48 (fun o vs h c=>match vs with | [t0]=>ZkG o t0 h c | _=>none):=by
 refine ⟨Zfa,bk_48,rfl,ck_48,fun o vs h c r e=>?_⟩
 dsimp only at e
 split at e
 · exact ⟨rfl,(Zhn o _ h c).trans e⟩
 · cases e
theorem Zna:Z0b K 36 Z3n:=(ai tt (ai (ai tt tt) (ai (ai tt tt) tt)))
theorem Zms:LE (H:=H) P K 49000 (fun o rd vs h c df=>match vs with | [t1,t7,t19,t20,t21]=>Z4F o rd t1 t7 t19 t20 t21 h c df | _=>none):=by
 intro lin b nt hk
 rw [Zgu] at hk
 cases hk
 refine ⟨Zna,fun o rd vs h c df q e=>?_⟩
 dsimp only at e
 split at e
 · exact (Z5m o rd _ _ _ _ _ h c df).trans e
 · cases e
theorem ck_49:Z0b K Zf9.nt Zf9.code:=(ai tt (ai tt (ai tt (ai (ai tt (ai rfl Zgu)) (ai tt tt)))))
theorem fe_49:FE (H:=H) P bk K 49 (fun o vs h c=>match vs with | [t0,t1]=>ZkF o t0 t1 h c | _=>none):=by
 refine ⟨Zf9,bk_49,rfl,ck_49,fun o vs h c r e=>?_⟩
 dsimp only at e
 split at e
 · exact ⟨rfl,(Zhm o _ _ h c).trans e⟩
 · cases e
theorem ck_50:Z0b K Zf8.nt Zf8.code:=(ai tt (ai tt tt))
theorem fe_50:FE (H:=H) P bk K 50 (fun o vs h c=>match vs with | [t0,t1,t2,t3]=>ZkE o t0 t1 t2 t3 h c | _=>none):=by
 refine ⟨Zf8,bk_50,rfl,ck_50,fun o vs h c r e=>?_⟩
 dsimp only at e
 split at e
 · exact ⟨rfl,(Zhl o _ _ _ _ h c).trans e⟩
 · cases e
theorem ck_53:Z0b K Ziz.nt Ziz.code:=(ai tt (ai (ai tt (ai (ai tt tt) tt)) (ai tt tt)))
theorem fe_53:FE (H:=H) P bk K 53 (fun o vs h c=>match vs with | [t0]=>ZqO o t0 h c | _=>none):=by
 refine ⟨Ziz,bk_53,rfl,ck_53,fun o vs h c r e=>?_⟩
 dsimp only at e
 split at e
 · exact ⟨rfl,(Zof o _ h c).trans e⟩
 · cases e
theorem ck_55:Z0b K Zf7.nt Zf7.code:=(ai tt (ai tt tt))
theorem fe_55:FE (H:=H) P bk K 55 (fun o vs h c=>match vs with | [t0]=>ZkC o t0 h c | _=>none):=by
 refine ⟨Zf7,bk_55,rfl,ck_55,fun o vs h c r e=>?_⟩
 dsimp only at e
 split at e
 · exact ⟨rfl,(Zhk o _ h c).trans e⟩
 · cases e
theorem Zn9:Z0b K 19 Z3m:=(ai tt (ai (ai tt tt) (ai (ai tt (ai tt (ai tt tt))) tt)))
theorem Zmr:LE (H:=H) P K 56000 (fun o rd vs h c df=>match vs with | [t3,t6,t7,t8]=>Z4E o rd t3 t6 t7 t8 h c df | _=>none):=by
 intro lin b nt hk
 rw [Zgt] at hk
 cases hk
 refine ⟨Zn9,fun o rd vs h c df q e=>?_⟩
 dsimp only at e
 split at e
 · exact (Z5l o rd _ _ _ _ h c df).trans e
 · cases e
theorem ck_56:Z0b K Zf6.nt Zf6.code:=(ai tt (ai tt (ai (ai tt (ai rfl Zgt)) (ai tt tt))))
theorem fe_56:FE (H:=H) P bk K 56 (fun o vs h c=>match vs with | [t0]=>ZkB o t0 h c | _=>none):=by
 refine ⟨Zf6,bk_56,rfl,ck_56,fun o vs h c r e=>?_⟩
 dsimp only at e
 split at e
 · exact ⟨rfl,(Zhj o _ h c).trans e⟩
 · cases e
theorem Zn8:Z0b K 200 Z3l:=(ai tt (ai (ai tt tt) (ai (ai tt tt) tt)))
theorem Zmq:LE (H:=H) P K 57000 (fun o rd vs h c df=>match vs with | [t1,t2,t4,t5,t6,t7,t33,t34]=>Z8H o rd t1 t2 t4 t5 t6 t7 t33 t34 h c df | _=>none):=by
 intro lin b nt hk
 rw [Zgs] at hk
 cases hk
 refine ⟨Zn8,fun o rd vs h c df q e=>?_⟩
 dsimp only at e
 split at e
 · exact (ZcY o rd _ _ _ _ _ _ _ _ h c df).trans e
 · cases e
theorem Zn5:Z0b K 200 Z3i:=(ai tt (ai (ai tt tt) (ai (ai tt (ai (ai tt (ai tt tt)) (ai tt (ai tt (ai tt (ai (ai tt (ai tt (ai tt tt))) (ai tt (ai (ai tt tt) tt)))))))) tt)))
theorem Zmn:LE (H:=H) P K 57003 (fun o rd vs h c df=>match vs with | [t2,t4,t5,t7,t11,t14,t15,t16,t17,t18,t62,t63,t64,t93,t94]=>Z8E o rd t2 t4 t5 t7 t11 t14 t15 t16 t17 t18 t62 t63 t64 t93 t94 h c df | _=>none):=by
 intro lin b nt hk
 rw [Zgp] at hk
 cases hk
 refine ⟨Zn5,fun o rd vs h c df q e=>?_⟩
 dsimp only at e
 split at e
 · exact (ZcV o rd _ _ _ _ _ _ _ _ _ _ _ _ _ _ _ h c df).trans e
 · cases e
theorem Zn6:Z0b K 200 Z3j:=(ai (ai tt (ai tt tt)) (ai (ai tt (ai tt (ai rfl Zgp))) tt))
theorem Zmo:LE (H:=H) P K 57002 (fun o rd vs h c df=>match vs with | [t2,t4,t5,t7,t11,t14,t15,t16,t62,t63,t64]=>Z8F o rd t2 t4 t5 t7 t11 t14 t15 t16 t62 t63 t64 h c df | _=>none):=by
 intro lin b nt hk
 rw [Zgq] at hk
 cases hk
 refine ⟨Zn6,fun o rd vs h c df q e=>?_⟩
 dsimp only at e
 split at e
 · exact (ZcW o rd _ _ _ _ _ _ _ _ _ _ _ h c df).trans e
 · cases e
theorem Zn4:Z0b K 200 Z3h:=(ai tt (ai (ai tt tt) (ai (ai tt tt) tt)))
theorem Zmm:LE (H:=H) P K 57004 (fun o rd vs h c df=>match vs with | [t2,t4,t5,t7,t11,t15,t62,t63,t64,t177,t178,t179]=>Z8D o rd t2 t4 t5 t7 t11 t15 t62 t63 t64 t177 t178 t179 h c df | _=>none):=by
 intro lin b nt hk
 rw [Zgo] at hk
 cases hk
 refine ⟨Zn4,fun o rd vs h c df q e=>?_⟩
 dsimp only at e
 split at e
 · exact (ZcU o rd _ _ _ _ _ _ _ _ _ _ _ _ h c df).trans e
 · cases e
theorem Zn7:Z0b K 200 Z3k:=(ai tt (ai (ai tt tt) (ai (ai tt (ai tt (ai tt (ai tt (ai (ai tt (ai rfl Zgq)) (ai tt (ai rfl Zgo))))))) tt)))
theorem Zmp:LE (H:=H) P K 57001 (fun o rd vs h c df=>match vs with | [t2,t4,t5,t7,t11,t62,t63,t64]=>Z8G o rd t2 t4 t5 t7 t11 t62 t63 t64 h c df | _=>none):=by
 intro lin b nt hk
 rw [Zgr] at hk
 cases hk
 refine ⟨Zn7,fun o rd vs h c df q e=>?_⟩
 dsimp only at e
 split at e
 · exact (ZcX o rd _ _ _ _ _ _ _ _ h c df).trans e
 · cases e
theorem ck_57:Z0b K Ziy.nt Ziy.code:=(ai tt (ai tt (ai tt (ai (ai tt (ai rfl Zgs)) (ai tt (ai tt (ai (ai tt (ai rfl Zgr)) (ai tt tt))))))))
theorem fe_57:FE (H:=H) P bk K 57 (fun o vs h c=>match vs with | [t0,t1]=>ZqM o t0 t1 h c | _=>none):=by
 refine ⟨Ziy,bk_57,rfl,ck_57,fun o vs h c r e=>?_⟩
 dsimp only at e
 split at e
 · exact ⟨rfl,(Zoe o _ _ h c).trans e⟩
 · cases e
theorem ck_59:Z0b K Zf4.nt Zf4.code:=(ai tt (ai tt tt))
theorem fe_59:FE (H:=H) P bk K 59 (fun o vs h c=>match vs with | [t0]=>ZkA o t0 h c | _=>none):=by
 refine ⟨Zf4,bk_59,rfl,ck_59,fun o vs h c r e=>?_⟩
 dsimp only at e
 split at e
 · exact ⟨rfl,(Zhi o _ h c).trans e⟩
 · cases e
theorem ck_60:Z0b K Zf3.nt Zf3.code:=(ai tt (ai tt tt))
theorem fe_60:FE (H:=H) P bk K 60 (fun o vs h c=>match vs with | []=>Zkz o h c | _=>none):=by
 refine ⟨Zf3,bk_60,rfl,ck_60,fun o vs h c r e=>?_⟩
 dsimp only at e
 split at e
 · exact ⟨rfl,(Zhh o h c).trans e⟩
 · cases e
theorem Zn3:Z0b K 43 Z3f:=(ai (ai tt (ai tt tt)) (ai (ai tt (ai (ai tt (ai tt tt)) (ai tt (ai (ai tt tt) tt)))) tt))
theorem Zml:LE (H:=H) P K 68000 (fun o rd vs h c df=>match vs with | [t0,t3,t4,t5]=>Z8j o rd t0 t3 t4 t5 h c df | _=>none):=by
 intro lin b nt hk
 rw [Zgn] at hk
 cases hk
 refine ⟨Zn3,fun o rd vs h c df q e=>?_⟩
 dsimp only at e
 split at e
 · exact (ZcS o rd _ _ _ _ h c df).trans e
 · cases e
theorem ck_68:Z0b K Zis.nt Zis.code:=(ai tt (ai tt (ai tt (ai (ai tt (ai rfl Zgn)) (ai tt tt)))))
theorem fe_68:FE (H:=H) P bk K 68 (fun o vs h c=>match vs with | [t0]=>ZqC o t0 h c | _=>none):=by
 refine ⟨Zis,bk_68,rfl,ck_68,fun o vs h c r e=>?_⟩
 dsimp only at e
 split at e
 · exact ⟨rfl,(ZnZ o _ h c).trans e⟩
 · cases e
theorem Zn2:Z0b K 51 Z3e:=(ai (ai tt (ai tt tt)) (ai (ai (ai tt (ai (ai tt tt) tt)) tt) tt))
theorem Zmk:LE (H:=H) P K 69000 (fun o rd vs h c df=>match vs with | [t0,t2,t3,t4,t5]=>Z8i o rd t0 t2 t3 t4 t5 h c df | _=>none):=by
 intro lin b nt hk
 rw [Zgm] at hk
 cases hk
 refine ⟨Zn2,fun o rd vs h c df q e=>?_⟩
 dsimp only at e
 split at e
 · exact (ZcR o rd _ _ _ _ _ h c df).trans e
 · cases e
theorem ck_69:Z0b K Ziq.nt Ziq.code:=(ai tt (ai (ai tt (ai (ai tt tt) tt)) (ai tt (ai (ai tt (ai rfl Zgm)) (ai tt tt)))))
theorem fe_69:FE (H:=H) P bk K 69 (fun o vs h c=>match vs with | [t0]=>ZqB o t0 h c | _=>none):=by
 refine ⟨Ziq,bk_69,rfl,ck_69,fun o vs h c r e=>?_⟩
 dsimp only at e
 split at e
 · exact ⟨rfl,(ZnY o _ h c).trans e⟩
 · cases e
theorem ZnA:Z0b K 71 Z1y:=(ai tt tt)
theorem Zn1:Z0b K 71 Z1x:=(ai (ai tt (ai tt tt)) (ai (ai tt (ai (ai tt tt) tt)) (ai tt (ai (ai tt tt) tt))))
theorem ZlW:RE (H:=H) P K 71 [13,14] (fun o l vs h c=>match vs with | [t13,t14,t1,t2,t3]=>Z3d o l t13 t14 t1 t2 t3 h c | _=>none):=by
 intro lin a b hk
 rw [Zg8] at hk
 cases hk
 refine ⟨ZnA,Zn1,fun o l vs h c r e=>?_⟩
 dsimp only at e
 split at e
 · exact (Z7n o l _ _ _ _ _ h c).trans e
 · cases e
theorem ck_70:Z0b K Zf2.nt Zf2.code:=(ai tt (ai (ai tt (ai (ai tt tt) tt)) (ai tt (ai (ai tt (ai rfl Zg8)) (ai tt tt)))))
theorem fe_70:FE (H:=H) P bk K 70 (fun o vs h c=>match vs with | [t0]=>Zky o t0 h c | _=>none):=by
 refine ⟨Zf2,bk_70,rfl,ck_70,fun o vs h c r e=>?_⟩
 dsimp only at e
 split at e
 · exact ⟨rfl,(Zhg o _ h c).trans e⟩
 · cases e
theorem Zn0:Z0b K 21 Z3c:=(ai tt (ai (ai tt tt) (ai (ai tt tt) tt)))
theorem Zmj:LE (H:=H) P K 71000 (fun o rd vs h c df=>match vs with | [t2,t3,t10,t11]=>Z4B o rd t2 t3 t10 t11 h c df | _=>none):=by
 intro lin b nt hk
 rw [Zgl] at hk
 cases hk
 refine ⟨Zn0,fun o rd vs h c df q e=>?_⟩
 dsimp only at e
 split at e
 · exact (Z5e o rd _ _ _ _ h c df).trans e
 · cases e
theorem ck_71:Z0b K Zf1.nt Zf1.code:=(ai tt (ai tt (ai (ai tt (ai rfl Zgl)) (ai tt tt))))
theorem fe_71:FE (H:=H) P bk K 71 (fun o vs h c=>match vs with | [t0]=>Zkx o t0 h c | _=>none):=by
 refine ⟨Zf1,bk_71,rfl,ck_71,fun o vs h c r e=>?_⟩
 dsimp only at e
 split at e
 · exact ⟨rfl,(Zhf o _ h c).trans e⟩
 · cases e
theorem ck_72:Z0b K Zf0.nt Zf0.code:=(ai tt tt)
theorem fe_72:FE (H:=H) P bk K 72 (fun o vs h c=>match vs with | [t0,t1,t2]=>Zin o t0 t1 t2 h c | _=>none):=by
 refine ⟨Zf0,bk_72,rfl,ck_72,fun o vs h c r e=>?_⟩
 dsimp only at e
 split at e
 · exact ⟨rfl,(Zhe o _ _ _ h c).trans e⟩
 · cases e
theorem ck_73:Z0b K ZeZ.nt ZeZ.code:=(ai tt (ai tt tt))
theorem fe_73:FE (H:=H) P bk K 73 (fun o vs h c=>match vs with | [t0,t1]=>Zkw o t0 t1 h c | _=>none):=by
 refine ⟨ZeZ,bk_73,rfl,ck_73,fun o vs h c r e=>?_⟩
 dsimp only at e
 split at e
 · exact ⟨rfl,(Zhd o _ _ h c).trans e⟩
 · cases e
theorem ZmZ:Z0b K 56 Z3b:=(ai tt (ai (ai tt tt) (ai (ai tt (ai tt (ai tt tt))) tt)))
theorem Zmi:LE (H:=H) P K 74000 (fun o rd vs h c df=>match vs with | [t0,t1,t7,t8,t9,t34]=>Z4A o rd t0 t1 t7 t8 t9 t34 h c df | _=>none):=by
 intro lin b nt hk
 rw [Zgk] at hk
 cases hk
 refine ⟨ZmZ,fun o rd vs h c df q e=>?_⟩
 dsimp only at e
 split at e
 · exact (Z5d o rd _ _ _ _ _ _ h c df).trans e
 · cases e
theorem ck_74:Z0b K ZeY.nt ZeY.code:=(ai tt (ai tt (ai tt (ai (ai tt (ai rfl Zgk)) (ai tt tt)))))
theorem fe_74:FE (H:=H) P bk K 74 (fun o vs h c=>match vs with | [t0,t1,t2]=>Zkv o t0 t1 t2 h c | _=>none):=by
 refine ⟨ZeY,bk_74,rfl,ck_74,fun o vs h c r e=>?_⟩
 dsimp only at e
 split at e
 · exact ⟨rfl,(Zhc o _ _ _ h c).trans e⟩
 · cases e
theorem ck_75:Z0b K ZeX.nt ZeX.code:=(ai tt (ai tt tt))
theorem fe_75:FE (H:=H) P bk K 75 (fun o vs h c=>match vs with | [t0,t1]=>Zku o t0 t1 h c | _=>none):=by
 refine ⟨ZeX,bk_75,rfl,ck_75,fun o vs h c r e=>?_⟩
 dsimp only at e
 split at e
 · exact ⟨rfl,(Zhb o _ _ h c).trans e⟩
 · cases e
theorem ck_76:Z0b K ZeW.nt ZeW.code:=(ai tt (ai tt tt))
theorem fe_76:FE (H:=H) P bk K 76 (fun o vs h c=>match vs with | [t0]=>Zkt o t0 h c | _=>none):=by
 refine ⟨ZeW,bk_76,rfl,ck_76,fun o vs h c r e=>?_⟩
 dsimp only at e
 split at e
 · exact ⟨rfl,(Zha o _ h c).trans e⟩
 · cases e
theorem ZmW:Z0b K 72 Z38:=(ai tt (ai (ai tt tt) (ai (ai tt (ai tt (ai tt tt))) tt)))
theorem Zmf:LE (H:=H) P K 77002 (fun o rd vs h c df=>match vs with | [t0,t3,t5,t6,t9,t10,t11,t16,t17,t44]=>Z2o o rd t0 t3 t5 t6 t9 t10 t11 t16 t17 t44 h c df | _=>none):=by
 intro lin b nt hk
 rw [Zgh] at hk
 cases hk
 refine ⟨ZmW,fun o rd vs h c df q e=>?_⟩
 dsimp only at e
 split at e
 · exact (Z2a o rd _ _ _ _ _ _ _ _ _ _ h c df).trans e
 · cases e
theorem ZmX:Z0b K 72 Z39:=(ai tt (ai (ai tt tt) (ai (ai tt (ai (ai tt (ai tt tt)) (ai tt (ai rfl Zgh)))) tt)))
theorem Zmg:LE (H:=H) P K 77001 (fun o rd vs h c df=>match vs with | [t0,t3,t9,t10,t11,t16,t17]=>Z4y o rd t0 t3 t9 t10 t11 t16 t17 h c df | _=>none):=by
 intro lin b nt hk
 rw [Zgi] at hk
 cases hk
 refine ⟨ZmX,fun o rd vs h c df q e=>?_⟩
 dsimp only at e
 split at e
 · exact (Z5b o rd _ _ _ _ _ _ _ h c df).trans e
 · cases e
theorem ZmY:Z0b K 72 Z3a:=(ai tt (ai (ai tt tt) (ai (ai tt (ai tt (ai rfl Zgi))) tt)))
theorem Zmh:LE (H:=H) P K 77000 (fun o rd vs h c df=>match vs with | [t0,t9,t10,t11]=>Z4z o rd t0 t9 t10 t11 h c df | _=>none):=by
 intro lin b nt hk
 rw [Zgj] at hk
 cases hk
 refine ⟨ZmY,fun o rd vs h c df q e=>?_⟩
 dsimp only at e
 split at e
 · exact (Z5c o rd _ _ _ _ h c df).trans e
 · cases e
theorem ck_77:Z0b K ZeV.nt ZeV.code:=(ai tt (ai rfl Zgj))
theorem fe_77:FE (H:=H) P bk K 77 (fun o vs h c=>match vs with | [t0,t1]=>Zks o t0 t1 h c | _=>none):=by
 refine ⟨ZeV,bk_77,rfl,ck_77,fun o vs h c r e=>?_⟩
 dsimp only at e
 split at e
 · exact ⟨rfl,(Zh9 o _ _ h c).trans e⟩
 · cases e
theorem ck_83:Z0b K ZeU.nt ZeU.code:=(ai tt (ai tt tt))
theorem fe_83:FE (H:=H) P bk K 83 (fun o vs h c=>match vs with | [t0]=>Zkr o t0 h c | _=>none):=by
 refine ⟨ZeU,bk_83,rfl,ck_83,fun o vs h c r e=>?_⟩
 dsimp only at e
 split at e
 · exact ⟨rfl,(Zh8 o _ h c).trans e⟩
 · cases e
theorem ZmV:Z0b K 23 Z36:=(ai tt (ai (ai tt tt) (ai (ai tt (ai (ai tt (ai (ai tt tt) tt)) tt)) tt)))
theorem Zme:LE (H:=H) P K 84000 (fun o rd vs h c df=>match vs with | [t2,t3,t6,t7]=>Z1Y o rd t2 t3 t6 t7 h c df | _=>none):=by
 intro lin b nt hk
 rw [Zgg] at hk
 cases hk
 refine ⟨ZmV,fun o rd vs h c df q e=>?_⟩
 dsimp only at e
 split at e
 · exact (Z57 o rd _ _ _ _ h c df).trans e
 · cases e
theorem ck_84:Z0b K ZeT.nt ZeT.code:=(ai tt (ai tt (ai (ai tt (ai rfl Zgg)) (ai tt tt))))
theorem fe_84:FE (H:=H) P bk K 84 (fun o vs h c=>match vs with | [t0]=>Zkq o t0 h c | _=>none):=by
 refine ⟨ZeT,bk_84,rfl,ck_84,fun o vs h c r e=>?_⟩
 dsimp only at e
 split at e
 · exact ⟨rfl,(Zh7 o _ h c).trans e⟩
 · cases e
theorem ZmU:Z0b K 16 Z35:=(ai tt (ai (ai tt tt) (ai (ai tt tt) tt)))
theorem Zmd:LE (H:=H) P K 85000 (fun o rd vs h c df=>match vs with | [t2,t3,t6,t7]=>Z2n o rd t2 t3 t6 t7 h c df | _=>none):=by
 intro lin b nt hk
 rw [Zgf] at hk
 cases hk
 refine ⟨ZmU,fun o rd vs h c df q e=>?_⟩
 dsimp only at e
 split at e
 · exact (Z56 o rd _ _ _ _ h c df).trans e
 · cases e
theorem ck_85:Z0b K ZeS.nt ZeS.code:=(ai tt (ai tt (ai (ai tt (ai rfl Zgf)) (ai tt tt))))
theorem fe_85:FE (H:=H) P bk K 85 (fun o vs h c=>match vs with | [t0]=>Zkp o t0 h c | _=>none):=by
 refine ⟨ZeS,bk_85,rfl,ck_85,fun o vs h c r e=>?_⟩
 dsimp only at e
 split at e
 · exact ⟨rfl,(Zh6 o _ h c).trans e⟩
 · cases e
theorem ZmT:Z0b K 19 Z34:=(ai tt (ai (ai tt tt) (ai (ai tt (ai tt (ai (ai tt tt) tt))) tt)))
theorem Zmc:LE (H:=H) P K 86000 (fun o rd vs h c df=>match vs with | [t0,t1,t4,t7,t8]=>Z4u o rd t0 t1 t4 t7 t8 h c df | _=>none):=by
 intro lin b nt hk
 rw [Zge] at hk
 cases hk
 refine ⟨ZmT,fun o rd vs h c df q e=>?_⟩
 dsimp only at e
 split at e
 · exact (Z55 o rd _ _ _ _ _ h c df).trans e
 · cases e
theorem ck_86:Z0b K ZeR.nt ZeR.code:=(ai tt (ai (ai tt (ai rfl Zge)) (ai tt tt)))
theorem fe_86:FE (H:=H) P bk K 86 (fun o vs h c=>match vs with | [t0,t1]=>Zko o t0 t1 h c | _=>none):=by
 refine ⟨ZeR,bk_86,rfl,ck_86,fun o vs h c r e=>?_⟩
 dsimp only at e
 split at e
 · exact ⟨rfl,(Zh5 o _ _ h c).trans e⟩
 · cases e
theorem ck_87:Z0b K ZeQ.nt ZeQ.code:=(ai tt (ai tt (ai tt tt)))
theorem fe_87:FE (H:=H) P bk K 87 (fun o vs h c=>match vs with | []=>Zkn o h c | _=>none):=by
 refine ⟨ZeQ,bk_87,rfl,ck_87,fun o vs h c r e=>?_⟩
 dsimp only at e
 split at e
 · exact ⟨rfl,(Zh4 o h c).trans e⟩
 · cases e
theorem ck_88:Z0b K ZeP.nt ZeP.code:=(ai tt (ai tt tt))
theorem fe_88:FE (H:=H) P bk K 88 (fun o vs h c=>match vs with | [t0,t1,t2]=>Zkm o t0 t1 t2 h c | _=>none):=by
 refine ⟨ZeP,bk_88,rfl,ck_88,fun o vs h c r e=>?_⟩
 dsimp only at e
 split at e
 · exact ⟨rfl,(Zh3 o _ _ _ h c).trans e⟩
 · cases e
theorem ck_89:Z0b K ZeO.nt ZeO.code:=(ai tt (ai tt tt))
theorem fe_89:FE (H:=H) P bk K 89 (fun o vs h c=>match vs with | []=>Zkl o h c | _=>none):=by
 refine ⟨ZeO,bk_89,rfl,ck_89,fun o vs h c r e=>?_⟩
 dsimp only at e
 split at e
 · exact ⟨rfl,(Zh2 o h c).trans e⟩
 · cases e
theorem ZmS:Z0b K 19 Z33:=(ai tt (ai (ai tt tt) (ai (ai tt (ai tt (ai (ai tt tt) tt))) tt)))
theorem Zmb:LE (H:=H) P K 90000 (fun o rd vs h c df=>match vs with | [t0,t1,t4,t7,t8]=>Z4t o rd t0 t1 t4 t7 t8 h c df | _=>none):=by
 intro lin b nt hk
 rw [Zgd] at hk
 cases hk
 refine ⟨ZmS,fun o rd vs h c df q e=>?_⟩
 dsimp only at e
 split at e
 · exact (Z54 o rd _ _ _ _ _ h c df).trans e
 · cases e
theorem ck_90:Z0b K ZeN.nt ZeN.code:=(ai tt (ai (ai tt (ai rfl Zgd)) (ai tt tt)))
theorem fe_90:FE (H:=H) P bk K 90 (fun o vs h c=>match vs with | [t0,t1]=>Zij o t0 t1 h c | _=>none):=by
 refine ⟨ZeN,bk_90,rfl,ck_90,fun o vs h c r e=>?_⟩
 dsimp only at e
 split at e
 · exact ⟨rfl,(Zh1 o _ _ h c).trans e⟩
 · cases e
theorem ZmQ:Z0b K 30 Z31:=(ai tt (ai (ai tt tt) (ai (ai tt (ai tt (ai tt tt))) tt)))
theorem Zm9:LE (H:=H) P K 91001 (fun o rd vs h c df=>match vs with | [t0,t1,t3,t8,t9,t16,t17]=>Z1W o rd t0 t1 t3 t8 t9 t16 t17 h c df | _=>none):=by
 intro lin b nt hk
 rw [Zgb] at hk
 cases hk
 refine ⟨ZmQ,fun o rd vs h c df q e=>?_⟩
 dsimp only at e
 split at e
 · exact (Z52 o rd _ _ _ _ _ _ _ h c df).trans e
 · cases e
theorem ZmR:Z0b K 30 Z32:=(ai tt (ai (ai tt tt) (ai (ai tt (ai tt (ai rfl Zgb))) tt)))
theorem Zma:LE (H:=H) P K 91000 (fun o rd vs h c df=>match vs with | [t0,t1,t8,t9]=>Z1X o rd t0 t1 t8 t9 h c df | _=>none):=by
 intro lin b nt hk
 rw [Zgc] at hk
 cases hk
 refine ⟨ZmR,fun o rd vs h c df q e=>?_⟩
 dsimp only at e
 split at e
 · exact (Z53 o rd _ _ _ _ h c df).trans e
 · cases e
theorem ck_91:Z0b K ZeM.nt ZeM.code:=(ai tt (ai rfl Zgc))
theorem fe_91:FE (H:=H) P bk K 91 (fun o vs h c=>match vs with | [t0,t1]=>Zig o t0 t1 h c | _=>none):=by
 refine ⟨ZeM,bk_91,rfl,ck_91,fun o vs h c r e=>?_⟩
 dsimp only at e
 split at e
 · exact ⟨rfl,(Zh0 o _ _ h c).trans e⟩
 · cases e
noncomputable def tbF:BT (Orc H -> List Value -> H -> Nat -> Option (Rt H)):=(.node 56 (fun o vs h c=>match vs with | [t0]=>ZkB o t0 h c | _=>none) (.node 42 (fun o vs h c=>match vs with | [t0]=>ZkN o t0 h c | _=>none) (.node 17 (fun o vs h c=>match vs with | [t0,t1]=>ZkQ o t0 t1 h c | _=>none) (.node 14 (fun o vs h c=>match vs with | [t0]=>ZkT o t0 h c | _=>none) (.node 13 (fun o vs h c=>match vs with | [t0]=>ZkU o t0 h c | _=>none) (.node 11 (fun o vs h c=>match vs with | []=>Zr5 o h c | _=>none) .leaf .leaf) .leaf) (.node 16 (fun o vs h c=>match vs with | [t0,t1]=>ZkR o t0 t1 h c | _=>none) (.node 15 (fun o vs h c=>match vs with | [t0,t1]=>ZkS o t0 t1 h c | _=>none) .leaf .leaf) .leaf)) (.node 25 (fun o vs h c=>match vs with | [t0,t1]=>ZqZ o t0 t1 h c | _=>none) (.node 23 (fun o vs h c=>match vs with | [t0,t1]=>Zr0 o t0 t1 h c | _=>none) (.node 21 (fun o vs h c=>match vs with | [t0,t1]=>ZkP o t0 t1 h c | _=>none) .leaf .leaf) .leaf) (.node 41 (fun o vs h c=>match vs with | [t0]=>ZkO o t0 h c | _=>none) (.node 40 (fun o vs h c=>match vs with | [t0]=>ZqQ o t0 h c | _=>none) .leaf .leaf) .leaf))) (.node 48 (fun o vs h c=>match vs with | [t0]=>ZkG o t0 h c | _=>none) (.node 45 (fun o vs h c=>match vs with | [t0]=>ZkK o t0 h c | _=>none) (.node 44 (fun o vs h c=>match vs with | [t0]=>ZkL o t0 h c | _=>none) (.node 43 (fun o vs h c=>match vs with | [t0]=>ZkM o t0 h c | _=>none) .leaf .leaf) .leaf) (.node 47 (fun o vs h c=>match vs with | [t0,t1]=>ZkH o t0 t1 h c | _=>none) (.node 46 (fun o vs h c=>match vs with | [t0,t1]=>ZkJ o t0 t1 h c | _=>none) .leaf .leaf) .leaf)) (.node 53 (fun o vs h c=>match vs with | [t0]=>ZqO o t0 h c | _=>none) (.node 50 (fun o vs h c=>match vs with | [t0,t1,t2,t3]=>ZkE o t0 t1 t2 t3 h c | _=>none) (.node 49 (fun o vs h c=>match vs with | [t0,t1]=>ZkF o t0 t1 h c | _=>none) .leaf .leaf) .leaf) (.node 55 (fun o vs h c=>match vs with | [t0]=>ZkC o t0 h c | _=>none) .leaf .leaf)))) (.node 76 (fun o vs h c=>match vs with | [t0]=>Zkt o t0 h c | _=>none) (.node 70 (fun o vs h c=>match vs with | [t0]=>Zky o t0 h c | _=>none) (.node 60 (fun o vs h c=>match vs with | []=>Zkz o h c | _=>none) (.node 59 (fun o vs h c=>match vs with | [t0]=>ZkA o t0 h c | _=>none) (.node 57 (fun o vs h c=>match vs with | [t0,t1]=>ZqM o t0 t1 h c | _=>none) .leaf .leaf) .leaf) (.node 69 (fun o vs h c=>match vs with | [t0]=>ZqB o t0 h c | _=>none) (.node 68 (fun o vs h c=>match vs with | [t0]=>ZqC o t0 h c | _=>none) .leaf .leaf) .leaf)) (.node 73 (fun o vs h c=>match vs with | [t0,t1]=>Zkw o t0 t1 h c | _=>none) (.node 72 (fun o vs h c=>match vs with | [t0,t1,t2]=>Zin o t0 t1 t2 h c | _=>none) (.node 71 (fun o vs h c=>match vs with | [t0]=>Zkx o t0 h c | _=>none) .leaf .leaf) .leaf) (.node 75 (fun o vs h c=>match vs with | [t0,t1]=>Zku o t0 t1 h c | _=>none) (.node 74 (fun o vs h c=>match vs with | [t0,t1,t2]=>Zkv o t0 t1 t2 h c | _=>none) .leaf .leaf) .leaf))) (.node 87 (fun o vs h c=>match vs with | []=>Zkn o h c | _=>none) (.node 84 (fun o vs h c=>match vs with | [t0]=>Zkq o t0 h c | _=>none) (.node 83 (fun o vs h c=>match vs with | [t0]=>Zkr o t0 h c | _=>none) (.node 77 (fun o vs h c=>match vs with | [t0,t1]=>Zks o t0 t1 h c | _=>none) .leaf .leaf) .leaf) (.node 86 (fun o vs h c=>match vs with | [t0,t1]=>Zko o t0 t1 h c | _=>none) (.node 85 (fun o vs h c=>match vs with | [t0]=>Zkp o t0 h c | _=>none) .leaf .leaf) .leaf)) (.node 90 (fun o vs h c=>match vs with | [t0,t1]=>Zij o t0 t1 h c | _=>none) (.node 89 (fun o vs h c=>match vs with | []=>Zkl o h c | _=>none) (.node 88 (fun o vs h c=>match vs with | [t0,t1,t2]=>Zkm o t0 t1 t2 h c | _=>none) .leaf .leaf) .leaf) (.node 91 (fun o vs h c=>match vs with | [t0,t1]=>Zig o t0 t1 h c | _=>none) .leaf .leaf)))))
noncomputable def tbL:BT (Orc H -> Option Nat -> List Value -> H -> Nat -> List Nat -> Option (Rt H)):=(.node 47001 (fun o rd vs h c df=>match vs with | [t2,t4,t7,t15,t16,t17,t35,t36]=>Z4H o rd t2 t4 t7 t15 t16 t17 t35 t36 h c df | _=>none) (.node 23002 (fun o rd vs h c df=>match vs with | [t1,t4,t5,t8,t11,t12,t33,t34,t35,t81,t82]=>Z98 o rd t1 t4 t5 t8 t11 t12 t33 t34 t35 t81 t82 h c df | _=>none) (.node 15001 (fun o rd vs h c df=>match vs with | [t1,t7,t8,t28,t29,t30,t35,t36]=>Z4N o rd t1 t7 t8 t28 t29 t30 t35 t36 h c df | _=>none) (.node 14000 (fun o rd vs h c df=>match vs with | [t1,t5,t7,t26,t27,t28]=>Z4R o rd t1 t5 t7 t26 t27 t28 h c df | _=>none) (.node 13001 (fun o rd vs h c df=>match vs with | [t1,t2,t3,t4,t5]=>Z20 o rd t1 t2 t3 t4 t5 h c df | _=>none) (.node 13000 (fun o rd vs h c df=>match vs with | [t1,t2,t3,t4]=>Z1f o rd t1 t2 t3 t4 h c df | _=>none) .leaf .leaf) .leaf) (.node 15000 (fun o rd vs h c df=>match vs with | [t1,t7,t28,t29,t30]=>Z4O o rd t1 t7 t28 t29 t30 h c df | _=>none) (.node 14001 (fun o rd vs h c df=>match vs with | [t1,t5,t7,t9,t10,t26,t27,t28,t42,t43]=>Z4Q o rd t1 t5 t7 t9 t10 t26 t27 t28 t42 t43 h c df | _=>none) .leaf .leaf) .leaf)) (.node 23000 (fun o rd vs h c df=>match vs with | [t1,t4,t5,t8,t33,t34,t35]=>Z9a o rd t1 t4 t5 t8 t33 t34 t35 h c df | _=>none) (.node 21000 (fun o rd vs h c df=>match vs with | [t0,t1,t4,t5]=>Z4M o rd t0 t1 t4 t5 h c df | _=>none) (.node 15002 (fun o rd vs h c df=>match vs with | [t1,t7,t8,t10,t28,t29,t30,t35,t36,t63]=>Z3J o rd t1 t7 t8 t10 t28 t29 t30 t35 t36 t63 h c df | _=>none) .leaf .leaf) .leaf) (.node 23001 (fun o rd vs h c df=>match vs with | [t1,t4,t5,t8,t11,t12,t33,t34,t35,t53,t54]=>Z99 o rd t1 t4 t5 t8 t11 t12 t33 t34 t35 t53 t54 h c df | _=>none) .leaf .leaf))) (.node 42000 (fun o rd vs h c df=>match vs with | [t1,t2,t3,t4]=>Z2r o rd t1 t2 t3 t4 h c df | _=>none) (.node 40001 (fun o rd vs h c df=>match vs with | [t2,t3,t4,t5,t7,t8,t9,t10,t11]=>Z8K o rd t2 t3 t4 t5 t7 t8 t9 t10 t11 h c df | _=>none) (.node 40000 (fun o rd vs h c df=>match vs with | [t2,t3,t4,t5,t7,t8,t9]=>Z8L o rd t2 t3 t4 t5 t7 t8 t9 h c df | _=>none) (.node 25000 (fun o rd vs h c df=>match vs with | [t1,t2,t4,t5,t29,t30]=>Z97 o rd t1 t2 t4 t5 t29 t30 h c df | _=>none) .leaf .leaf) .leaf) (.node 41000 (fun o rd vs h c df=>match vs with | [t1,t2,t3,t4]=>Z1e o rd t1 t2 t3 t4 h c df | _=>none) (.node 40002 (fun o rd vs h c df=>match vs with | [t2,t3,t4,t5,t7,t8,t9,t10,t11,t14]=>Z8J o rd t2 t3 t4 t5 t7 t8 t9 t10 t11 t14 h c df | _=>none) .leaf .leaf) .leaf)) (.node 46000 (fun o rd vs h c df=>match vs with | [t0,t1]=>Z6m o rd t0 t1 h c df | _=>none) (.node 45000 (fun o rd vs h c df=>match vs with | [t0,t3,t9,t10]=>Z4J o rd t0 t3 t9 t10 h c df | _=>none) (.node 44001 (fun o rd vs h c df=>match vs with | [t6,t7,t8,t52]=>Z2q o rd t6 t7 t8 t52 h c df | _=>none) .leaf .leaf) .leaf) (.node 47000 (fun o rd vs h c df=>match vs with | [t2,t4,t15,t16,t17]=>Z4I o rd t2 t4 t15 t16 t17 h c df | _=>none) .leaf .leaf)))) (.node 71000 (fun o rd vs h c df=>match vs with | [t2,t3,t10,t11]=>Z4B o rd t2 t3 t10 t11 h c df | _=>none) (.node 57002 (fun o rd vs h c df=>match vs with | [t2,t4,t5,t7,t11,t14,t15,t16,t62,t63,t64]=>Z8F o rd t2 t4 t5 t7 t11 t14 t15 t16 t62 t63 t64 h c df | _=>none) (.node 56000 (fun o rd vs h c df=>match vs with | [t3,t6,t7,t8]=>Z4E o rd t3 t6 t7 t8 h c df | _=>none) (.node 49000 (fun o rd vs h c df=>match vs with | [t1,t7,t19,t20,t21]=>Z4F o rd t1 t7 t19 t20 t21 h c df | _=>none) (.node 48000 (fun o rd vs h c df=>match vs with | [t3,t6,t7,t8]=>Z4G o rd t3 t6 t7 t8 h c df | _=>none) .leaf .leaf) .leaf) (.node 57001 (fun o rd vs h c df=>match vs with | [t2,t4,t5,t7,t11,t62,t63,t64]=>Z8G o rd t2 t4 t5 t7 t11 t62 t63 t64 h c df | _=>none) (.node 57000 (fun o rd vs h c df=>match vs with | [t1,t2,t4,t5,t6,t7,t33,t34]=>Z8H o rd t1 t2 t4 t5 t6 t7 t33 t34 h c df | _=>none) .leaf .leaf) .leaf)) (.node 68000 (fun o rd vs h c df=>match vs with | [t0,t3,t4,t5]=>Z8j o rd t0 t3 t4 t5 h c df | _=>none) (.node 57004 (fun o rd vs h c df=>match vs with | [t2,t4,t5,t7,t11,t15,t62,t63,t64,t177,t178,t179]=>Z8D o rd t2 t4 t5 t7 t11 t15 t62 t63 t64 t177 t178 t179 h c df | _=>none) (.node 57003 (fun o rd vs h c df=>match vs with | [t2,t4,t5,t7,t11,t14,t15,t16,t17,t18,t62,t63,t64,t93,t94]=>Z8E o rd t2 t4 t5 t7 t11 t14 t15 t16 t17 t18 t62 t63 t64 t93 t94 h c df | _=>none) .leaf .leaf) .leaf) (.node 69000 (fun o rd vs h c df=>match vs with | [t0,t2,t3,t4,t5]=>Z8i o rd t0 t2 t3 t4 t5 h c df | _=>none) .leaf .leaf))) (.node 85000 (fun o rd vs h c df=>match vs with | [t2,t3,t6,t7]=>Z2n o rd t2 t3 t6 t7 h c df | _=>none) (.node 77001 (fun o rd vs h c df=>match vs with | [t0,t3,t9,t10,t11,t16,t17]=>Z4y o rd t0 t3 t9 t10 t11 t16 t17 h c df | _=>none) (.node 77000 (fun o rd vs h c df=>match vs with | [t0,t9,t10,t11]=>Z4z o rd t0 t9 t10 t11 h c df | _=>none) (.node 74000 (fun o rd vs h c df=>match vs with | [t0,t1,t7,t8,t9,t34]=>Z4A o rd t0 t1 t7 t8 t9 t34 h c df | _=>none) .leaf .leaf) .leaf) (.node 84000 (fun o rd vs h c df=>match vs with | [t2,t3,t6,t7]=>Z1Y o rd t2 t3 t6 t7 h c df | _=>none) (.node 77002 (fun o rd vs h c df=>match vs with | [t0,t3,t5,t6,t9,t10,t11,t16,t17,t44]=>Z2o o rd t0 t3 t5 t6 t9 t10 t11 t16 t17 t44 h c df | _=>none) .leaf .leaf) .leaf)) (.node 91000 (fun o rd vs h c df=>match vs with | [t0,t1,t8,t9]=>Z1X o rd t0 t1 t8 t9 h c df | _=>none) (.node 90000 (fun o rd vs h c df=>match vs with | [t0,t1,t4,t7,t8]=>Z4t o rd t0 t1 t4 t7 t8 h c df | _=>none) (.node 86000 (fun o rd vs h c df=>match vs with | [t0,t1,t4,t7,t8]=>Z4u o rd t0 t1 t4 t7 t8 h c df | _=>none) .leaf .leaf) .leaf) (.node 91001 (fun o rd vs h c df=>match vs with | [t0,t1,t3,t8,t9,t16,t17]=>Z1W o rd t0 t1 t3 t8 t9 t16 t17 h c df | _=>none) .leaf .leaf)))))
noncomputable def tbR:List (Nat × List Nat × (Orc H -> Nat -> List Value -> H -> Nat -> Option (Rt H))):=[(92,[25],(fun o l vs h c=>match vs with | [t25,t1,t5,t6]=>Z3v o l t25 t1 t5 t6 h c | _=>none)),(71,[52],(fun o l vs h c=>match vs with | [t52,t4,t7]=>Z3r o l t52 t4 t7 h c | _=>none)),(71,[13,14],(fun o l vs h c=>match vs with | [t13,t14,t1,t2,t3]=>Z3d o l t13 t14 t1 t2 t3 h c | _=>none))]
noncomputable def tab:Tab H:={ F:=fun f=>tbF.look f,L:=fun j=>tbL.look j,R:=fun nt ps=>Zk2 nt ps tbR }
theorem tab_ok:TabOK (H:=H) P bk K tab:=⟨fun f F e=>BT.look_all (Q:=FE P bk K) (t:=tbF) (ai fe_56 (ai (ai fe_42 (ai (ai fe_17 (ai (ai fe_14 (ai (ai fe_13 (ai (ai fe_11 (ai tt tt)) tt)) (ai fe_16 (ai (ai fe_15 (ai tt tt)) tt)))) (ai fe_25 (ai (ai fe_23 (ai (ai fe_21 (ai tt tt)) tt)) (ai fe_41 (ai (ai fe_40 (ai tt tt)) tt)))))) (ai fe_48 (ai (ai fe_45 (ai (ai fe_44 (ai (ai fe_43 (ai tt tt)) tt)) (ai fe_47 (ai (ai fe_46 (ai tt tt)) tt)))) (ai fe_53 (ai (ai fe_50 (ai (ai fe_49 (ai tt tt)) tt)) (ai fe_55 (ai tt tt)))))))) (ai fe_76 (ai (ai fe_70 (ai (ai fe_60 (ai (ai fe_59 (ai (ai fe_57 (ai tt tt)) tt)) (ai fe_69 (ai (ai fe_68 (ai tt tt)) tt)))) (ai fe_73 (ai (ai fe_72 (ai (ai fe_71 (ai tt tt)) tt)) (ai fe_75 (ai (ai fe_74 (ai tt tt)) tt)))))) (ai fe_87 (ai (ai fe_84 (ai (ai fe_83 (ai (ai fe_77 (ai tt tt)) tt)) (ai fe_86 (ai (ai fe_85 (ai tt tt)) tt)))) (ai fe_90 (ai (ai fe_89 (ai (ai fe_88 (ai tt tt)) tt)) (ai fe_91 (ai tt tt)))))))))) e,
 fun j B lin b nt e hk=>BT.look_all (Q:=LE P K) (t:=tbL) (ai Zmu (ai (ai ZmF (ai (ai ZmK (ai (ai ZmN (ai (ai ZmO (ai (ai ZmP (ai tt tt)) tt)) (ai ZmL (ai (ai ZmM (ai tt tt)) tt)))) (ai ZmH (ai (ai ZmI (ai (ai ZmJ (ai tt tt)) tt)) (ai ZmG (ai tt tt)))))) (ai Zmz (ai (ai ZmC (ai (ai ZmD (ai (ai ZmE (ai tt tt)) tt)) (ai ZmA (ai (ai ZmB (ai tt tt)) tt)))) (ai Zmw (ai (ai Zmx (ai (ai Zmy (ai tt tt)) tt)) (ai Zmv (ai tt tt)))))))) (ai Zmj (ai (ai Zmo (ai (ai Zmr (ai (ai Zms (ai (ai Zmt (ai tt tt)) tt)) (ai Zmp (ai (ai Zmq (ai tt tt)) tt)))) (ai Zml (ai (ai Zmm (ai (ai Zmn (ai tt tt)) tt)) (ai Zmk (ai tt tt)))))) (ai Zmd (ai (ai Zmg (ai (ai Zmh (ai (ai Zmi (ai tt tt)) tt)) (ai Zme (ai (ai Zmf (ai tt tt)) tt)))) (ai Zma (ai (ai Zmb (ai (ai Zmc (ai tt tt)) tt)) (ai Zm9 (ai tt tt)))))))))) e lin b nt hk,
 fun nt ps D lin a b e hk=>ZdF (Q:=RE P K) (l:=tbR) (ai ZlY (ai ZlX (ai ZlW tt))) e lin a b hk⟩
theorem ev_run {n:Nat} {k:Key} {vs:List Value} {h:H} {c:Nat} {df:List Nat} {r:Rt H} (hk:KeyOK K k) (hi:Z76 K h) (e:evT tab n k vs h c df = some r):run P bk k vs h c df = some r:=(ZhC tab_ok n k vs h c df r hk hi e).1
end Go.Proofs.Ytcnndelmnobigaa

namespace Go.Proofs.Ytcnndelmnobigaa
open Go Go.Ab Go.Proofs
theorem Zlu (t:TypeId) (a b:Int):Z00 P .or t (.int .i64 a) (.int .i64 b) = some (.int .i64 (orB a b)):=by rw [Z0H]; simp [Z0O,Z1T,orB]; rfl
theorem ZfH (t:TypeId) (x:Int) (h:0 <= x):Z00 P .shl t (.int .i64 1) (.int .i64 x) = some (.int .i64 (shB x)):=by
 rw [Z0H]
 have:¬ x < 0:=by omega
 simp [Z0O,Z66,shB,this]; rfl
theorem ZhQ (p:List Int) (hp:p.length = 4) (h:FH) (c:Nat) (df:List Nat):∀ (k i:Nat) (m:Int),i + k = 4 →
 Ans (G (Z4w none) [.bool false,.int .i64 m,av p,.int .i64 i] h c df) fun r=>r.h = h /\ r.c = c /\ r.df = df ∧
  (match Z79 (p.drop i) m with
   | some m'=>r.e = .exit 0 /\ r.v 1 = .int .i64 m'
   | none=>r.e = .ret /\ r.v 0 = .bool false):=by
 intro k
 induction k with
 | zero =>
  intro i m hi
  obtain rfl:i = 4:=by omega
  rw [List.drop_of_length_le (by omega)]
  have e1:¬ ((4:Nat):Int) < 4:=by omega
  refine .intro (Zbm (q:=⟨.exit 0,[.bool false,.int .i64 m,av p,.int .i64 (4:Nat)],h,c + 1,df⟩) (by unfold Z1Y; simp [e1]) (by simp)) ?_
  rw [Z1w (by simp)]
  simp [Z79]
 | succ k ih =>
  intro i m hi
  have hlt:i < p.length:=by omega
  have e0:(i:Int) < 4:=by omega
  rw [List.drop_eq_getElem_cons hlt]
  have hx:p.getD i 0 = p[i]:=by simp [List.getD,List.getElem?_eq_getElem hlt]
  by_cases hc:p[i] < 0 ∨ 3 < p[i]
  · simp only [Z79,hc,if_true]
    refine .intro (Zbm (q:=⟨.ret,[.bool false,.int .i64 m,av p,.int .i64 i],h,_,df⟩) (by
     unfold Z1Y
     by_cases h1:p[i] < 0
     · simp (disch:=omega) [e0,Z6L,hx,h1,-List.getD_eq_getElem?_getD]; rfl
     · have h2:3 < p[i]:=by omega
       simp (disch:=omega) [e0,Z6L,hx,h1,h2,-List.getD_eq_getElem?_getD] <;> rfl) (by simp)) ?_
    rw [Z1w (by simp)]
    simp
  · have h1:¬ p[i] < 0:=by omega
    have h2:¬ 3 < p[i]:=by omega
    simp only [Z79,hc,if_false]
    obtain ⟨r,hr,hq⟩:=ih (i + 1) (orB m (shB p[i])) (by omega)
    refine .intro (Zim (q:=⟨.normal,[.bool false,.int .i64 (orB m (shB p[i])),av p,.int .i64 (i + 1:Nat)],h,c + 1 + 1 + 1 + 1 + 1,df⟩) (by
     unfold Z1Y
     simp (disch:=omega) [e0,Z6L,hx,h1,h2,ZfH _ p[i] (by omega),Zlu,-List.getD_eq_getElem?_getD]) rfl ?_) hq
    rw [Z1w (by simp)]
    exact hr
theorem ZlC (p:List Int) (hp:p.length = 4) (h:FH) (c:Nat) (df:List Nat) :
 G (.fn 84) [av p] h c df = some ⟨.ret,[.bool (Z1i p)],h,c,[]⟩:=by
 refine Z6X (fun r e=>f84_go e) (by simp) ?_
 obtain ⟨⟨re,rv,rh,rc,rd⟩,hr,h1,h2,h3,h4⟩:=ZhQ p hp (newB h (256 * c) (ints p)) (c + 1 + 1 + 1) [] 4 0 0 rfl
 simp only at h1 h2 h3
 subst h1 h2 h3
 unfold Zkq
 simp only [List.drop_zero] at h4
 have e1:p.take 4 = p:=List.take_of_length_le (by omega)
 simp only [Int.ofNat_eq_natCast,Int.cast_ofNat_Int] at hr
 unfold Z1i
 cases hv:Z79 p 0 with
 | none =>
  rw [hv] at h4
  obtain ⟨rfl,h5⟩:=h4
  simp [hr,e1,hp,h5]
 | some m =>
  rw [hv] at h4
  obtain ⟨rfl,h5⟩:=h4
  simp [hr,e1,hp,h5]
theorem ZdI (p:List Int) (hp:p.length = 4) (hr:InR p) (h:FH) (b1 b3 c:Nat) (hb1:b1 < 256 * c) (hb:b3 < 256 * c) (df:List Nat):∀ (k i:Nat) (out:List Int),i + k = 4 -> out.length = 4 →
 G (Z4v none) [ptrTo b1,ptrTo b3,av p,.int .i64 i] (newB h b3 (ints out)) c df =
  some ⟨.exit 0,[ptrTo b1,ptrTo b3,av p,.int .i64 4],newB h b3 (ints (Zic (p.drop i) i out)),c,df⟩:=by
 intro k
 induction k with
 | zero =>
  intro i out hi ho
  obtain rfl:i = 4:=by omega
  rw [List.drop_of_length_le (by omega)]
  refine (Zik (q:=⟨.exit 0,[ptrTo b1,ptrTo b3,av p,.int .i64 4],newB h b3 (ints out),c + 1,df⟩) (by unfold Z2n; simp) (by simp)).trans ?_
  rw [Z1w (by simp [hb1,hb])]
  rfl
 | succ k ih =>
  intro i out hi ho
  have hlt:i < p.length:=by omega
  have e0:(i:Int) < 4:=by omega
  rw [List.drop_eq_getElem_cons hlt]
  have hx:p.getD i 0 = p[i]:=by simp [List.getD,List.getElem?_eq_getElem hlt]
  have hxr:=hr p[i] (List.getElem_mem hlt)
  refine Zil (q:=⟨.normal,[ptrTo b1,ptrTo b3,av p,.int .i64 (i + 1:Nat)],newB h b3 (ints (out.set p[i].toNat i)),c + 1 + 1 + 1 + 1,df⟩) ?_ rfl ?_
  · unfold Z2n
    simp (disch:=(first | omega | (simp <;> omega) | fail)) [e0,Z6L,hx,hxr,ho,-List.getD_eq_getElem?_getD]
  · rw [ZeE hb (by simp [hb1,hb]) (by simp)]
    exact ih (i + 1) _ (by omega) (by simpa using ho)
theorem Zib (p:List Int) (hp:p.length = 4) (hr:InR p) (h:FH) (c:Nat) (df:List Nat) :
 G (.fn 85) [av p] h c df = some ⟨.ret,[av (inv p)],h,c,[]⟩:=by
 refine Z6X (fun r e=>f85_go e) (by simp) ?_
 have e1:p.take 4 = p:=List.take_of_length_le (by omega)
 have hl:=ZdI p hp hr (newB (newB h (256 * c) (ints p)) (256 * c + 1) (ints [0,0,0,0])) (256 * c + 1) (256 * (c + 1)) (c + 1 + 1 + 1) (by omega) (by omega) [] 4 0 [0,0,0,0] rfl rfl
 have hl2:(Zic p 0 [0,0,0,0]).length = 4:=Z3Y p 0 [0,0,0,0]
 have e2:(Zic p 0 [0,0,0,0]).take 4 = Zic p 0 [0,0,0,0]:=List.take_of_length_le (by omega)
 unfold Zkp
 simp only [ZdJ,ZgU,Int.ofNat_eq_natCast,Int.cast_ofNat_Int,List.drop_zero] at hl
 simp (disch:=(first | omega | (simp <;> omega) | fail)) [hl,e1,e2,hp,hl2,inv]
end Go.Proofs.Ytcnndelmnobigaa

namespace Go.Proofs.Ytcnndelmnobigaa
open Go Go.Ab Go.Proofs
theorem ZoL (a0 a1 a2 a3 a4 b0 b1 b2 b3 b4:Int):Z0O P .eql 41 (av [a0,a1,a2,a3,a4]) (av [b0,b1,b2,b3,b4]) =
 (cond (a0 == b0) ((cond (a1 == b1) (cond (a2 == b2) (cond (a3 == b3) (cond (a4 == b4) (some true) (some false)) (some false)) (some false)) (some false)).bind fun r=>cond r (some true) (some false)) (some false)).bind fun b=>some (.bool b):=by kernel_rfl
theorem Z4e (x y:List Int) (hx:x.length = 5) (hy:y.length = 5):Z00 P .eql 41 (av x) (av y) = some (.bool (decide (x = y))):=by
 match x,hx,y,hy with
 | [a0,a1,a2,a3,a4],_,[b0,b1,b2,b3,b4],_ =>
  rw [Z0H,ZoL]
  by_cases h0:a0 = b0 <;> by_cases h1:a1 = b1 <;> by_cases h2:a2 = b2 <;> by_cases h3:a3 = b3 <;> by_cases h4:a4 = b4 <;> simp [h0,h1,h2,h3,h4,Bool.cond_eq_ite]
theorem Z6b (x y:List Int) (hx:x.length = 5) (hy:y.length = 5):Z00 P .neq 41 (av x) (av y) = some (.bool (!decide (x = y))):=by
 have h:=Z4e x y hx hy
 rw [Z0H] at h ⊢
 have e1:Z0O P .eql 41 (av x) (av y) = cond (Z71 P 41 (av x)) ((aEq P Z2w 41 (av x) (av y)).bind fun b=>some (.bool b)) none:=rfl
 have e2:Z0O P .neq 41 (av x) (av y) = cond (Z71 P 41 (av x)) ((aEq P Z2w 41 (av x) (av y)).bind fun b=>some (.bool (!b))) none:=rfl
 rw [e1] at h
 rw [e2]
 cases hg:Z71 P 41 (av x) with
 | false=>rw [hg] at h; cases h
 | true =>
  rw [hg] at h
  simp only [cond_true] at h ⊢
  cases hq:aEq P Z2w 41 (av x) (av y) with
  | none=>rw [hq] at h; cases h
  | some b=>rw [hq] at h; simp only [Option.bind_some,Option.some.injEq,Value.bool.injEq] at h ⊢; rw [h]
structure FacesI (y:Value) (s:Value) (n:Nat) (Gl:List Int) (gb:Nat) (I:Nat -> FH -> Nat -> Prop) (J:FH -> Nat -> Prop):Prop where
 stab:∀ k h c h' c',I k h c -> c <= c' -> Z0u c h h' -> I k h' c'
 jstab:∀ h c h' c',J h c -> c <= c' -> Z0u c h h' -> J h' c'
 read:∀ k h c,I k h c -> Z0a h gb [s] /\ SlI h c s 20 n Gl
 step:∀ t f h c,t < n -> f < 4 -> I (4 * t + f) h c →
  Ans (Z2y G h c y [av [(t:Int),(f:Int)],av (Z02 Gl t f)]) (fun q=>c <= q.2.2 /\ ((q.1 = .bool true /\ I (4 * t + f + 1) q.2.1 q.2.2) ∨ (q.1 = .bool false /\ J q.2.1 q.2.2)))
theorem ZnJ {y s:Value} {n:Nat} {Gl:List Int} {gb:Nat} {I:Nat -> FH -> Nat -> Prop} {J:FH -> Nat -> Prop} (hI:FacesI y s n Gl gb I J) (hG:Gl.length = n * 20) (t:Nat) (ht:t < n) (df:List Nat) :
 ∀ (k f:Nat) (h:FH) (c:Nat),f + k = 4 -> I (4 * t + f) h c →
 Ans (G (Z4r none) [y,ptrTo gb,.int .i64 t,.int .i64 n,.int .i64 t,av (Z2Z Gl t),.int .i64 f] h c df) fun r=>c <= r.c /\ r.df = df ∧
  ((r.e = .exit 2 /\ r.vs = [y,ptrTo gb,.int .i64 t,.int .i64 n,.int .i64 t,av (Z2Z Gl t),.int .i64 4] /\ I (4 * t + 4) r.h r.c) ∨ (r.e = .ret /\ r.vs.length = 7 /\ J r.h r.c)):=by
 intro k
 induction k with
 | zero =>
  intro f h c hf hi
  obtain rfl:f = 4:=by omega
  refine .intro (Zbi (q:=⟨.exit 2,_,h,c + 1,df⟩) (by unfold Z1W; simp; rfl) (by simp)) ?_
  exact ⟨by simp,rfl,.inl ⟨rfl,rfl,hI.stab _ _ _ _ _ hi (by simp) (Z0u.refl _ _)⟩⟩
 | succ k ih =>
  intro f h c hf hi
  have hf4:f < 4:=by omega
  have e0:(f:Int) < 4:=by omega
  have hl:=Z0i hG ht hf4
  have hrl:=Z6W hG ht
  have hb:∀ cs,Z0u c h (newB h (256 * (c + 1) + 2) cs):=fun cs=>(Z0u.refl _ _).newB (by omega)
  obtain ⟨q,hq,hcq,hcase⟩:=hI.step t f (newB h (256 * (c + 1) + 2) (ints (Z02 Gl t f))) (c + 1 + 1 + 1) ht hf4 (hI.stab _ _ _ _ _ hi (by omega) (hb _))
  have e1:(Z02 Gl t f).take 5 = Z02 Gl t f:=List.take_of_length_le (by omega)
  have body:Z1W G none y (ptrTo gb) (.int .i64 t) (.int .i64 n) (.int .i64 t) (av (Z2Z Gl t)) (.int .i64 f) h c df =
   (Z1A .not q.1).bind fun t27=>Z08 t27 (some ⟨.ret,[y,ptrTo gb,.int .i64 t,.int .i64 n,.int .i64 t,av (Z2Z Gl t),.int .i64 f],q.2.1,q.2.2,df⟩)
    (some ⟨.normal,[y,ptrTo gb,.int .i64 t,.int .i64 n,.int .i64 t,av (Z2Z Gl t),.int .i64 (f + 1:Nat)],q.2.1,q.2.2 + 1,df⟩):=by
   unfold Z1W
   simp (disch:=(first | omega | (simp <;> omega) | fail)) [e0,Z5U,hrl,ZfW hf4,hl,e1,bld2,hq]
  rcases hcase with ⟨hv,hi2⟩ | ⟨hv,hj⟩
  · rw [hv] at body
    simp only [aUnOp_not,Option.bind_some,boolK_bool,Bool.not_true,cond_false] at body
    refine (ih (f + 1) q.2.1 (q.2.2 + 1) (by omega) (hI.stab _ _ _ _ _ hi2 (by omega) (Z0u.refl _ _))).elim fun r ⟨hr,h1,h2⟩=>?_
    exact .intro (Zih body rfl hr) ⟨by omega,h2⟩
  · rw [hv] at body
    simp only [aUnOp_not,Option.bind_some,boolK_bool,Bool.not_false,cond_true] at body
    exact .intro (Zbi body (by simp)) ⟨by simp; omega,rfl,.inr ⟨rfl,rfl,hj⟩⟩
theorem Zki {y s:Value} {n:Nat} {Gl:List Int} {gb:Nat} {I:Nat -> FH -> Nat -> Prop} {J:FH -> Nat -> Prop} (hI:FacesI y s n Gl gb I J) (hG:Gl.length = n * 20) (hn:n <= 9223372036854775807) (df:List Nat) :
 ∀ (k t:Nat) (h:FH) (c:Nat),t + k = n -> I (4 * t) h c →
 Ans (G (Z4s none) [y,ptrTo gb,.int .i64 n,.int .i64 t] h c df) fun r=>c <= r.c /\ r.df = df ∧
  ((r.e = .exit 0 /\ I (4 * n) r.h r.c) ∨ (r.e = .ret /\ J r.h r.c)):=by
 intro k
 induction k with
 | zero =>
  intro t h c ht hi
  obtain rfl:t = n:=by omega
  refine .intro (Zbj (q:=⟨.exit 0,_,h,c + 1,df⟩) (by unfold Z1X; simp; rfl) (by simp)) ?_
  exact ⟨by simp,rfl,.inl ⟨rfl,hI.stab _ _ _ _ _ hi (by simp) (Z0u.refl _ _)⟩⟩
 | succ k ih =>
  intro t h c ht hi
  have htn:t < n:=by omega
  have e0:(t:Int) < n:=by omega
  obtain ⟨hgb,hs⟩:=hI.read _ _ _ hi
  obtain ⟨b,o,cs,e1,hb,hh,hw⟩:=hs.ix .i64 t (by omega) e0
  have e2:ld1 h (.pointer (some ⟨gb,0,none⟩)) = some s:=by rw [Z01 hgb]; rfl
  have e3:ldN h 20 (.pointer (some ⟨b,o + t * 20,none⟩)) = some (av (Z2Z Gl t)):=by
   have:=ZcF hh hw (j:=t * 20) (q:=20) (by omega) (by omega)
   rw [this]; unfold Z2Z; rw [Nat.mul_comm]
  simp only [Int.toNat_natCast] at e1
  obtain ⟨r,hr,hcr,hdf,hcase⟩:=ZnJ hI hG t htn df 4 0 h (c + 1 + 1 + 1) rfl (hI.stab _ _ _ _ _ hi (by omega) (Z0u.refl _ _))
  have body:Z1X G none y (ptrTo gb) (.int .i64 n) (.int .i64 t) h c df =
   cond (Z0o r.e (.exit 2)) ((Z00 P .add 3 (r.v 4) (.int .i64 1)).bind fun t29=>some ⟨.normal,[(r.v 0),(r.v 1),(r.v 3),t29],r.h,(r.c + 1),r.df⟩)
    (cond (Z0o r.e .ret) (some ⟨.ret,[(r.v 0),(r.v 1),(r.v 3),(r.v 4)],r.h,r.c,r.df⟩) none):=by
   unfold Z1X
   simp only [Int.ofNat_eq_natCast,Int.cast_ofNat_Int] at hr
   simp (disch:=(first | omega | (simp <;> omega) | fail)) [e0,e2,e1,e3,hr]
  obtain ⟨re,rv,rh,rc,rd⟩:=r
  simp only at hcase hcr hdf
  subst hdf
  rcases hcase with ⟨rfl,rfl,hi2⟩ | ⟨rfl,hl,hj⟩
  · simp (disch:=omega) at body
    refine (ih (t + 1) rh (rc + 1) (by omega) (hI.stab _ _ _ _ _ hi2 (by omega) (Z0u.refl _ _))).elim fun r ⟨hr2,h1,h2⟩=>?_
    exact .intro (Zii body rfl (by simpa using hr2)) ⟨by omega,h2⟩
  · simp at body
    exact .intro (Zbj body (by simp)) ⟨by simp; omega,rfl,.inr ⟨rfl,hj⟩⟩
theorem ZnI {y s:Value} {n:Nat} {Gl:List Int} {gb:Nat} {I:Nat -> FH -> Nat -> Prop} {J:FH -> Nat -> Prop} (hI:FacesI y s n Gl gb I J) {h:FH} {c:Nat} (hi:I 0 h c) (df:List Nat) :
 Ans (G (.fn 91) [y,ptrTo gb] h c df) fun r=>r.e = .ret /\ r.vs = [.tuple #[]] /\ r.df = [] /\ c <= r.c /\ (I (4 * n) r.h r.c ∨ J r.h r.c):=by
 obtain ⟨hgb,hs⟩:=hI.read _ _ _ hi
 obtain ⟨r,hr,hcr,hdf,hcase⟩:=Zki hI hs.1 hs.2.1 [] n 0 h (c + 1) (by omega) (hI.stab _ _ _ _ _ hi (by omega) (Z0u.refl _ _))
 have e2:ld1 h (.pointer (some ⟨gb,0,none⟩)) = some s:=by rw [Z01 hgb]; rfl
 obtain ⟨re,rv,rh,rc,rd⟩:=r
 simp only at hcase hcr hdf
 subst hdf
 simp only [Int.ofNat_eq_natCast,Int.cast_ofNat_Int] at hr
 rcases hcase with ⟨rfl,hi2⟩ | ⟨rfl,hj⟩
 · refine .intro (Zpw (r:=⟨.ret,[.tuple #[]],rh,rc,[]⟩) (by unfold Zig; simp [e2,hs.len,hr])) ?_
   exact ⟨rfl,rfl,rfl,by simp; omega,.inl hi2⟩
 · refine .intro (Zpw (r:=⟨.ret,[.tuple #[]],rh,rc,[]⟩) (by unfold Zig; simp [e2,hs.len,hr])) ?_
   exact ⟨rfl,rfl,rfl,by simp; omega,.inr hj⟩
end Go.Proofs.Ytcnndelmnobigaa
