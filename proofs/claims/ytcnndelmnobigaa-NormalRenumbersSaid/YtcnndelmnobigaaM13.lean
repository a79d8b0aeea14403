/- Parts of a proof: E C1 C2. Conditions: none. -/
import Derived.Test.YtcnndelmnobigaaM10
import Derived.Test.YtcnndelmnobigaaM11
import Derived.Test.YtcnndelmnobigaaM12
import Derived.Test.YtcnndelmnobigaaM7
set_option linter.all false
set_option maxRecDepth 100000
namespace Go.Proofs.Ytcnndelmnobigaa
open Go Go.Ab Go.Proofs
variable {H:Type} [HeapC H]
noncomputable def K:LB:={ loop:=fun j=>BT.look ((.node 47001 ([2,4,7,15,16,17,35,36],Z2Z,71) (.node 23002 ([1,4,5,8,11,12,33,34,35,81,82],Z3c,112) (.node 15001 ([1,7,8,28,29,30,35,36],Z3h,80) (.node 14000 ([1,5,7,26,27,28],Z3l,68) (.node 13001 ([1,2,3,4,5],Z3o,83) (.node 13000 ([1,2,3,4],Z3p,83) .leaf .leaf) .leaf) (.node 15000 ([1,7,28,29,30],Z3i,80) (.node 14001 ([1,5,7,9,10,26,27,28,42,43],Z3k,68) .leaf .leaf) .leaf)) (.node 23000 ([1,4,5,8,33,34,35],Z3e,112) (.node 21000 ([0,1,4,5],Z3f,26) (.node 15002 ([1,7,8,10,28,29,30,35,36,63],Z3g,80) .leaf .leaf) .leaf) (.node 23001 ([1,4,5,8,11,12,33,34,35,53,54],Z3d,112) .leaf .leaf))) (.node 42000 ([1,2,3,4],Z36,19) (.node 40001 ([2,3,4,5,7,8,9,10,11],Z39,135) (.node 40000 ([2,3,4,5,7,8,9],Z3a,135) (.node 25000 ([1,2,4,5,29,30],Z3b,52) .leaf .leaf) .leaf) (.node 41000 ([1,2,3,4],Z37,30) (.node 40002 ([2,3,4,5,7,8,9,10,11,14],Z38,135) .leaf .leaf) .leaf)) (.node 46000 ([0,1],Z32,22) (.node 45000 ([0,3,9,10],Z33,24) (.node 44001 ([6,7,8,52],Z34,92) .leaf .leaf) .leaf) (.node 47000 ([2,4,15,16,17],Z30,71) .leaf .leaf)))) (.node 71000 ([2,3,10,11],Z2N,21) (.node 57002 ([2,4,5,7,11,14,15,16,62,63,64],Z2T,200) (.node 56000 ([3,6,7,8],Z2W,19) (.node 49000 ([1,7,19,20,21],Z2X,36) (.node 48000 ([3,6,7,8],Z2Y,17) .leaf .leaf) .leaf) (.node 57001 ([2,4,5,7,11,62,63,64],Z2U,200) (.node 57000 ([1,2,4,5,6,7,33,34],Z2V,200) .leaf .leaf) .leaf)) (.node 68000 ([0,3,4,5],Z2Q,43) (.node 57004 ([2,4,5,7,11,15,62,63,64,177,178,179],Z2R,200) (.node 57003 ([2,4,5,7,11,14,15,16,17,18,62,63,64,93,94],Z2S,200) .leaf .leaf) .leaf) (.node 69000 ([0,2,3,4,5],Z2P,51) .leaf .leaf))) (.node 85000 ([2,3,6,7],Z2H,16) (.node 77001 ([0,3,9,10,11,16,17],Z2K,72) (.node 77000 ([0,9,10,11],Z2L,72) (.node 74000 ([0,1,7,8,9,34],Z2M,56) .leaf .leaf) .leaf) (.node 84000 ([2,3,6,7],Z2I,23) (.node 77002 ([0,3,5,6,9,10,11,16,17,44],Z2J,72) .leaf .leaf) .leaf)) (.node 91000 ([0,1,8,9],Z2E,30) (.node 90000 ([0,1,4,7,8],Z2F,19) (.node 86000 ([0,1,4,7,8],Z2G,19) .leaf .leaf) .leaf) (.node 91001 ([0,1,3,8,9,16,17],Z2D,30) .leaf .leaf))))):BT (List Nat × ACode × Nat)) j,rng:=fun nt ps=>Zi4 nt ps [(92,[25],([1,5,6],Z1c,Z1b)),(71,[52],([4,7],Z1a,Z19)),(71,[13,14],([1,2,3],Z1r,Z1q))] }
theorem ZeH:K.loop 13000=some ([1,2,3,4],Z3p,83):=by kernel_rfl
theorem ZeG:K.loop 13001=some ([1,2,3,4,5],Z3o,83):=by kernel_rfl
theorem ZeF:K.loop 14000=some ([1,5,7,26,27,28],Z3l,68):=by kernel_rfl
theorem ZeE:K.loop 14001=some ([1,5,7,9,10,26,27,28,42,43],Z3k,68):=by kernel_rfl
theorem ZeD:K.loop 15000=some ([1,7,28,29,30],Z3i,80):=by kernel_rfl
theorem ZeC:K.loop 15001=some ([1,7,8,28,29,30,35,36],Z3h,80):=by kernel_rfl
theorem ZeB:K.loop 15002=some ([1,7,8,10,28,29,30,35,36,63],Z3g,80):=by kernel_rfl
theorem ZeA:K.loop 21000=some ([0,1,4,5],Z3f,26):=by kernel_rfl
theorem Zez:K.loop 23000=some ([1,4,5,8,33,34,35],Z3e,112):=by kernel_rfl
theorem Zey:K.loop 23001=some ([1,4,5,8,11,12,33,34,35,53,54],Z3d,112):=by kernel_rfl
theorem Zex:K.loop 23002=some ([1,4,5,8,11,12,33,34,35,81,82],Z3c,112):=by kernel_rfl
theorem Zew:K.loop 25000=some ([1,2,4,5,29,30],Z3b,52):=by kernel_rfl
theorem Zev:K.loop 40000=some ([2,3,4,5,7,8,9],Z3a,135):=by kernel_rfl
theorem Zeu:K.loop 40001=some ([2,3,4,5,7,8,9,10,11],Z39,135):=by kernel_rfl
theorem Zet:K.loop 40002=some ([2,3,4,5,7,8,9,10,11,14],Z38,135):=by kernel_rfl
theorem Zes:K.loop 41000=some ([1,2,3,4],Z37,30):=by kernel_rfl
theorem Zer:K.loop 42000=some ([1,2,3,4],Z36,19):=by kernel_rfl
theorem Zeq:K.loop 44001=some ([6,7,8,52],Z34,92):=by kernel_rfl
theorem Zep:K.loop 45000=some ([0,3,9,10],Z33,24):=by kernel_rfl
theorem Zeo:K.loop 46000=some ([0,1],Z32,22):=by kernel_rfl
theorem Zen:K.loop 47000=some ([2,4,15,16,17],Z30,71):=by kernel_rfl
theorem Zem:K.loop 47001=some ([2,4,7,15,16,17,35,36],Z2Z,71):=by kernel_rfl
theorem Zel:K.loop 48000=some ([3,6,7,8],Z2Y,17):=by kernel_rfl
theorem Zek:K.loop 49000=some ([1,7,19,20,21],Z2X,36):=by kernel_rfl
theorem Zej:K.loop 56000=some ([3,6,7,8],Z2W,19):=by kernel_rfl
theorem Zei:K.loop 57000=some ([1,2,4,5,6,7,33,34],Z2V,200):=by kernel_rfl
theorem Zeh:K.loop 57001=some ([2,4,5,7,11,62,63,64],Z2U,200):=by kernel_rfl
theorem Zeg:K.loop 57002=some ([2,4,5,7,11,14,15,16,62,63,64],Z2T,200):=by kernel_rfl
theorem Zef:K.loop 57003=some ([2,4,5,7,11,14,15,16,17,18,62,63,64,93,94],Z2S,200):=by kernel_rfl
theorem Zee:K.loop 57004=some ([2,4,5,7,11,15,62,63,64,177,178,179],Z2R,200):=by kernel_rfl
theorem Zed:K.loop 68000=some ([0,3,4,5],Z2Q,43):=by kernel_rfl
theorem Zec:K.loop 69000=some ([0,2,3,4,5],Z2P,51):=by kernel_rfl
theorem Zeb:K.loop 71000=some ([2,3,10,11],Z2N,21):=by kernel_rfl
theorem Zea:K.loop 74000=some ([0,1,7,8,9,34],Z2M,56):=by kernel_rfl
theorem Ze9:K.loop 77000=some ([0,9,10,11],Z2L,72):=by kernel_rfl
theorem Ze8:K.loop 77001=some ([0,3,9,10,11,16,17],Z2K,72):=by kernel_rfl
theorem Ze7:K.loop 77002=some ([0,3,5,6,9,10,11,16,17,44],Z2J,72):=by kernel_rfl
theorem Ze6:K.loop 84000=some ([2,3,6,7],Z2I,23):=by kernel_rfl
theorem Ze5:K.loop 85000=some ([2,3,6,7],Z2H,16):=by kernel_rfl
theorem Ze4:K.loop 86000=some ([0,1,4,7,8],Z2G,19):=by kernel_rfl
theorem Ze3:K.loop 90000=some ([0,1,4,7,8],Z2F,19):=by kernel_rfl
theorem Ze2:K.loop 91000=some ([0,1,8,9],Z2E,30):=by kernel_rfl
theorem Ze1:K.loop 91001=some ([0,1,3,8,9,16,17],Z2D,30):=by kernel_rfl
theorem ZdZ:K.rng 71 [52]=some ([4,7],Z1a,Z19):=by kernel_rfl
theorem Ze0:K.rng 92 [25]=some ([1,5,6],Z1c,Z1b):=by kernel_rfl
theorem ZdY:K.rng 71 [13,14]=some ([1,2,3],Z1r,Z1q):=by kernel_rfl
theorem ck_11:Z05 K ZgU.nt ZgU.code:=(ai tt (ai tt (ai tt (ai tt (ai (ai tt (ai (ai tt tt) tt)) (ai tt (ai tt (ai tt (ai tt (ai tt (ai (ai tt (ai (ai tt tt) tt)) (ai tt (ai tt (ai tt tt))))))))))))))
theorem fe_11:FE (H:=H) P bk K 11 (fun o vs h c=>match vs with | []=>Zo1 o h c | _=>none):=by
 refine ⟨ZgU,bk_11,rfl,ck_11,fun o vs h c r e=>?_⟩
 dsimp only at e
 split at e
 · exact ⟨rfl,(ZlV o h c).trans e⟩
 · cases e
theorem Zlj:Z05 K 83 Z3o:=(ai (ai tt (ai tt tt)) (ai (ai tt (ai (ai tt (ai tt tt)) (ai (ai tt (ai (ai tt tt) tt)) (ai tt (ai (ai tt tt) tt))))) tt))
theorem Zkz:LE (H:=H) P K 13001 (fun o rd vs h c df=>match vs with | [t1,t2,t3,t4,t5]=>Z1L o rd t1 t2 t3 t4 t5 h c df | _=>none):=by
 intro lin b nt hk
 rw [ZeG] at hk
 cases hk
 refine ⟨Zlj,fun o rd vs h c df q e=>?_⟩
 dsimp only at e
 split at e
 · exact (Z4T o rd _ _ _ _ _ h c df).trans e
 · cases e
theorem Zlk:Z05 K 83 Z3p:=(ai (ai tt (ai tt tt)) (ai (ai tt (ai rfl ZeG)) tt))
theorem ZkA:LE (H:=H) P K 13000 (fun o rd vs h c df=>match vs with | [t1,t2,t3,t4]=>Z1e o rd t1 t2 t3 t4 h c df | _=>none):=by
 intro lin b nt hk
 rw [ZeH] at hk
 cases hk
 refine ⟨Zlk,fun o rd vs h c df q e=>?_⟩
 dsimp only at e
 split at e
 · exact (Z4U o rd _ _ _ _ h c df).trans e
 · cases e
theorem ck_13:Z05 K Zdf.nt Zdf.code:=(ai tt (ai tt (ai (ai tt (ai (ai tt tt) tt)) (ai (ai tt (ai rfl ZeH)) (ai tt tt)))))
theorem fe_13:FE (H:=H) P bk K 13 (fun o vs h c=>match vs with | [t0]=>ZiU o t0 h c | _=>none):=by
 refine ⟨Zdf,bk_13,rfl,ck_13,fun o vs h c r e=>?_⟩
 dsimp only at e
 split at e
 · exact ⟨rfl,(Zfr o _ h c).trans e⟩
 · cases e
theorem Zlh:Z05 K 68 Z3k:=(ai tt (ai (ai tt tt) (ai (ai tt (ai tt (ai tt tt))) tt)))
theorem Zkx:LE (H:=H) P K 14001 (fun o rd vs h c df=>match vs with | [t1,t5,t7,t9,t10,t26,t27,t28,t42,t43]=>Z7q o rd t1 t5 t7 t9 t10 t26 t27 t28 t42 t43 h c df | _=>none):=by
 intro lin b nt hk
 rw [ZeE] at hk
 cases hk
 refine ⟨Zlh,fun o rd vs h c df q e=>?_⟩
 dsimp only at e
 split at e
 · exact (Zb9 o rd _ _ _ _ _ _ _ _ _ _ h c df).trans e
 · cases e
theorem Zli:Z05 K 68 Z3l:=(ai tt (ai (ai tt tt) (ai (ai tt (ai tt (ai (ai tt (ai rfl ZeE)) tt))) tt)))
theorem Zky:LE (H:=H) P K 14000 (fun o rd vs h c df=>match vs with | [t1,t5,t7,t26,t27,t28]=>Z7r o rd t1 t5 t7 t26 t27 t28 h c df | _=>none):=by
 intro lin b nt hk
 rw [ZeF] at hk
 cases hk
 refine ⟨Zli,fun o rd vs h c df q e=>?_⟩
 dsimp only at e
 split at e
 · exact (Zba o rd _ _ _ _ _ _ h c df).trans e
 · cases e
theorem ck_14:Z05 K ZgT.nt ZgT.code:=(ai tt (ai (ai tt (ai tt (ai (ai tt tt) tt))) (ai tt (ai tt (ai (ai tt (ai rfl ZeF)) (ai tt tt))))))
theorem fe_14:FE (H:=H) P bk K 14 (fun o vs h c=>match vs with | [t0]=>ZnY o t0 h c | _=>none):=by
 refine ⟨ZgT,bk_14,rfl,ck_14,fun o vs h c r e=>?_⟩
 dsimp only at e
 split at e
 · exact ⟨rfl,(ZlS o _ h c).trans e⟩
 · cases e
theorem Zle:Z05 K 80 Z3g:=(ai tt (ai (ai tt tt) (ai (ai tt (ai tt (ai tt tt))) tt)))
theorem Zku:LE (H:=H) P K 15002 (fun o rd vs h c df=>match vs with | [t1,t7,t8,t10,t28,t29,t30,t35,t36,t63]=>Z3j o rd t1 t7 t8 t10 t28 t29 t30 t35 t36 t63 h c df | _=>none):=by
 intro lin b nt hk
 rw [ZeB] at hk
 cases hk
 refine ⟨Zle,fun o rd vs h c df q e=>?_⟩
 dsimp only at e
 split at e
 · exact (Z2s o rd _ _ _ _ _ _ _ _ _ _ h c df).trans e
 · cases e
theorem Zlf:Z05 K 80 Z3h:=(ai tt (ai (ai tt tt) (ai (ai tt (ai (ai tt (ai tt tt)) (ai tt (ai rfl ZeB)))) tt)))
theorem Zkv:LE (H:=H) P K 15001 (fun o rd vs h c df=>match vs with | [t1,t7,t8,t28,t29,t30,t35,t36]=>Z4j o rd t1 t7 t8 t28 t29 t30 t35 t36 h c df | _=>none):=by
 intro lin b nt hk
 rw [ZeC] at hk
 cases hk
 refine ⟨Zlf,fun o rd vs h c df q e=>?_⟩
 dsimp only at e
 split at e
 · exact (Z4R o rd _ _ _ _ _ _ _ _ h c df).trans e
 · cases e
theorem Zlg:Z05 K 80 Z3i:=(ai tt (ai (ai tt tt) (ai (ai tt (ai tt (ai rfl ZeC))) tt)))
theorem Zkw:LE (H:=H) P K 15000 (fun o rd vs h c df=>match vs with | [t1,t7,t28,t29,t30]=>Z4k o rd t1 t7 t28 t29 t30 h c df | _=>none):=by
 intro lin b nt hk
 rw [ZeD] at hk
 cases hk
 refine ⟨Zlg,fun o rd vs h c df q e=>?_⟩
 dsimp only at e
 split at e
 · exact (Z4S o rd _ _ _ _ _ h c df).trans e
 · cases e
theorem ck_15:Z05 K Zde.nt Zde.code:=(ai tt (ai (ai tt (ai tt (ai (ai tt tt) tt))) (ai tt (ai (ai tt (ai rfl ZeD)) (ai tt tt)))))
theorem fe_15:FE (H:=H) P bk K 15 (fun o vs h c=>match vs with | [t0,t1]=>ZiT o t0 t1 h c | _=>none):=by
 refine ⟨Zde,bk_15,rfl,ck_15,fun o vs h c r e=>?_⟩
 dsimp only at e
 split at e
 · exact ⟨rfl,(Zfq o _ _ h c).trans e⟩
 · cases e
theorem ck_16:Z05 K Zdd.nt Zdd.code:=(ai tt (ai (ai tt (ai tt (ai (ai tt tt) tt))) (ai tt tt)))
theorem fe_16:FE (H:=H) P bk K 16 (fun o vs h c=>match vs with | [t0,t1]=>ZiS o t0 t1 h c | _=>none):=by
 refine ⟨Zdd,bk_16,rfl,ck_16,fun o vs h c r e=>?_⟩
 dsimp only at e
 split at e
 · exact ⟨rfl,(Zfp o _ _ h c).trans e⟩
 · cases e
theorem ck_17:Z05 K Zdc.nt Zdc.code:=(ai tt (ai tt tt))
theorem fe_17:FE (H:=H) P bk K 17 (fun o vs h c=>match vs with | [t0,t1]=>ZiR o t0 t1 h c | _=>none):=by
 refine ⟨Zdc,bk_17,rfl,ck_17,fun o vs h c r e=>?_⟩
 dsimp only at e
 split at e
 · exact ⟨rfl,(Zfo o _ _ h c).trans e⟩
 · cases e
theorem Zld:Z05 K 26 Z3f:=(ai (ai tt (ai tt tt)) (ai (ai tt (ai (ai tt tt) tt)) tt))
theorem Zkt:LE (H:=H) P K 21000 (fun o rd vs h c df=>match vs with | [t0,t1,t4,t5]=>Z4i o rd t0 t1 t4 t5 h c df | _=>none):=by
 intro lin b nt hk
 rw [ZeA] at hk
 cases hk
 refine ⟨Zld,fun o rd vs h c df q e=>?_⟩
 dsimp only at e
 split at e
 · exact (Z4Q o rd _ _ _ _ h c df).trans e
 · cases e
theorem ck_21:Z05 K Zda.nt Zda.code:=(ai tt (ai (ai tt (ai (ai tt tt) tt)) (ai (ai tt (ai rfl ZeA)) (ai tt tt))))
theorem fe_21:FE (H:=H) P bk K 21 (fun o vs h c=>match vs with | [t0,t1]=>ZiQ o t0 t1 h c | _=>none):=by
 refine ⟨Zda,bk_21,rfl,ck_21,fun o vs h c r e=>?_⟩
 dsimp only at e
 split at e
 · exact ⟨rfl,(Zfn o _ _ h c).trans e⟩
 · cases e
theorem Zlb:Z05 K 112 Z3d:=(ai tt (ai (ai tt tt) (ai (ai tt (ai tt (ai tt tt))) tt)))
theorem Zkr:LE (H:=H) P K 23001 (fun o rd vs h c df=>match vs with | [t1,t4,t5,t8,t11,t12,t33,t34,t35,t53,t54]=>Z7c o rd t1 t4 t5 t8 t11 t12 t33 t34 t35 t53 t54 h c df | _=>none):=by
 intro lin b nt hk
 rw [Zey] at hk
 cases hk
 refine ⟨Zlb,fun o rd vs h c df q e=>?_⟩
 dsimp only at e
 split at e
 · exact (Zb7 o rd _ _ _ _ _ _ _ _ _ _ _ h c df).trans e
 · cases e
theorem Zla:Z05 K 112 Z3c:=(ai tt (ai (ai tt tt) (ai (ai tt (ai tt (ai tt tt))) tt)))
theorem Zkq:LE (H:=H) P K 23002 (fun o rd vs h c df=>match vs with | [t1,t4,t5,t8,t11,t12,t33,t34,t35,t81,t82]=>Z7b o rd t1 t4 t5 t8 t11 t12 t33 t34 t35 t81 t82 h c df | _=>none):=by
 intro lin b nt hk
 rw [Zex] at hk
 cases hk
 refine ⟨Zla,fun o rd vs h c df q e=>?_⟩
 dsimp only at e
 split at e
 · exact (Zb6 o rd _ _ _ _ _ _ _ _ _ _ _ h c df).trans e
 · cases e
theorem Zlc:Z05 K 112 Z3e:=(ai tt (ai (ai tt tt) (ai (ai tt (ai tt (ai (ai tt (ai rfl Zey)) (ai (ai tt (ai rfl Zex)) tt)))) tt)))
theorem Zks:LE (H:=H) P K 23000 (fun o rd vs h c df=>match vs with | [t1,t4,t5,t8,t33,t34,t35]=>Z7d o rd t1 t4 t5 t8 t33 t34 t35 h c df | _=>none):=by
 intro lin b nt hk
 rw [Zez] at hk
 cases hk
 refine ⟨Zlc,fun o rd vs h c df q e=>?_⟩
 dsimp only at e
 split at e
 · exact (Zb8 o rd _ _ _ _ _ _ _ h c df).trans e
 · cases e
theorem ck_23:Z05 K ZgP.nt ZgP.code:=(ai tt (ai (ai tt (ai tt (ai (ai tt tt) tt))) (ai tt (ai tt (ai tt (ai (ai tt (ai rfl Zez)) (ai tt tt)))))))
theorem fe_23:FE (H:=H) P bk K 23 (fun o vs h c=>match vs with | [t0,t1]=>ZnT o t0 t1 h c | _=>none):=by
 refine ⟨ZgP,bk_23,rfl,ck_23,fun o vs h c r e=>?_⟩
 dsimp only at e
 split at e
 · exact ⟨rfl,(ZlI o _ _ h c).trans e⟩
 · cases e
theorem Zl9:Z05 K 52 Z3b:=(ai tt (ai (ai tt tt) (ai (ai tt (ai tt (ai (ai tt tt) tt))) tt)))
theorem Zkp:LE (H:=H) P K 25000 (fun o rd vs h c df=>match vs with | [t1,t2,t4,t5,t29,t30]=>Z7a o rd t1 t2 t4 t5 t29 t30 h c df | _=>none):=by
 intro lin b nt hk
 rw [Zew] at hk
 cases hk
 refine ⟨Zl9,fun o rd vs h c df q e=>?_⟩
 dsimp only at e
 split at e
 · exact (Zb5 o rd _ _ _ _ _ _ h c df).trans e
 · cases e
theorem ck_25:Z05 K ZgL.nt ZgL.code:=(ai tt (ai (ai tt (ai tt (ai (ai tt tt) tt))) (ai (ai tt (ai (ai tt tt) tt)) (ai (ai tt (ai rfl Zew)) (ai tt (ai (ai tt (ai (ai tt tt) tt)) (ai tt tt)))))))
theorem fe_25:FE (H:=H) P bk K 25 (fun o vs h c=>match vs with | [t0,t1]=>ZnS o t0 t1 h c | _=>none):=by
 refine ⟨ZgL,bk_25,rfl,ck_25,fun o vs h c r e=>?_⟩
 dsimp only at e
 split at e
 · exact ⟨rfl,(ZlH o _ _ h c).trans e⟩
 · cases e
theorem Zl6:Z05 K 135 Z38:=(ai (ai tt (ai tt tt)) (ai (ai tt (ai (ai tt (ai (ai tt tt) tt)) tt)) tt))
theorem Zkm:LE (H:=H) P K 40002 (fun o rd vs h c df=>match vs with | [t2,t3,t4,t5,t7,t8,t9,t10,t11,t14]=>Z77 o rd t2 t3 t4 t5 t7 t8 t9 t10 t11 t14 h c df | _=>none):=by
 intro lin b nt hk
 rw [Zet] at hk
 cases hk
 refine ⟨Zl6,fun o rd vs h c df q e=>?_⟩
 dsimp only at e
 split at e
 · exact (Zb2 o rd _ _ _ _ _ _ _ _ _ _ h c df).trans e
 · cases e
theorem Zl7:Z05 K 135 Z39:=(ai (ai tt (ai tt tt)) (ai (ai (ai tt (ai (ai tt tt) tt)) (ai (ai tt (ai (ai tt (ai tt tt)) tt)) (ai tt (ai (ai tt (ai (ai tt tt) tt)) (ai tt (ai (ai tt (ai rfl Zet)) tt)))))) tt))
theorem Zkn:LE (H:=H) P K 40001 (fun o rd vs h c df=>match vs with | [t2,t3,t4,t5,t7,t8,t9,t10,t11]=>Z78 o rd t2 t3 t4 t5 t7 t8 t9 t10 t11 h c df | _=>none):=by
 intro lin b nt hk
 rw [Zeu] at hk
 cases hk
 refine ⟨Zl7,fun o rd vs h c df q e=>?_⟩
 dsimp only at e
 split at e
 · exact (Zb3 o rd _ _ _ _ _ _ _ _ _ h c df).trans e
 · cases e
theorem Zl8:Z05 K 135 Z3a:=(ai (ai tt (ai tt tt)) (ai (ai tt (ai (ai tt (ai rfl Zeu)) tt)) tt))
theorem Zko:LE (H:=H) P K 40000 (fun o rd vs h c df=>match vs with | [t2,t3,t4,t5,t7,t8,t9]=>Z79 o rd t2 t3 t4 t5 t7 t8 t9 h c df | _=>none):=by
 intro lin b nt hk
 rw [Zev] at hk
 cases hk
 refine ⟨Zl8,fun o rd vs h c df q e=>?_⟩
 dsimp only at e
 split at e
 · exact (Zb4 o rd _ _ _ _ _ _ _ h c df).trans e
 · cases e
theorem ck_40:Z05 K ZgJ.nt ZgJ.code:=(ai tt (ai (ai tt (ai (ai tt tt) tt)) (ai tt (ai (ai tt (ai (ai tt tt) tt)) (ai tt (ai (ai tt (ai (ai tt tt) tt)) (ai tt (ai tt (ai (ai tt (ai rfl Zev)) (ai (ai tt (ai (ai tt tt) tt)) (ai (ai tt (ai (ai tt tt) tt)) (ai tt tt))))))))))))
theorem fe_40:FE (H:=H) P bk K 40 (fun o vs h c=>match vs with | [t0]=>ZnR o t0 h c | _=>none):=by
 refine ⟨ZgJ,bk_40,rfl,ck_40,fun o vs h c r e=>?_⟩
 dsimp only at e
 split at e
 · exact ⟨rfl,(ZlG o _ h c).trans e⟩
 · cases e
theorem Zl5:Z05 K 30 Z37:=(ai (ai tt (ai tt tt)) (ai (ai (ai tt (ai (ai tt tt) tt)) tt) tt))
theorem Zkl:LE (H:=H) P K 41000 (fun o rd vs h c df=>match vs with | [t1,t2,t3,t4]=>Z1d o rd t1 t2 t3 t4 h c df | _=>none):=by
 intro lin b nt hk
 rw [Zes] at hk
 cases hk
 refine ⟨Zl5,fun o rd vs h c df q e=>?_⟩
 dsimp only at e
 split at e
 · exact (Z4O o rd _ _ _ _ h c df).trans e
 · cases e
theorem ck_41:Z05 K Zd9.nt Zd9.code:=(ai tt (ai tt (ai (ai tt (ai rfl Zes)) (ai tt tt))))
theorem fe_41:FE (H:=H) P bk K 41 (fun o vs h c=>match vs with | [t0]=>ZiP o t0 h c | _=>none):=by
 refine ⟨Zd9,bk_41,rfl,ck_41,fun o vs h c r e=>?_⟩
 dsimp only at e
 split at e
 · exact ⟨rfl,(Zfm o _ h c).trans e⟩
 · cases e
theorem Zl4:Z05 K 19 Z36:=(ai (ai tt (ai tt tt)) (ai tt tt))
theorem Zkk:LE (H:=H) P K 42000 (fun o rd vs h c df=>match vs with | [t1,t2,t3,t4]=>Z24 o rd t1 t2 t3 t4 h c df | _=>none):=by
 intro lin b nt hk
 rw [Zer] at hk
 cases hk
 refine ⟨Zl4,fun o rd vs h c df q e=>?_⟩
 dsimp only at e
 split at e
 · exact (Z4N o rd _ _ _ _ h c df).trans e
 · cases e
theorem ck_42:Z05 K Zd8.nt Zd8.code:=(ai tt (ai tt (ai (ai tt (ai (ai tt tt) tt)) (ai (ai tt (ai rfl Zer)) (ai tt tt)))))
theorem fe_42:FE (H:=H) P bk K 42 (fun o vs h c=>match vs with | [t0]=>ZiO o t0 h c | _=>none):=by
 refine ⟨Zd8,bk_42,rfl,ck_42,fun o vs h c r e=>?_⟩
 dsimp only at e
 split at e
 · exact ⟨rfl,(Zfl o _ h c).trans e⟩
 · cases e
theorem ck_43:Z05 K Zd6.nt Zd6.code:=(ai tt (ai (ai tt (ai (ai tt tt) (ai tt (ai (ai tt tt) tt)))) (ai tt tt)))
theorem fe_43:FE (H:=H) P bk K 43 (fun o vs h c=>match vs with | [t0]=>ZiN o t0 h c | _=>none):=by
 refine ⟨Zd6,bk_43,rfl,ck_43,fun o vs h c r e=>?_⟩
 dsimp only at e
 split at e
 · exact ⟨rfl,(Zfk o _ h c).trans e⟩
 · cases e
theorem Zl2:Z05 K 92 Z34:=(ai tt (ai (ai tt tt) (ai (ai tt (ai tt (ai tt tt))) tt)))
theorem Zkj:LE (H:=H) P K 44001 (fun o rd vs h c df=>match vs with | [t6,t7,t8,t52]=>Z23 o rd t6 t7 t8 t52 h c df | _=>none):=by
 intro lin b nt hk
 rw [Zeq] at hk
 cases hk
 refine ⟨Zl2,fun o rd vs h c df q e=>?_⟩
 dsimp only at e
 split at e
 · exact (Z1Q o rd _ _ _ _ h c df).trans e
 · cases e
theorem Zln:Z05 K 92 Z1c:=tt
theorem Zl3:Z05 K 92 Z1b:=(ai tt (ai tt (ai tt (ai rfl Zeq))))
theorem ZjM:RE (H:=H) P K 92 [25] (fun o l vs h c=>match vs with | [t25,t1,t5,t6]=>Z35 o l t25 t1 t5 t6 h c | _=>none):=by
 intro lin a b hk
 rw [Ze0] at hk
 cases hk
 refine ⟨Zln,Zl3,fun o l vs h c r e=>?_⟩
 dsimp only at e
 split at e
 · exact (Z6t o l _ _ _ _ h c).trans e
 · cases e
theorem ck_44:Z05 K Zd5.nt Zd5.code:=(ai tt (ai tt (ai tt (ai (ai tt (ai rfl Ze0)) (ai tt tt)))))
theorem fe_44:FE (H:=H) P bk K 44 (fun o vs h c=>match vs with | [t0]=>ZiM o t0 h c | _=>none):=by
 refine ⟨Zd5,bk_44,rfl,ck_44,fun o vs h c r e=>?_⟩
 dsimp only at e
 split at e
 · exact ⟨rfl,(Zfj o _ h c).trans e⟩
 · cases e
theorem Zl1:Z05 K 24 Z33:=(ai tt (ai (ai tt tt) (ai (ai tt (ai tt (ai tt tt))) tt)))
theorem Zki:LE (H:=H) P K 45000 (fun o rd vs h c df=>match vs with | [t0,t3,t9,t10]=>Z4f o rd t0 t3 t9 t10 h c df | _=>none):=by
 intro lin b nt hk
 rw [Zep] at hk
 cases hk
 refine ⟨Zl1,fun o rd vs h c df q e=>?_⟩
 dsimp only at e
 split at e
 · exact (Z4M o rd _ _ _ _ h c df).trans e
 · cases e
theorem ck_45:Z05 K Zd4.nt Zd4.code:=(ai tt (ai tt (ai (ai tt (ai rfl Zep)) (ai tt tt))))
theorem fe_45:FE (H:=H) P bk K 45 (fun o vs h c=>match vs with | [t0]=>ZiL o t0 h c | _=>none):=by
 refine ⟨Zd4,bk_45,rfl,ck_45,fun o vs h c r e=>?_⟩
 dsimp only at e
 split at e
 · exact ⟨rfl,(Zfi o _ h c).trans e⟩
 · cases e
theorem Zl0:Z05 K 22 Z32:=(ai (ai tt (ai tt tt)) tt)
theorem Zkh:LE (H:=H) P K 46000 (fun o rd vs h c df=>match vs with | [t0,t1]=>Z5t o rd t0 t1 h c df | _=>none):=by
 intro lin b nt hk
 rw [Zeo] at hk
 cases hk
 refine ⟨Zl0,fun o rd vs h c df q e=>?_⟩
 dsimp only at e
 split at e
 · exact (Z6s o rd _ _ h c df).trans e
 · cases e
theorem ck_46:Z05 K Zd3.nt Zd3.code:=(ai tt (ai (ai rfl Zeo) (ai tt tt)))
theorem fe_46:FE (H:=H) P bk K 46 (fun o vs h c=>match vs with | [t0,t1]=>ZiK o t0 t1 h c | _=>none):=by
 refine ⟨Zd3,bk_46,rfl,ck_46,fun o vs h c r e=>?_⟩
 dsimp only at e
 split at e
 · exact ⟨rfl,(Zfh o _ _ h c).trans e⟩
 · cases e
theorem ZkY:Z05 K 71 Z2Z:=(ai tt (ai (ai tt tt) (ai (ai tt (ai tt (ai (ai tt tt) tt))) tt)))
theorem Zkf:LE (H:=H) P K 47001 (fun o rd vs h c df=>match vs with | [t2,t4,t7,t15,t16,t17,t35,t36]=>Z4d o rd t2 t4 t7 t15 t16 t17 t35 t36 h c df | _=>none):=by
 intro lin b nt hk
 rw [Zem] at hk
 cases hk
 refine ⟨ZkY,fun o rd vs h c df q e=>?_⟩
 dsimp only at e
 split at e
 · exact (Z4K o rd _ _ _ _ _ _ _ _ h c df).trans e
 · cases e
theorem ZkZ:Z05 K 71 Z30:=(ai tt (ai (ai tt tt) (ai (ai tt (ai (ai tt (ai (ai tt tt) tt)) (ai (ai tt (ai rfl Zem)) (ai tt (ai rfl ZdZ))))) tt)))
theorem Zkg:LE (H:=H) P K 47000 (fun o rd vs h c df=>match vs with | [t2,t4,t15,t16,t17]=>Z4e o rd t2 t4 t15 t16 t17 h c df | _=>none):=by
 intro lin b nt hk
 rw [Zen] at hk
 cases hk
 refine ⟨ZkZ,fun o rd vs h c df q e=>?_⟩
 dsimp only at e
 split at e
 · exact (Z4L o rd _ _ _ _ _ h c df).trans e
 · cases e
theorem Zlm:Z05 K 71 Z1a:=tt
theorem ZkX:Z05 K 71 Z19:=(ai tt (ai (ai tt tt) tt))
theorem ZjL:RE (H:=H) P K 71 [52] (fun o l vs h c=>match vs with | [t52,t4,t7]=>Z31 o l t52 t4 t7 h c | _=>none):=by
 intro lin a b hk
 rw [ZdZ] at hk
 cases hk
 refine ⟨Zlm,ZkX,fun o l vs h c r e=>?_⟩
 dsimp only at e
 split at e
 · exact (Z6r o l _ _ _ h c).trans e
 · cases e
theorem ck_47:Z05 K Zd2.nt Zd2.code:=(ai tt (ai (ai tt (ai tt (ai (ai tt tt) tt))) (ai (ai tt (ai rfl Zen)) (ai tt tt))))
theorem fe_47:FE (H:=H) P bk K 47 (fun o vs h c=>match vs with | [t0,t1]=>ZiI o t0 t1 h c | _=>none):=by
 refine ⟨Zd2,bk_47,rfl,ck_47,fun o vs h c r e=>?_⟩
 dsimp only at e
 split at e
 · exact ⟨rfl,(Zfg o _ _ h c).trans e⟩
 · cases e
theorem ZkW:Z05 K 17 Z2Y:=(ai tt (ai (ai tt tt) (ai (ai tt tt) tt)))
theorem Zke:LE (H:=H) P K 48000 (fun o rd vs h c df=>match vs with | [t3,t6,t7,t8]=>Z4c o rd t3 t6 t7 t8 h c df | _=>none):=by
 intro lin b nt hk
 rw [Zel] at hk
 cases hk
 refine ⟨ZkW,fun o rd vs h c df q e=>?_⟩
 dsimp only at e
 split at e
 · exact (Z4J o rd _ _ _ _ h c df).trans e
 · cases e
theorem ck_48:Z05 K Zd1.nt Zd1.code:=(ai tt (ai tt (ai (ai tt (ai rfl Zel)) (ai tt tt))))
theorem fe_48:FE (H:=H) P bk K 48 (fun o vs h c=>match vs with | [t0]=>ZiH o t0 h c | _=>none):=by
 refine ⟨Zd1,bk_48,rfl,ck_48,fun o vs h c r e=>?_⟩
 dsimp only at e
 split at e
 · exact ⟨rfl,(Zff o _ h c).trans e⟩
 · cases e
theorem ZkV:Z05 K 36 Z2X:=(ai tt (ai (ai tt tt) (ai (ai tt tt) tt)))
theorem Zkd:LE (H:=H) P K 49000 (fun o rd vs h c df=>match vs with | [t1,t7,t19,t20,t21]=>Z4b o rd t1 t7 t19 t20 t21 h c df | _=>none):=by
 intro lin b nt hk
 rw [Zek] at hk
 cases hk
 refine ⟨ZkV,fun o rd vs h c df q e=>?_⟩
 dsimp only at e
 split at e
 · exact (Z4I o rd _ _ _ _ _ h c df).trans e
 · cases e
theorem ck_49:Z05 K Zd0.nt Zd0.code:=(ai tt (ai tt (ai tt (ai (ai tt (ai rfl Zek)) (ai tt tt)))))
theorem fe_49:FE (H:=H) P bk K 49 (fun o vs h c=>match vs with | [t0,t1]=>ZiG o t0 t1 h c | _=>none):=by
 refine ⟨Zd0,bk_49,rfl,ck_49,fun o vs h c r e=>?_⟩
 dsimp only at e
 split at e
 · exact ⟨rfl,(Zfe o _ _ h c).trans e⟩
 · cases e
theorem ck_50:Z05 K ZcZ.nt ZcZ.code:=(ai tt (ai tt tt))
theorem fe_50:FE (H:=H) P bk K 50 (fun o vs h c=>match vs with | [t0,t1,t2,t3]=>ZiF o t0 t1 t2 t3 h c | _=>none):=by
 refine ⟨ZcZ,bk_50,rfl,ck_50,fun o vs h c r e=>?_⟩
 dsimp only at e
 split at e
 · exact ⟨rfl,(Zfa o _ _ _ _ h c).trans e⟩
 · cases e
theorem ck_53:Z05 K Zgy.nt Zgy.code:=(ai tt (ai (ai tt (ai (ai tt tt) tt)) (ai tt tt)))
theorem fe_53:FE (H:=H) P bk K 53 (fun o vs h c=>match vs with | [t0]=>ZnM o t0 h c | _=>none):=by
 refine ⟨Zgy,bk_53,rfl,ck_53,fun o vs h c r e=>?_⟩
 dsimp only at e
 split at e
 · exact ⟨rfl,(ZlB o _ h c).trans e⟩
 · cases e
theorem ck_55:Z05 K ZcY.nt ZcY.code:=(ai tt (ai tt tt))
theorem fe_55:FE (H:=H) P bk K 55 (fun o vs h c=>match vs with | [t0]=>ZiD o t0 h c | _=>none):=by
 refine ⟨ZcY,bk_55,rfl,ck_55,fun o vs h c r e=>?_⟩
 dsimp only at e
 split at e
 · exact ⟨rfl,(Zf9 o _ h c).trans e⟩
 · cases e
theorem ZkU:Z05 K 19 Z2W:=(ai tt (ai (ai tt tt) (ai (ai tt (ai tt (ai tt tt))) tt)))
theorem Zkc:LE (H:=H) P K 56000 (fun o rd vs h c df=>match vs with | [t3,t6,t7,t8]=>Z48 o rd t3 t6 t7 t8 h c df | _=>none):=by
 intro lin b nt hk
 rw [Zej] at hk
 cases hk
 refine ⟨ZkU,fun o rd vs h c df q e=>?_⟩
 dsimp only at e
 split at e
 · exact (Z4H o rd _ _ _ _ h c df).trans e
 · cases e
theorem ck_56:Z05 K ZcX.nt ZcX.code:=(ai tt (ai tt (ai (ai tt (ai rfl Zej)) (ai tt tt))))
theorem fe_56:FE (H:=H) P bk K 56 (fun o vs h c=>match vs with | [t0]=>ZiC o t0 h c | _=>none):=by
 refine ⟨ZcX,bk_56,rfl,ck_56,fun o vs h c r e=>?_⟩
 dsimp only at e
 split at e
 · exact ⟨rfl,(Zf8 o _ h c).trans e⟩
 · cases e
theorem ZkT:Z05 K 200 Z2V:=(ai tt (ai (ai tt tt) (ai (ai tt tt) tt)))
theorem Zkb:LE (H:=H) P K 57000 (fun o rd vs h c df=>match vs with | [t1,t2,t4,t5,t6,t7,t33,t34]=>Z71 o rd t1 t2 t4 t5 t6 t7 t33 t34 h c df | _=>none):=by
 intro lin b nt hk
 rw [Zei] at hk
 cases hk
 refine ⟨ZkT,fun o rd vs h c df q e=>?_⟩
 dsimp only at e
 split at e
 · exact (ZaU o rd _ _ _ _ _ _ _ _ h c df).trans e
 · cases e
theorem ZkQ:Z05 K 200 Z2S:=(ai tt (ai (ai tt tt) (ai (ai tt (ai (ai tt (ai tt tt)) (ai tt (ai tt (ai tt (ai (ai tt (ai tt (ai tt tt))) (ai tt (ai (ai tt tt) tt)))))))) tt)))
theorem Zk8:LE (H:=H) P K 57003 (fun o rd vs h c df=>match vs with | [t2,t4,t5,t7,t11,t14,t15,t16,t17,t18,t62,t63,t64,t93,t94]=>Z6Y o rd t2 t4 t5 t7 t11 t14 t15 t16 t17 t18 t62 t63 t64 t93 t94 h c df | _=>none):=by
 intro lin b nt hk
 rw [Zef] at hk
 cases hk
 refine ⟨ZkQ,fun o rd vs h c df q e=>?_⟩
 dsimp only at e
 split at e
 · exact (ZaR o rd _ _ _ _ _ _ _ _ _ _ _ _ _ _ _ h c df).trans e
 · cases e
theorem ZkR:Z05 K 200 Z2T:=(ai (ai tt (ai tt tt)) (ai (ai tt (ai tt (ai rfl Zef))) tt))
theorem Zk9:LE (H:=H) P K 57002 (fun o rd vs h c df=>match vs with | [t2,t4,t5,t7,t11,t14,t15,t16,t62,t63,t64]=>Z6Z o rd t2 t4 t5 t7 t11 t14 t15 t16 t62 t63 t64 h c df | _=>none):=by
 intro lin b nt hk
 rw [Zeg] at hk
 cases hk
 refine ⟨ZkR,fun o rd vs h c df q e=>?_⟩
 dsimp only at e
 split at e
 · exact (ZaS o rd _ _ _ _ _ _ _ _ _ _ _ h c df).trans e
 · cases e
theorem ZkP:Z05 K 200 Z2R:=(ai tt (ai (ai tt tt) (ai (ai tt tt) tt)))
theorem Zk7:LE (H:=H) P K 57004 (fun o rd vs h c df=>match vs with | [t2,t4,t5,t7,t11,t15,t62,t63,t64,t177,t178,t179]=>Z6X o rd t2 t4 t5 t7 t11 t15 t62 t63 t64 t177 t178 t179 h c df | _=>none):=by
 intro lin b nt hk
 rw [Zee] at hk
 cases hk
 refine ⟨ZkP,fun o rd vs h c df q e=>?_⟩
 dsimp only at e
 split at e
 · exact (ZaQ o rd _ _ _ _ _ _ _ _ _ _ _ _ h c df).trans e
 · cases e
theorem ZkS:Z05 K 200 Z2U:=(ai tt (ai (ai tt tt) (ai (ai tt (ai tt (ai tt (ai tt (ai (ai tt (ai rfl Zeg)) (ai tt (ai rfl Zee))))))) tt)))
theorem Zka:LE (H:=H) P K 57001 (fun o rd vs h c df=>match vs with | [t2,t4,t5,t7,t11,t62,t63,t64]=>Z70 o rd t2 t4 t5 t7 t11 t62 t63 t64 h c df | _=>none):=by
 intro lin b nt hk
 rw [Zeh] at hk
 cases hk
 refine ⟨ZkS,fun o rd vs h c df q e=>?_⟩
 dsimp only at e
 split at e
 · exact (ZaT o rd _ _ _ _ _ _ _ _ h c df).trans e
 · cases e
theorem ck_57:Z05 K Zgx.nt Zgx.code:=(ai tt (ai tt (ai tt (ai (ai tt (ai rfl Zei)) (ai tt (ai tt (ai (ai tt (ai rfl Zeh)) (ai tt tt))))))))
theorem fe_57:FE (H:=H) P bk K 57 (fun o vs h c=>match vs with | [t0,t1]=>ZnK o t0 t1 h c | _=>none):=by
 refine ⟨Zgx,bk_57,rfl,ck_57,fun o vs h c r e=>?_⟩
 dsimp only at e
 split at e
 · exact ⟨rfl,(ZlA o _ _ h c).trans e⟩
 · cases e
theorem ck_59:Z05 K ZcW.nt ZcW.code:=(ai tt (ai tt tt))
theorem fe_59:FE (H:=H) P bk K 59 (fun o vs h c=>match vs with | [t0]=>ZiB o t0 h c | _=>none):=by
 refine ⟨ZcW,bk_59,rfl,ck_59,fun o vs h c r e=>?_⟩
 dsimp only at e
 split at e
 · exact ⟨rfl,(Zf7 o _ h c).trans e⟩
 · cases e
theorem ck_60:Z05 K ZcV.nt ZcV.code:=(ai tt (ai tt tt))
theorem fe_60:FE (H:=H) P bk K 60 (fun o vs h c=>match vs with | []=>ZiA o h c | _=>none):=by
 refine ⟨ZcV,bk_60,rfl,ck_60,fun o vs h c r e=>?_⟩
 dsimp only at e
 split at e
 · exact ⟨rfl,(Zf6 o h c).trans e⟩
 · cases e
theorem ZkO:Z05 K 43 Z2Q:=(ai (ai tt (ai tt tt)) (ai (ai tt (ai (ai tt (ai tt tt)) (ai tt (ai (ai tt tt) tt)))) tt))
theorem Zk6:LE (H:=H) P K 68000 (fun o rd vs h c df=>match vs with | [t0,t3,t4,t5]=>Z6W o rd t0 t3 t4 t5 h c df | _=>none):=by
 intro lin b nt hk
 rw [Zed] at hk
 cases hk
 refine ⟨ZkO,fun o rd vs h c df q e=>?_⟩
 dsimp only at e
 split at e
 · exact (ZaP o rd _ _ _ _ h c df).trans e
 · cases e
theorem ck_68:Z05 K Zgr.nt Zgr.code:=(ai tt (ai tt (ai tt (ai (ai tt (ai rfl Zed)) (ai tt tt)))))
theorem fe_68:FE (H:=H) P bk K 68 (fun o vs h c=>match vs with | [t0]=>ZnH o t0 h c | _=>none):=by
 refine ⟨Zgr,bk_68,rfl,ck_68,fun o vs h c r e=>?_⟩
 dsimp only at e
 split at e
 · exact ⟨rfl,(Zlz o _ h c).trans e⟩
 · cases e
theorem ZkN:Z05 K 51 Z2P:=(ai (ai tt (ai tt tt)) (ai (ai (ai tt (ai (ai tt tt) tt)) tt) tt))
theorem Zk5:LE (H:=H) P K 69000 (fun o rd vs h c df=>match vs with | [t0,t2,t3,t4,t5]=>Z6V o rd t0 t2 t3 t4 t5 h c df | _=>none):=by
 intro lin b nt hk
 rw [Zec] at hk
 cases hk
 refine ⟨ZkN,fun o rd vs h c df q e=>?_⟩
 dsimp only at e
 split at e
 · exact (ZaO o rd _ _ _ _ _ h c df).trans e
 · cases e
theorem ck_69:Z05 K Zgp.nt Zgp.code:=(ai tt (ai (ai tt (ai (ai tt tt) tt)) (ai tt (ai (ai tt (ai rfl Zec)) (ai tt tt)))))
theorem fe_69:FE (H:=H) P bk K 69 (fun o vs h c=>match vs with | [t0]=>ZnG o t0 h c | _=>none):=by
 refine ⟨Zgp,bk_69,rfl,ck_69,fun o vs h c r e=>?_⟩
 dsimp only at e
 split at e
 · exact ⟨rfl,(Zly o _ h c).trans e⟩
 · cases e
theorem Zll:Z05 K 71 Z1r:=(ai tt tt)
theorem ZkM:Z05 K 71 Z1q:=(ai (ai tt (ai tt tt)) (ai (ai tt (ai (ai tt tt) tt)) (ai tt (ai (ai tt tt) tt))))
theorem ZjK:RE (H:=H) P K 71 [13,14] (fun o l vs h c=>match vs with | [t13,t14,t1,t2,t3]=>Z2O o l t13 t14 t1 t2 t3 h c | _=>none):=by
 intro lin a b hk
 rw [ZdY] at hk
 cases hk
 refine ⟨Zll,ZkM,fun o l vs h c r e=>?_⟩
 dsimp only at e
 split at e
 · exact (Z6n o l _ _ _ _ _ h c).trans e
 · cases e
theorem ck_70:Z05 K ZcU.nt ZcU.code:=(ai tt (ai (ai tt (ai (ai tt tt) tt)) (ai tt (ai (ai tt (ai rfl ZdY)) (ai tt tt)))))
theorem fe_70:FE (H:=H) P bk K 70 (fun o vs h c=>match vs with | [t0]=>Ziz o t0 h c | _=>none):=by
 refine ⟨ZcU,bk_70,rfl,ck_70,fun o vs h c r e=>?_⟩
 dsimp only at e
 split at e
 · exact ⟨rfl,(Zf5 o _ h c).trans e⟩
 · cases e
theorem ZkL:Z05 K 21 Z2N:=(ai tt (ai (ai tt tt) (ai (ai tt tt) tt)))
theorem Zk4:LE (H:=H) P K 71000 (fun o rd vs h c df=>match vs with | [t2,t3,t10,t11]=>Z47 o rd t2 t3 t10 t11 h c df | _=>none):=by
 intro lin b nt hk
 rw [Zeb] at hk
 cases hk
 refine ⟨ZkL,fun o rd vs h c df q e=>?_⟩
 dsimp only at e
 split at e
 · exact (Z4G o rd _ _ _ _ h c df).trans e
 · cases e
theorem ck_71:Z05 K ZcT.nt ZcT.code:=(ai tt (ai tt (ai (ai tt (ai rfl Zeb)) (ai tt tt))))
theorem fe_71:FE (H:=H) P bk K 71 (fun o vs h c=>match vs with | [t0]=>Ziy o t0 h c | _=>none):=by
 refine ⟨ZcT,bk_71,rfl,ck_71,fun o vs h c r e=>?_⟩
 dsimp only at e
 split at e
 · exact ⟨rfl,(Zf4 o _ h c).trans e⟩
 · cases e
theorem ck_72:Z05 K ZcS.nt ZcS.code:=(ai tt tt)
theorem fe_72:FE (H:=H) P bk K 72 (fun o vs h c=>match vs with | [t0,t1,t2]=>Zgm o t0 t1 t2 h c | _=>none):=by
 refine ⟨ZcS,bk_72,rfl,ck_72,fun o vs h c r e=>?_⟩
 dsimp only at e
 split at e
 · exact ⟨rfl,(Zf3 o _ _ _ h c).trans e⟩
 · cases e
theorem ck_73:Z05 K ZcR.nt ZcR.code:=(ai tt (ai tt tt))
theorem fe_73:FE (H:=H) P bk K 73 (fun o vs h c=>match vs with | [t0,t1]=>Zix o t0 t1 h c | _=>none):=by
 refine ⟨ZcR,bk_73,rfl,ck_73,fun o vs h c r e=>?_⟩
 dsimp only at e
 split at e
 · exact ⟨rfl,(Zf2 o _ _ h c).trans e⟩
 · cases e
theorem ZkK:Z05 K 56 Z2M:=(ai tt (ai (ai tt tt) (ai (ai tt (ai tt (ai tt tt))) tt)))
theorem Zk3:LE (H:=H) P K 74000 (fun o rd vs h c df=>match vs with | [t0,t1,t7,t8,t9,t34]=>Z46 o rd t0 t1 t7 t8 t9 t34 h c df | _=>none):=by
 intro lin b nt hk
 rw [Zea] at hk
 cases hk
 refine ⟨ZkK,fun o rd vs h c df q e=>?_⟩
 dsimp only at e
 split at e
 · exact (Z4F o rd _ _ _ _ _ _ h c df).trans e
 · cases e
theorem ck_74:Z05 K ZcQ.nt ZcQ.code:=(ai tt (ai tt (ai tt (ai (ai tt (ai rfl Zea)) (ai tt tt)))))
theorem fe_74:FE (H:=H) P bk K 74 (fun o vs h c=>match vs with | [t0,t1,t2]=>Ziw o t0 t1 t2 h c | _=>none):=by
 refine ⟨ZcQ,bk_74,rfl,ck_74,fun o vs h c r e=>?_⟩
 dsimp only at e
 split at e
 · exact ⟨rfl,(Zf1 o _ _ _ h c).trans e⟩
 · cases e
theorem ck_75:Z05 K ZcP.nt ZcP.code:=(ai tt (ai tt tt))
theorem fe_75:FE (H:=H) P bk K 75 (fun o vs h c=>match vs with | [t0,t1]=>Ziv o t0 t1 h c | _=>none):=by
 refine ⟨ZcP,bk_75,rfl,ck_75,fun o vs h c r e=>?_⟩
 dsimp only at e
 split at e
 · exact ⟨rfl,(Zf0 o _ _ h c).trans e⟩
 · cases e
theorem ck_76:Z05 K ZcO.nt ZcO.code:=(ai tt (ai tt tt))
theorem fe_76:FE (H:=H) P bk K 76 (fun o vs h c=>match vs with | [t0]=>Ziu o t0 h c | _=>none):=by
 refine ⟨ZcO,bk_76,rfl,ck_76,fun o vs h c r e=>?_⟩
 dsimp only at e
 split at e
 · exact ⟨rfl,(ZeZ o _ h c).trans e⟩
 · cases e
theorem ZkH:Z05 K 72 Z2J:=(ai tt (ai (ai tt tt) (ai (ai tt (ai tt (ai tt tt))) tt)))
theorem Zk0:LE (H:=H) P K 77002 (fun o rd vs h c df=>match vs with | [t0,t3,t5,t6,t9,t10,t11,t16,t17,t44]=>Z22 o rd t0 t3 t5 t6 t9 t10 t11 t16 t17 t44 h c df | _=>none):=by
 intro lin b nt hk
 rw [Ze7] at hk
 cases hk
 refine ⟨ZkH,fun o rd vs h c df q e=>?_⟩
 dsimp only at e
 split at e
 · exact (Z1P o rd _ _ _ _ _ _ _ _ _ _ h c df).trans e
 · cases e
theorem ZkI:Z05 K 72 Z2K:=(ai tt (ai (ai tt tt) (ai (ai tt (ai (ai tt (ai tt tt)) (ai tt (ai rfl Ze7)))) tt)))
theorem Zk1:LE (H:=H) P K 77001 (fun o rd vs h c df=>match vs with | [t0,t3,t9,t10,t11,t16,t17]=>Z44 o rd t0 t3 t9 t10 t11 t16 t17 h c df | _=>none):=by
 intro lin b nt hk
 rw [Ze8] at hk
 cases hk
 refine ⟨ZkI,fun o rd vs h c df q e=>?_⟩
 dsimp only at e
 split at e
 · exact (Z4D o rd _ _ _ _ _ _ _ h c df).trans e
 · cases e
theorem ZkJ:Z05 K 72 Z2L:=(ai tt (ai (ai tt tt) (ai (ai tt (ai tt (ai rfl Ze8))) tt)))
theorem Zk2:LE (H:=H) P K 77000 (fun o rd vs h c df=>match vs with | [t0,t9,t10,t11]=>Z45 o rd t0 t9 t10 t11 h c df | _=>none):=by
 intro lin b nt hk
 rw [Ze9] at hk
 cases hk
 refine ⟨ZkJ,fun o rd vs h c df q e=>?_⟩
 dsimp only at e
 split at e
 · exact (Z4E o rd _ _ _ _ h c df).trans e
 · cases e
theorem ck_77:Z05 K ZcN.nt ZcN.code:=(ai tt (ai rfl Ze9))
theorem fe_77:FE (H:=H) P bk K 77 (fun o vs h c=>match vs with | [t0,t1]=>Zit o t0 t1 h c | _=>none):=by
 refine ⟨ZcN,bk_77,rfl,ck_77,fun o vs h c r e=>?_⟩
 dsimp only at e
 split at e
 · exact ⟨rfl,(ZeY o _ _ h c).trans e⟩
 · cases e
theorem ck_83:Z05 K ZcM.nt ZcM.code:=(ai tt (ai tt tt))
theorem fe_83:FE (H:=H) P bk K 83 (fun o vs h c=>match vs with | [t0]=>Zis o t0 h c | _=>none):=by
 refine ⟨ZcM,bk_83,rfl,ck_83,fun o vs h c r e=>?_⟩
 dsimp only at e
 split at e
 · exact ⟨rfl,(ZeX o _ h c).trans e⟩
 · cases e
theorem ZkG:Z05 K 23 Z2I:=(ai tt (ai (ai tt tt) (ai (ai tt (ai (ai tt (ai (ai tt tt) tt)) tt)) tt)))
theorem ZjZ:LE (H:=H) P K 84000 (fun o rd vs h c df=>match vs with | [t2,t3,t6,t7]=>Z1K o rd t2 t3 t6 t7 h c df | _=>none):=by
 intro lin b nt hk
 rw [Ze6] at hk
 cases hk
 refine ⟨ZkG,fun o rd vs h c df q e=>?_⟩
 dsimp only at e
 split at e
 · exact (Z4C o rd _ _ _ _ h c df).trans e
 · cases e
theorem ck_84:Z05 K ZcL.nt ZcL.code:=(ai tt (ai tt (ai (ai tt (ai rfl Ze6)) (ai tt tt))))
theorem fe_84:FE (H:=H) P bk K 84 (fun o vs h c=>match vs with | [t0]=>Zir o t0 h c | _=>none):=by
 refine ⟨ZcL,bk_84,rfl,ck_84,fun o vs h c r e=>?_⟩
 dsimp only at e
 split at e
 · exact ⟨rfl,(ZeW o _ h c).trans e⟩
 · cases e
theorem ZkF:Z05 K 16 Z2H:=(ai tt (ai (ai tt tt) (ai (ai tt tt) tt)))
theorem ZjY:LE (H:=H) P K 85000 (fun o rd vs h c df=>match vs with | [t2,t3,t6,t7]=>Z21 o rd t2 t3 t6 t7 h c df | _=>none):=by
 intro lin b nt hk
 rw [Ze5] at hk
 cases hk
 refine ⟨ZkF,fun o rd vs h c df q e=>?_⟩
 dsimp only at e
 split at e
 · exact (Z4B o rd _ _ _ _ h c df).trans e
 · cases e
theorem ck_85:Z05 K ZcK.nt ZcK.code:=(ai tt (ai tt (ai (ai tt (ai rfl Ze5)) (ai tt tt))))
theorem fe_85:FE (H:=H) P bk K 85 (fun o vs h c=>match vs with | [t0]=>Ziq o t0 h c | _=>none):=by
 refine ⟨ZcK,bk_85,rfl,ck_85,fun o vs h c r e=>?_⟩
 dsimp only at e
 split at e
 · exact ⟨rfl,(ZeV o _ h c).trans e⟩
 · cases e
theorem ZkE:Z05 K 19 Z2G:=(ai tt (ai (ai tt tt) (ai (ai tt (ai tt (ai (ai tt tt) tt))) tt)))
theorem ZjX:LE (H:=H) P K 86000 (fun o rd vs h c df=>match vs with | [t0,t1,t4,t7,t8]=>Z41 o rd t0 t1 t4 t7 t8 h c df | _=>none):=by
 intro lin b nt hk
 rw [Ze4] at hk
 cases hk
 refine ⟨ZkE,fun o rd vs h c df q e=>?_⟩
 dsimp only at e
 split at e
 · exact (Z4A o rd _ _ _ _ _ h c df).trans e
 · cases e
theorem ck_86:Z05 K ZcJ.nt ZcJ.code:=(ai tt (ai (ai tt (ai rfl Ze4)) (ai tt tt)))
theorem fe_86:FE (H:=H) P bk K 86 (fun o vs h c=>match vs with | [t0,t1]=>Zip o t0 t1 h c | _=>none):=by
 refine ⟨ZcJ,bk_86,rfl,ck_86,fun o vs h c r e=>?_⟩
 dsimp only at e
 split at e
 · exact ⟨rfl,(ZeU o _ _ h c).trans e⟩
 · cases e
theorem ck_87:Z05 K ZcI.nt ZcI.code:=(ai tt (ai tt (ai tt tt)))
theorem fe_87:FE (H:=H) P bk K 87 (fun o vs h c=>match vs with | []=>Zio o h c | _=>none):=by
 refine ⟨ZcI,bk_87,rfl,ck_87,fun o vs h c r e=>?_⟩
 dsimp only at e
 split at e
 · exact ⟨rfl,(ZeT o h c).trans e⟩
 · cases e
theorem ck_88:Z05 K ZcH.nt ZcH.code:=(ai tt (ai tt tt))
theorem fe_88:FE (H:=H) P bk K 88 (fun o vs h c=>match vs with | [t0,t1,t2]=>Zin o t0 t1 t2 h c | _=>none):=by
 refine ⟨ZcH,bk_88,rfl,ck_88,fun o vs h c r e=>?_⟩
 dsimp only at e
 split at e
 · exact ⟨rfl,(ZeS o _ _ _ h c).trans e⟩
 · cases e
theorem ck_89:Z05 K ZcG.nt ZcG.code:=(ai tt (ai tt tt))
theorem fe_89:FE (H:=H) P bk K 89 (fun o vs h c=>match vs with | []=>Zim o h c | _=>none):=by
 refine ⟨ZcG,bk_89,rfl,ck_89,fun o vs h c r e=>?_⟩
 dsimp only at e
 split at e
 · exact ⟨rfl,(ZeR o h c).trans e⟩
 · cases e
theorem ZkD:Z05 K 19 Z2F:=(ai tt (ai (ai tt tt) (ai (ai tt (ai tt (ai (ai tt tt) tt))) tt)))
theorem ZjW:LE (H:=H) P K 90000 (fun o rd vs h c df=>match vs with | [t0,t1,t4,t7,t8]=>Z40 o rd t0 t1 t4 t7 t8 h c df | _=>none):=by
 intro lin b nt hk
 rw [Ze3] at hk
 cases hk
 refine ⟨ZkD,fun o rd vs h c df q e=>?_⟩
 dsimp only at e
 split at e
 · exact (Z4z o rd _ _ _ _ _ h c df).trans e
 · cases e
theorem ck_90:Z05 K ZcF.nt ZcF.code:=(ai tt (ai (ai tt (ai rfl Ze3)) (ai tt tt)))
theorem fe_90:FE (H:=H) P bk K 90 (fun o vs h c=>match vs with | [t0,t1]=>Zgi o t0 t1 h c | _=>none):=by
 refine ⟨ZcF,bk_90,rfl,ck_90,fun o vs h c r e=>?_⟩
 dsimp only at e
 split at e
 · exact ⟨rfl,(ZeQ o _ _ h c).trans e⟩
 · cases e
theorem ZkB:Z05 K 30 Z2D:=(ai tt (ai (ai tt tt) (ai (ai tt (ai tt (ai tt tt))) tt)))
theorem ZjU:LE (H:=H) P K 91001 (fun o rd vs h c df=>match vs with | [t0,t1,t3,t8,t9,t16,t17]=>Z1I o rd t0 t1 t3 t8 t9 t16 t17 h c df | _=>none):=by
 intro lin b nt hk
 rw [Ze1] at hk
 cases hk
 refine ⟨ZkB,fun o rd vs h c df q e=>?_⟩
 dsimp only at e
 split at e
 · exact (Z4x o rd _ _ _ _ _ _ _ h c df).trans e
 · cases e
theorem ZkC:Z05 K 30 Z2E:=(ai tt (ai (ai tt tt) (ai (ai tt (ai tt (ai rfl Ze1))) tt)))
theorem ZjV:LE (H:=H) P K 91000 (fun o rd vs h c df=>match vs with | [t0,t1,t8,t9]=>Z1J o rd t0 t1 t8 t9 h c df | _=>none):=by
 intro lin b nt hk
 rw [Ze2] at hk
 cases hk
 refine ⟨ZkC,fun o rd vs h c df q e=>?_⟩
 dsimp only at e
 split at e
 · exact (Z4y o rd _ _ _ _ h c df).trans e
 · cases e
theorem ck_91:Z05 K ZcE.nt ZcE.code:=(ai tt (ai rfl Ze2))
theorem fe_91:FE (H:=H) P bk K 91 (fun o vs h c=>match vs with | [t0,t1]=>Zgf o t0 t1 h c | _=>none):=by
 refine ⟨ZcE,bk_91,rfl,ck_91,fun o vs h c r e=>?_⟩
 dsimp only at e
 split at e
 · exact ⟨rfl,(ZeP o _ _ h c).trans e⟩
 · cases e
noncomputable def tbF:BT (Orc H->List Value->H->Nat->Option (Rt H)):=(.node 56 (fun o vs h c=>match vs with | [t0]=>ZiC o t0 h c | _=>none) (.node 42 (fun o vs h c=>match vs with | [t0]=>ZiO o t0 h c | _=>none) (.node 17 (fun o vs h c=>match vs with | [t0,t1]=>ZiR o t0 t1 h c | _=>none) (.node 14 (fun o vs h c=>match vs with | [t0]=>ZnY o t0 h c | _=>none) (.node 13 (fun o vs h c=>match vs with | [t0]=>ZiU o t0 h c | _=>none) (.node 11 (fun o vs h c=>match vs with | []=>Zo1 o h c | _=>none) .leaf .leaf) .leaf) (.node 16 (fun o vs h c=>match vs with | [t0,t1]=>ZiS o t0 t1 h c | _=>none) (.node 15 (fun o vs h c=>match vs with | [t0,t1]=>ZiT o t0 t1 h c | _=>none) .leaf .leaf) .leaf)) (.node 25 (fun o vs h c=>match vs with | [t0,t1]=>ZnS o t0 t1 h c | _=>none) (.node 23 (fun o vs h c=>match vs with | [t0,t1]=>ZnT o t0 t1 h c | _=>none) (.node 21 (fun o vs h c=>match vs with | [t0,t1]=>ZiQ o t0 t1 h c | _=>none) .leaf .leaf) .leaf) (.node 41 (fun o vs h c=>match vs with | [t0]=>ZiP o t0 h c | _=>none) (.node 40 (fun o vs h c=>match vs with | [t0]=>ZnR o t0 h c | _=>none) .leaf .leaf) .leaf))) (.node 48 (fun o vs h c=>match vs with | [t0]=>ZiH o t0 h c | _=>none) (.node 45 (fun o vs h c=>match vs with | [t0]=>ZiL o t0 h c | _=>none) (.node 44 (fun o vs h c=>match vs with | [t0]=>ZiM o t0 h c | _=>none) (.node 43 (fun o vs h c=>match vs with | [t0]=>ZiN o t0 h c | _=>none) .leaf .leaf) .leaf) (.node 47 (fun o vs h c=>match vs with | [t0,t1]=>ZiI o t0 t1 h c | _=>none) (.node 46 (fun o vs h c=>match vs with | [t0,t1]=>ZiK o t0 t1 h c | _=>none) .leaf .leaf) .leaf)) (.node 53 (fun o vs h c=>match vs with | [t0]=>ZnM o t0 h c | _=>none) (.node 50 (fun o vs h c=>match vs with | [t0,t1,t2,t3]=>ZiF o t0 t1 t2 t3 h c | _=>none) (.node 49 (fun o vs h c=>match vs with | [t0,t1]=>ZiG o t0 t1 h c | _=>none) .leaf .leaf) .leaf) (.node 55 (fun o vs h c=>match vs with | [t0]=>ZiD o t0 h c | _=>none) .leaf .leaf)))) (.node 76 (fun o vs h c=>match vs with | [t0]=>Ziu o t0 h c | _=>none) (.node 70 (fun o vs h c=>match vs with | [t0]=>Ziz o t0 h c | _=>none) (.node 60 (fun o vs h c=>match vs with | []=>ZiA o h c | _=>none) (.node 59 (fun o vs h c=>match vs with | [t0]=>ZiB o t0 h c | _=>none) (.node 57 (fun o vs h c=>match vs with | [t0,t1]=>ZnK o t0 t1 h c | _=>none) .leaf .leaf) .leaf) (.node 69 (fun o vs h c=>match vs with | [t0]=>ZnG o t0 h c | _=>none) (.node 68 (fun o vs h c=>match vs with | [t0]=>ZnH o t0 h c | _=>none) .leaf .leaf) .leaf)) (.node 73 (fun o vs h c=>match vs with | [t0,t1]=>Zix o t0 t1 h c | _=>none) (.node 72 (fun o vs h c=>match vs with | [t0,t1,t2]=>Zgm o t0 t1 t2 h c | _=>none) (.node 71 (fun o vs h c=>match vs with | [t0]=>Ziy o t0 h c | _=>none) .leaf .leaf) .leaf) (.node 75 (fun o vs h c=>match vs with | [t0,t1]=>Ziv o t0 t1 h c | _=>none) (.node 74 (fun o vs h c=>match vs with | [t0,t1,t2]=>Ziw o t0 t1 t2 h c | _=>none) .leaf .leaf) .leaf))) (.node 87 (fun o vs h c=>match vs with | []=>Zio o h c | _=>none) (.node 84 (fun o vs h c=>match vs with | [t0]=>Zir o t0 h c | _=>none) (.node 83 (fun o vs h c=>match vs with | [t0]=>Zis o t0 h c | _=>none) (.node 77 (fun o vs h c=>match vs with | [t0,t1]=>Zit o t0 t1 h c | _=>none) .leaf .leaf) .leaf) (.node 86 (fun o vs h c=>match vs with | [t0,t1]=>Zip o t0 t1 h c | _=>none) (.node 85 (fun o vs h c=>match vs with | [t0]=>Ziq o t0 h c | _=>none) .leaf .leaf) .leaf)) (.node 90 (fun o vs h c=>match vs with | [t0,t1]=>Zgi o t0 t1 h c | _=>none) (.node 89 (fun o vs h c=>match vs with | []=>Zim o h c | _=>none) (.node 88 (fun o vs h c=>match vs with | [t0,t1,t2]=>Zin o t0 t1 t2 h c | _=>none) .leaf .leaf) .leaf) (.node 91 (fun o vs h c=>match vs with | [t0,t1]=>Zgf o t0 t1 h c | _=>none) .leaf .leaf)))))
noncomputable def tbL:BT (Orc H->Option Nat->List Value->H->Nat->List Nat->Option (Rt H)):=(.node 47001 (fun o rd vs h c df=>match vs with | [t2,t4,t7,t15,t16,t17,t35,t36]=>Z4d o rd t2 t4 t7 t15 t16 t17 t35 t36 h c df | _=>none) (.node 23002 (fun o rd vs h c df=>match vs with | [t1,t4,t5,t8,t11,t12,t33,t34,t35,t81,t82]=>Z7b o rd t1 t4 t5 t8 t11 t12 t33 t34 t35 t81 t82 h c df | _=>none) (.node 15001 (fun o rd vs h c df=>match vs with | [t1,t7,t8,t28,t29,t30,t35,t36]=>Z4j o rd t1 t7 t8 t28 t29 t30 t35 t36 h c df | _=>none) (.node 14000 (fun o rd vs h c df=>match vs with | [t1,t5,t7,t26,t27,t28]=>Z7r o rd t1 t5 t7 t26 t27 t28 h c df | _=>none) (.node 13001 (fun o rd vs h c df=>match vs with | [t1,t2,t3,t4,t5]=>Z1L o rd t1 t2 t3 t4 t5 h c df | _=>none) (.node 13000 (fun o rd vs h c df=>match vs with | [t1,t2,t3,t4]=>Z1e o rd t1 t2 t3 t4 h c df | _=>none) .leaf .leaf) .leaf) (.node 15000 (fun o rd vs h c df=>match vs with | [t1,t7,t28,t29,t30]=>Z4k o rd t1 t7 t28 t29 t30 h c df | _=>none) (.node 14001 (fun o rd vs h c df=>match vs with | [t1,t5,t7,t9,t10,t26,t27,t28,t42,t43]=>Z7q o rd t1 t5 t7 t9 t10 t26 t27 t28 t42 t43 h c df | _=>none) .leaf .leaf) .leaf)) (.node 23000 (fun o rd vs h c df=>match vs with | [t1,t4,t5,t8,t33,t34,t35]=>Z7d o rd t1 t4 t5 t8 t33 t34 t35 h c df | _=>none) (.node 21000 (fun o rd vs h c df=>match vs with | [t0,t1,t4,t5]=>Z4i o rd t0 t1 t4 t5 h c df | _=>none) (.node 15002 (fun o rd vs h c df=>match vs with | [t1,t7,t8,t10,t28,t29,t30,t35,t36,t63]=>Z3j o rd t1 t7 t8 t10 t28 t29 t30 t35 t36 t63 h c df | _=>none) .leaf .leaf) .leaf) (.node 23001 (fun o rd vs h c df=>match vs with | [t1,t4,t5,t8,t11,t12,t33,t34,t35,t53,t54]=>Z7c o rd t1 t4 t5 t8 t11 t12 t33 t34 t35 t53 t54 h c df | _=>none) .leaf .leaf))) (.node 42000 (fun o rd vs h c df=>match vs with | [t1,t2,t3,t4]=>Z24 o rd t1 t2 t3 t4 h c df | _=>none) (.node 40001 (fun o rd vs h c df=>match vs with | [t2,t3,t4,t5,t7,t8,t9,t10,t11]=>Z78 o rd t2 t3 t4 t5 t7 t8 t9 t10 t11 h c df | _=>none) (.node 40000 (fun o rd vs h c df=>match vs with | [t2,t3,t4,t5,t7,t8,t9]=>Z79 o rd t2 t3 t4 t5 t7 t8 t9 h c df | _=>none) (.node 25000 (fun o rd vs h c df=>match vs with | [t1,t2,t4,t5,t29,t30]=>Z7a o rd t1 t2 t4 t5 t29 t30 h c df | _=>none) .leaf .leaf) .leaf) (.node 41000 (fun o rd vs h c df=>match vs with | [t1,t2,t3,t4]=>Z1d o rd t1 t2 t3 t4 h c df | _=>none) (.node 40002 (fun o rd vs h c df=>match vs with | [t2,t3,t4,t5,t7,t8,t9,t10,t11,t14]=>Z77 o rd t2 t3 t4 t5 t7 t8 t9 t10 t11 t14 h c df | _=>none) .leaf .leaf) .leaf)) (.node 46000 (fun o rd vs h c df=>match vs with | [t0,t1]=>Z5t o rd t0 t1 h c df | _=>none) (.node 45000 (fun o rd vs h c df=>match vs with | [t0,t3,t9,t10]=>Z4f o rd t0 t3 t9 t10 h c df | _=>none) (.node 44001 (fun o rd vs h c df=>match vs with | [t6,t7,t8,t52]=>Z23 o rd t6 t7 t8 t52 h c df | _=>none) .leaf .leaf) .leaf) (.node 47000 (fun o rd vs h c df=>match vs with | [t2,t4,t15,t16,t17]=>Z4e o rd t2 t4 t15 t16 t17 h c df | _=>none) .leaf .leaf)))) (.node 71000 (fun o rd vs h c df=>match vs with | [t2,t3,t10,t11]=>Z47 o rd t2 t3 t10 t11 h c df | _=>none) (.node 57002 (fun o rd vs h c df=>match vs with | [t2,t4,t5,t7,t11,t14,t15,t16,t62,t63,t64]=>Z6Z o rd t2 t4 t5 t7 t11 t14 t15 t16 t62 t63 t64 h c df | _=>none) (.node 56000 (fun o rd vs h c df=>match vs with | [t3,t6,t7,t8]=>Z48 o rd t3 t6 t7 t8 h c df | _=>none) (.node 49000 (fun o rd vs h c df=>match vs with | [t1,t7,t19,t20,t21]=>Z4b o rd t1 t7 t19 t20 t21 h c df | _=>none) (.node 48000 (fun o rd vs h c df=>match vs with | [t3,t6,t7,t8]=>Z4c o rd t3 t6 t7 t8 h c df | _=>none) .leaf .leaf) .leaf) (.node 57001 (fun o rd vs h c df=>match vs with | [t2,t4,t5,t7,t11,t62,t63,t64]=>Z70 o rd t2 t4 t5 t7 t11 t62 t63 t64 h c df | _=>none) (.node 57000 (fun o rd vs h c df=>match vs with | [t1,t2,t4,t5,t6,t7,t33,t34]=>Z71 o rd t1 t2 t4 t5 t6 t7 t33 t34 h c df | _=>none) .leaf .leaf) .leaf)) (.node 68000 (fun o rd vs h c df=>match vs with | [t0,t3,t4,t5]=>Z6W o rd t0 t3 t4 t5 h c df | _=>none) (.node 57004 (fun o rd vs h c df=>match vs with | [t2,t4,t5,t7,t11,t15,t62,t63,t64,t177,t178,t179]=>Z6X o rd t2 t4 t5 t7 t11 t15 t62 t63 t64 t177 t178 t179 h c df | _=>none) (.node 57003 (fun o rd vs h c df=>match vs with | [t2,t4,t5,t7,t11,t14,t15,t16,t17,t18,t62,t63,t64,t93,t94]=>Z6Y o rd t2 t4 t5 t7 t11 t14 t15 t16 t17 t18 t62 t63 t64 t93 t94 h c df | _=>none) .leaf .leaf) .leaf) (.node 69000 (fun o rd vs h c df=>match vs with | [t0,t2,t3,t4,t5]=>Z6V o rd t0 t2 t3 t4 t5 h c df | _=>none) .leaf .leaf))) (.node 85000 (fun o rd vs h c df=>match vs with | [t2,t3,t6,t7]=>Z21 o rd t2 t3 t6 t7 h c df | _=>none) (.node 77001 (fun o rd vs h c df=>match vs with | [t0,t3,t9,t10,t11,t16,t17]=>Z44 o rd t0 t3 t9 t10 t11 t16 t17 h c df | _=>none) (.node 77000 (fun o rd vs h c df=>match vs with | [t0,t9,t10,t11]=>Z45 o rd t0 t9 t10 t11 h c df | _=>none) (.node 74000 (fun o rd vs h c df=>match vs with | [t0,t1,t7,t8,t9,t34]=>Z46 o rd t0 t1 t7 t8 t9 t34 h c df | _=>none) .leaf .leaf) .leaf) (.node 84000 (fun o rd vs h c df=>match vs with | [t2,t3,t6,t7]=>Z1K o rd t2 t3 t6 t7 h c df | _=>none) (.node 77002 (fun o rd vs h c df=>match vs with | [t0,t3,t5,t6,t9,t10,t11,t16,t17,t44]=>Z22 o rd t0 t3 t5 t6 t9 t10 t11 t16 t17 t44 h c df | _=>none) .leaf .leaf) .leaf)) (.node 91000 (fun o rd vs h c df=>match vs with | [t0,t1,t8,t9]=>Z1J o rd t0 t1 t8 t9 h c df | _=>none) (.node 90000 (fun o rd vs h c df=>match vs with | [t0,t1,t4,t7,t8]=>Z40 o rd t0 t1 t4 t7 t8 h c df | _=>none) (.node 86000 (fun o rd vs h c df=>match vs with | [t0,t1,t4,t7,t8]=>Z41 o rd t0 t1 t4 t7 t8 h c df | _=>none) .leaf .leaf) .leaf) (.node 91001 (fun o rd vs h c df=>match vs with | [t0,t1,t3,t8,t9,t16,t17]=>Z1I o rd t0 t1 t3 t8 t9 t16 t17 h c df | _=>none) .leaf .leaf)))))
noncomputable def tbR:List (Nat × List Nat × (Orc H->Nat->List Value->H->Nat->Option (Rt H))):=[(92,[25],(fun o l vs h c=>match vs with | [t25,t1,t5,t6]=>Z35 o l t25 t1 t5 t6 h c | _=>none)),(71,[52],(fun o l vs h c=>match vs with | [t52,t4,t7]=>Z31 o l t52 t4 t7 h c | _=>none)),(71,[13,14],(fun o l vs h c=>match vs with | [t13,t14,t1,t2,t3]=>Z2O o l t13 t14 t1 t2 t3 h c | _=>none))]
noncomputable def tab:Tab H:={ F:=fun f=>tbF.look f,L:=fun j=>tbL.look j,R:=fun nt ps=>Zi4 nt ps tbR }
theorem tab_ok:TabOK (H:=H) P bk K tab:=⟨fun f F e=>BT.look_all (Q:=FE P bk K) (t:=tbF) (ai fe_56 (ai (ai fe_42 (ai (ai fe_17 (ai (ai fe_14 (ai (ai fe_13 (ai (ai fe_11 (ai tt tt)) tt)) (ai fe_16 (ai (ai fe_15 (ai tt tt)) tt)))) (ai fe_25 (ai (ai fe_23 (ai (ai fe_21 (ai tt tt)) tt)) (ai fe_41 (ai (ai fe_40 (ai tt tt)) tt)))))) (ai fe_48 (ai (ai fe_45 (ai (ai fe_44 (ai (ai fe_43 (ai tt tt)) tt)) (ai fe_47 (ai (ai fe_46 (ai tt tt)) tt)))) (ai fe_53 (ai (ai fe_50 (ai (ai fe_49 (ai tt tt)) tt)) (ai fe_55 (ai tt tt)))))))) (ai fe_76 (ai (ai fe_70 (ai (ai fe_60 (ai (ai fe_59 (ai (ai fe_57 (ai tt tt)) tt)) (ai fe_69 (ai (ai fe_68 (ai tt tt)) tt)))) (ai fe_73 (ai (ai fe_72 (ai (ai fe_71 (ai tt tt)) tt)) (ai fe_75 (ai (ai fe_74 (ai tt tt)) tt)))))) (ai fe_87 (ai (ai fe_84 (ai (ai fe_83 (ai (ai fe_77 (ai tt tt)) tt)) (ai fe_86 (ai (ai fe_85 (ai tt tt)) tt)))) (ai fe_90 (ai (ai fe_89 (ai (ai fe_88 (ai tt tt)) tt)) (ai fe_91 (ai tt tt)))))))))) e,
 fun j B lin b nt e hk=>BT.look_all (Q:=LE P K) (t:=tbL) (ai Zkf (ai (ai Zkq (ai (ai Zkv (ai (ai Zky (ai (ai Zkz (ai (ai ZkA (ai tt tt)) tt)) (ai Zkw (ai (ai Zkx (ai tt tt)) tt)))) (ai Zks (ai (ai Zkt (ai (ai Zku (ai tt tt)) tt)) (ai Zkr (ai tt tt)))))) (ai Zkk (ai (ai Zkn (ai (ai Zko (ai (ai Zkp (ai tt tt)) tt)) (ai Zkl (ai (ai Zkm (ai tt tt)) tt)))) (ai Zkh (ai (ai Zki (ai (ai Zkj (ai tt tt)) tt)) (ai Zkg (ai tt tt)))))))) (ai Zk4 (ai (ai Zk9 (ai (ai Zkc (ai (ai Zkd (ai (ai Zke (ai tt tt)) tt)) (ai Zka (ai (ai Zkb (ai tt tt)) tt)))) (ai Zk6 (ai (ai Zk7 (ai (ai Zk8 (ai tt tt)) tt)) (ai Zk5 (ai tt tt)))))) (ai ZjY (ai (ai Zk1 (ai (ai Zk2 (ai (ai Zk3 (ai tt tt)) tt)) (ai ZjZ (ai (ai Zk0 (ai tt tt)) tt)))) (ai ZjV (ai (ai ZjW (ai (ai ZjX (ai tt tt)) tt)) (ai ZjU (ai tt tt)))))))))) e lin b nt hk,
 fun nt ps D lin a b e hk=>ZbJ (Q:=RE P K) (l:=tbR) (ai ZjM (ai ZjL (ai ZjK tt))) e lin a b hk⟩
theorem ev_run {n:Nat} {k:Key} {vs:List Value} {h:H} {c:Nat} {df:List Nat} {r:Rt H} (hk:KeyOK K k) (hi:Z66 K h) (e:evT tab n k vs h c df=some r):run P bk k vs h c df=some r:=(Zft tab_ok n k vs h c df r hk hi e).1

theorem Zji (t:TypeId) (a b:Int):Z00 P .or t (.int .i64 a) (.int .i64 b)=some (.int .i64 (orB a b)):=by rw [Z0G]; simp [Z0S,Z1G,orB]; rfl
theorem Zdw (t:TypeId) (x:Int) (h:0<=x):Z00 P .shl t (.int .i64 1) (.int .i64 x)=some (.int .i64 (shB x)):=by
 rw [Z0G]
 have:¬ x<0:=by omega
 simp [Z0S,Z5l,shB,this]; rfl
theorem ZfM (p:List Int) (hp:p.length=4) (h:FH) (c:Nat) (df:List Nat):∀ (k i:Nat) (m:Int),i+k=4 →
 Ans (G (Z43 none) [.bool false,.int .i64 m,av p,.int .i64 i] h c df) fun r=>r.h=h/\r.c=c/\r.df=df ∧
  (match Z69 (p.drop i) m with
   | some m'=>r.e = .exit 0/\r.v 1 = .int .i64 m'
   | none=>r.e = .ret/\r.v 0 = .bool false):=by
 intro k
 induction k with
 | zero =>
  intro i m hi
  obtain rfl:i=4:=by omega
  rw [List.drop_of_length_le qO]
  have e1:¬ ((4:Nat):Int)<4:=by omega
  refine .intro (Z9M (q:=⟨.exit 0,[.bool false,.int .i64 m,av p,.int .i64 (4:Nat)],h,c+1,df⟩) (by unfold Z1K; simp [e1]) (by simp)) ?_
  rw [Z1g (by simp)]
  simp [Z69]
 | succ k ih =>
  intro i m hi
  have hlt:i<p.length:=by omega
  have e0:(i:Int)<4:=by omega
  rw [List.drop_eq_getElem_cons hlt]
  have hx:p.getD i 0=p[i]:=by simp [List.getD,List.getElem?_eq_getElem hlt]
  by_cases hc:p[i]<0 ∨ 3<p[i]
  · simp only [Z69,hc,if_true]
    refine .intro (Z9M (q:=⟨.ret,[.bool false,.int .i64 m,av p,.int .i64 i],h,_,df⟩) (by
     unfold Z1K
     by_cases h1:p[i]<0
     · simp (disch:=omega) [e0,Z7J,hx,h1,-List.getD_eq_getElem?_getD]; rfl
     · have h2:3<p[i]:=by omega
       simp (disch:=omega) [e0,Z7J,hx,h1,h2,-List.getD_eq_getElem?_getD] <;> rfl) (by simp)) ?_
    rw [Z1g (by simp)]
    simp
  · have h1:¬ p[i]<0:=by omega
    have h2:¬ 3<p[i]:=by omega
    simp only [Z69,hc,if_false]
    obtain ⟨r,hr,hq⟩:=ih (i+1) (orB m (shB p[i])) qO
    refine .intro (Zgl (q:=⟨.normal,[.bool false,.int .i64 (orB m (shB p[i])),av p,.int .i64 (i+1:Nat)],h,c+1+1+1+1+1,df⟩) (by
     unfold Z1K
     simp (disch:=omega) [e0,Z7J,hx,h1,h2,Zdw _ p[i] qO,Zji,-List.getD_eq_getElem?_getD]) rfl ?_) hq
    rw [Z1g (by simp)]
    exact hr
theorem Zjl (p:List Int) (hp:p.length=4) (h:FH) (c:Nat) (df:List Nat) :
 G (.fn 84) [av p] h c df=some ⟨.ret,[.bool (Z0N p)],h,c,[]⟩:=by
 refine Z59 (fun r e=>f84_go e) (by simp) ?_
 obtain ⟨⟨re,rv,rh,rc,rd⟩,hr,h1,h2,h3,h4⟩:=ZfM p hp (newB h (256*c) (ints p)) (c+1+1+1) [] 4 0 0 rfl
 simp only at h1 h2 h3
 subst h1 h2 h3
 unfold Zir
 simp only [List.drop_zero] at h4
 have e1:p.take 4=p:=List.take_of_length_le qO
 simp only [Int.ofNat_eq_natCast,Int.cast_ofNat_Int] at hr
 unfold Z0N
 cases hv:Z69 p 0 with
 | none =>
  rw [hv] at h4
  obtain ⟨rfl,h5⟩:=h4
  simp [hr,e1,hp,h5]
 | some m =>
  rw [hv] at h4
  obtain ⟨rfl,h5⟩:=h4
  simp [hr,e1,hp,h5]
theorem ZbL (p:List Int) (hp:p.length=4) (hr:InR p) (h:FH) (b1 b3 c:Nat) (hb1:b1<256*c) (hb:b3<256*c) (df:List Nat):∀ (k i:Nat) (out:List Int),i+k=4->out.length=4 →
 G (Z42 none) [ptrTo b1,ptrTo b3,av p,.int .i64 i] (newB h b3 (ints out)) c df =
  some ⟨.exit 0,[ptrTo b1,ptrTo b3,av p,.int .i64 4],newB h b3 (ints (Zgb (p.drop i) i out)),c,df⟩:=by
 intro k
 induction k with
 | zero =>
  intro i out hi ho
  obtain rfl:i=4:=by omega
  rw [List.drop_of_length_le qO]
  refine (Zgj (q:=⟨.exit 0,[ptrTo b1,ptrTo b3,av p,.int .i64 4],newB h b3 (ints out),c+1,df⟩) (by unfold Z21; simp) (by simp)).trans ?_
  rw [Z1g (by simp [hb1,hb])]
  rfl
 | succ k ih =>
  intro i out hi ho
  have hlt:i<p.length:=by omega
  have e0:(i:Int)<4:=by omega
  rw [List.drop_eq_getElem_cons hlt]
  have hx:p.getD i 0=p[i]:=by simp [List.getD,List.getElem?_eq_getElem hlt]
  have hxr:=hr p[i] (List.getElem_mem hlt)
  refine Zgk (q:=⟨.normal,[ptrTo b1,ptrTo b3,av p,.int .i64 (i+1:Nat)],newB h b3 (ints (out.set p[i].toNat i)),c+1+1+1+1,df⟩) ?_ rfl ?_
  · unfold Z21
    simp (disch:=(first | omega | (simp <;> omega) | fail)) [e0,Z7J,hx,hxr,ho,-List.getD_eq_getElem?_getD]
  · rw [ZaI hb (by simp [hb1,hb]) (by simp)]
    exact ih (i+1) _ qO (by simpa using ho)
theorem Zga (p:List Int) (hp:p.length=4) (hr:InR p) (h:FH) (c:Nat) (df:List Nat) :
 G (.fn 85) [av p] h c df=some ⟨.ret,[av (inv p)],h,c,[]⟩:=by
 refine Z59 (fun r e=>f85_go e) (by simp) ?_
 have e1:p.take 4=p:=List.take_of_length_le qO
 have hl:=ZbL p hp hr (newB (newB h (256*c) (ints p)) (256*c+1) (ints [0,0,0,0])) (256*c+1) (256*(c+1)) (c+1+1+1) qO qO [] 4 0 [0,0,0,0] rfl rfl
 have hl2:(Zgb p 0 [0,0,0,0]).length=4:=Z3x p 0 [0,0,0,0]
 have e2:(Zgb p 0 [0,0,0,0]).take 4=Zgb p 0 [0,0,0,0]:=List.take_of_length_le qO
 unfold Ziq
 simp only [ZbN,ZeK,Int.ofNat_eq_natCast,Int.cast_ofNat_Int,List.drop_zero] at hl
 simp (disch:=(first | omega | (simp <;> omega) | fail)) [hl,e1,e2,hp,hl2,inv]

theorem ZlY (a0 a1 a2 a3 a4 b0 b1 b2 b3 b4:Int):Z0S P .eql 41 (av [a0,a1,a2,a3,a4]) (av [b0,b1,b2,b3,b4]) =
 (cond (a0 == b0) ((cond (a1 == b1) (cond (a2 == b2) (cond (a3 == b3) (cond (a4 == b4) (some true) (some false)) (some false)) (some false)) (some false)).bind fun r=>cond r (some true) (some false)) (some false)).bind fun b=>some (.bool b):=by kernel_rfl
theorem Z3L (x y:List Int) (hx:x.length=5) (hy:y.length=5):Z00 P .eql 41 (av x) (av y)=some (.bool (decide (x=y))):=by
 match x,hx,y,hy with
 | [a0,a1,a2,a3,a4],_,[b0,b1,b2,b3,b4],_ =>
  rw [Z0G,ZlY]
  by_cases h0:a0=b0 <;> by_cases h1:a1=b1 <;> by_cases h2:a2=b2 <;> by_cases h3:a3=b3 <;> by_cases h4:a4=b4 <;> simp [h0,h1,h2,h3,h4,Bool.cond_eq_ite]
theorem Z5r (x y:List Int) (hx:x.length=5) (hy:y.length=5):Z00 P .neq 41 (av x) (av y)=some (.bool (!decide (x=y))):=by
 have h:=Z3L x y hx hy
 rw [Z0G] at h ⊢
 have e1:Z0S P .eql 41 (av x) (av y)=cond (Z61 P 41 (av x)) ((aEq P Z27 41 (av x) (av y)).bind fun b=>some (.bool b)) none:=rfl
 have e2:Z0S P .neq 41 (av x) (av y)=cond (Z61 P 41 (av x)) ((aEq P Z27 41 (av x) (av y)).bind fun b=>some (.bool (!b))) none:=rfl
 rw [e1] at h
 rw [e2]
 cases hg:Z61 P 41 (av x) with
 | false=>rw [hg] at h; cases h
 | true =>
  rw [hg] at h
  simp only [cond_true] at h ⊢
  cases hq:aEq P Z27 41 (av x) (av y) with
  | none=>rw [hq] at h; cases h
  | some b=>rw [hq] at h; simp only [Option.bind_some,Option.some.injEq,Value.bool.injEq] at h ⊢; rw [h]
structure FacesI (y:Value) (s:Value) (n:Nat) (Gl:List Int) (gb:Nat) (I:Nat->FH->Nat->Prop) (J:FH->Nat->Prop):Prop where
 stab:∀ k h c h' c',I k h c->c<=c'->Z0E c h h'->I k h' c'
 jstab:∀ h c h' c',J h c->c<=c'->Z0E c h h'->J h' c'
 read:∀ k h c,I k h c->Z07 h gb [s]/\SlI h c s 20 n Gl
 step:∀ t f h c,t<n->f<4->I (4*t+f) h c →
  Ans (Z29 G h c y [av [(t:Int),(f:Int)],av (Z01 Gl t f)]) (fun q=>c<=q.2.2/\((q.1 = .bool true/\I (4*t+f+1) q.2.1 q.2.2) ∨ (q.1 = .bool false/\J q.2.1 q.2.2)))
theorem Zlu {y s:Value} {n:Nat} {Gl:List Int} {gb:Nat} {I:Nat->FH->Nat->Prop} {J:FH->Nat->Prop} (hI:FacesI y s n Gl gb I J) (hG:Gl.length=n*20) (t:Nat) (ht:t<n) (df:List Nat) :
 ∀ (k f:Nat) (h:FH) (c:Nat),f+k=4->I (4*t+f) h c →
 Ans (G (Z3Y none) [y,ptrTo gb,.int .i64 t,.int .i64 n,.int .i64 t,av (Z2x Gl t),.int .i64 f] h c df) fun r=>c<=r.c/\r.df=df ∧
  ((r.e = .exit 2/\r.vs=[y,ptrTo gb,.int .i64 t,.int .i64 n,.int .i64 t,av (Z2x Gl t),.int .i64 4]/\I (4*t+4) r.h r.c) ∨ (r.e = .ret/\r.vs.length=7/\J r.h r.c)):=by
 intro k
 induction k with
 | zero =>
  intro f h c hf hi
  obtain rfl:f=4:=by omega
  refine .intro (Z9I (q:=⟨.exit 2,_,h,c+1,df⟩) (by unfold Z1I; simp; rfl) (by simp)) ?_
  exact ⟨by simp,rfl,.inl ⟨rfl,rfl,hI.stab _ _ _ _ _ hi (by simp) (Z0E.refl _ _)⟩⟩
 | succ k ih =>
  intro f h c hf hi
  have hf4:f<4:=by omega
  have e0:(f:Int)<4:=by omega
  have hl:=Z0n hG ht hf4
  have hrl:=Z5X hG ht
  have hb:∀ cs,Z0E c h (newB h (256*(c+1)+2) cs):=fun cs=>(Z0E.refl _ _).newB qO
  obtain ⟨q,hq,hcq,hcase⟩:=hI.step t f (newB h (256*(c+1)+2) (ints (Z01 Gl t f))) (c+1+1+1) ht hf4 (hI.stab _ _ _ _ _ hi qO (hb _))
  have e1:(Z01 Gl t f).take 5=Z01 Gl t f:=List.take_of_length_le qO
  have body:Z1I G none y (ptrTo gb) (.int .i64 t) (.int .i64 n) (.int .i64 t) (av (Z2x Gl t)) (.int .i64 f) h c df =
   (Z1t .not q.1).bind fun t27=>Z08 t27 (some ⟨.ret,[y,ptrTo gb,.int .i64 t,.int .i64 n,.int .i64 t,av (Z2x Gl t),.int .i64 f],q.2.1,q.2.2,df⟩)
    (some ⟨.normal,[y,ptrTo gb,.int .i64 t,.int .i64 n,.int .i64 t,av (Z2x Gl t),.int .i64 (f+1:Nat)],q.2.1,q.2.2+1,df⟩):=by
   unfold Z1I
   simp (disch:=(first | omega | (simp <;> omega) | fail)) [e0,Z6R,hrl,ZdM hf4,hl,e1,bld2,hq]
  rcases hcase with ⟨hv,hi2⟩ | ⟨hv,hj⟩
  · rw [hv] at body
    simp only [aUnOp_not,Option.bind_some,boolK_bool,Bool.not_true,cond_false] at body
    refine (ih (f+1) q.2.1 (q.2.2+1) qO (hI.stab _ _ _ _ _ hi2 qO (Z0E.refl _ _))).elim fun r ⟨hr,h1,h2⟩=>?_
    exact .intro (Zgg body rfl hr) ⟨by omega,h2⟩
  · rw [hv] at body
    simp only [aUnOp_not,Option.bind_some,boolK_bool,Bool.not_false,cond_true] at body
    exact .intro (Z9I body (by simp)) ⟨by simp; omega,rfl,.inr ⟨rfl,rfl,hj⟩⟩
theorem Zij {y s:Value} {n:Nat} {Gl:List Int} {gb:Nat} {I:Nat->FH->Nat->Prop} {J:FH->Nat->Prop} (hI:FacesI y s n Gl gb I J) (hG:Gl.length=n*20) (hn:n<=9223372036854775807) (df:List Nat) :
 ∀ (k t:Nat) (h:FH) (c:Nat),t+k=n->I (4*t) h c →
 Ans (G (Z3Z none) [y,ptrTo gb,.int .i64 n,.int .i64 t] h c df) fun r=>c<=r.c/\r.df=df ∧
  ((r.e = .exit 0/\I (4*n) r.h r.c) ∨ (r.e = .ret/\J r.h r.c)):=by
 intro k
 induction k with
 | zero =>
  intro t h c ht hi
  obtain rfl:t=n:=by omega
  refine .intro (Z9J (q:=⟨.exit 0,_,h,c+1,df⟩) (by unfold Z1J; simp; rfl) (by simp)) ?_
  exact ⟨by simp,rfl,.inl ⟨rfl,hI.stab _ _ _ _ _ hi (by simp) (Z0E.refl _ _)⟩⟩
 | succ k ih =>
  intro t h c ht hi
  have htn:t<n:=by omega
  have e0:(t:Int)<n:=by omega
  obtain ⟨hgb,hs⟩:=hI.read _ _ _ hi
  obtain ⟨b,o,cs,e1,hb,hh,hw⟩:=hs.ix .i64 t qO e0
  have e2:ld1 h (.pointer (some ⟨gb,0,none⟩))=some s:=by rw [Z03 hgb]; rfl
  have e3:ldN h 20 (.pointer (some ⟨b,o+t*20,none⟩))=some (av (Z2x Gl t)):=by
   have:=ZaE hh hw (j:=t*20) (q:=20) qO qO
   rw [this]; unfold Z2x; rw [Nat.mul_comm]
  simp only [Int.toNat_natCast] at e1
  obtain ⟨r,hr,hcr,hdf,hcase⟩:=Zlu hI hG t htn df 4 0 h (c+1+1+1) rfl (hI.stab _ _ _ _ _ hi qO (Z0E.refl _ _))
  have body:Z1J G none y (ptrTo gb) (.int .i64 n) (.int .i64 t) h c df =
   cond (Z0x r.e (.exit 2)) ((Z00 P .add 3 (r.v 4) (.int .i64 1)).bind fun t29=>some ⟨.normal,[(r.v 0),(r.v 1),(r.v 3),t29],r.h,(r.c+1),r.df⟩)
    (cond (Z0x r.e .ret) (some ⟨.ret,[(r.v 0),(r.v 1),(r.v 3),(r.v 4)],r.h,r.c,r.df⟩) none):=by
   unfold Z1J
   simp only [Int.ofNat_eq_natCast,Int.cast_ofNat_Int] at hr
   simp (disch:=(first | omega | (simp <;> omega) | fail)) [e0,e2,e1,e3,hr]
  obtain ⟨re,rv,rh,rc,rd⟩:=r
  simp only at hcase hcr hdf
  subst hdf
  rcases hcase with ⟨rfl,rfl,hi2⟩ | ⟨rfl,hl,hj⟩
  · simp (disch:=omega) at body
    refine (ih (t+1) rh (rc+1) qO (hI.stab _ _ _ _ _ hi2 qO (Z0E.refl _ _))).elim fun r ⟨hr2,h1,h2⟩=>?_
    exact .intro (Zgh body rfl (by simpa using hr2)) ⟨by omega,h2⟩
  · simp at body
    exact .intro (Z9J body (by simp)) ⟨by simp; omega,rfl,.inr ⟨rfl,hj⟩⟩
theorem Zlt {y s:Value} {n:Nat} {Gl:List Int} {gb:Nat} {I:Nat->FH->Nat->Prop} {J:FH->Nat->Prop} (hI:FacesI y s n Gl gb I J) {h:FH} {c:Nat} (hi:I 0 h c) (df:List Nat) :
 Ans (G (.fn 91) [y,ptrTo gb] h c df) fun r=>r.e = .ret/\r.vs=[.tuple #[]]/\r.df=[]/\c<=r.c/\(I (4*n) r.h r.c ∨ J r.h r.c):=by
 obtain ⟨hgb,hs⟩:=hI.read _ _ _ hi
 obtain ⟨r,hr,hcr,hdf,hcase⟩:=Zij hI hs.1 hs.2.1 [] n 0 h (c+1) qO (hI.stab _ _ _ _ _ hi qO (Z0E.refl _ _))
 have e2:ld1 h (.pointer (some ⟨gb,0,none⟩))=some s:=by rw [Z03 hgb]; rfl
 obtain ⟨re,rv,rh,rc,rd⟩:=r
 simp only at hcase hcr hdf
 subst hdf
 simp only [Int.ofNat_eq_natCast,Int.cast_ofNat_Int] at hr
 rcases hcase with ⟨rfl,hi2⟩ | ⟨rfl,hj⟩
 · refine .intro (ZmG (r:=⟨.ret,[.tuple #[]],rh,rc,[]⟩) (by unfold Zgf; simp [e2,hs.len,hr])) ?_
   exact ⟨rfl,rfl,rfl,by simp; omega,.inl hi2⟩
 · refine .intro (ZmG (r:=⟨.ret,[.tuple #[]],rh,rc,[]⟩) (by unfold Zgf; simp [e2,hs.len,hr])) ?_
   exact ⟨rfl,rfl,rfl,by simp; omega,.inr hj⟩
end Go.Proofs.Ytcnndelmnobigaa
