/- Parts of a proof: E AbGo AbPm AbRn. Conditions: none. -/
import Derived.Test.YtdodippbpdechaaM10
import Derived.Test.YtdodippbpdechaaM11
import Derived.Test.YtdodippbpdechaaM12
import Derived.Test.YtdodippbpdechaaM8
set_option linter.all false
set_option maxRecDepth 100000
namespace Go.Proofs.Ytdodippbpdechaa
open Go Go.Ab Go.Proofs
variable {H:Type} [HeapC H]
noncomputable def K:LB:={ loop:=fun j=>BT.look ((.node 60000 ([1,2,7,22,23],Z2W,65) (.node 40002 ([4,5,7,8,9,35,36,37,42,43,68],Z36,152) (.node 39000 ([2,3,4,5,6,8,10,12,59,60],Z3e,172) (.node 14001 ([1,2,3,4,5],Z3k,83) (.node 14000 ([1,2,3,4],Z3l,83) (.node 13000 ([2,3,4,12,13],Z3m,23) .leaf .leaf) .leaf) (.node 27000 ([0,1,4,7,8],Z3g,26) (.node 16000 ([0,1,4,5],Z3h,26) .leaf .leaf) .leaf)) (.node 40000 ([4,35,36,37],Z38,152) (.node 39002 ([2,3,4,6,12,155,156],Z3c,172) (.node 39001 ([2,3,4,5,6,8,10,12,13,59,60,105,106],Z3d,172) .leaf .leaf) .leaf) (.node 40001 ([4,5,35,36,37,42,43],Z37,152) .leaf .leaf))) (.node 42002 ([2,3,4,39,40,41],Z31,90) (.node 42000 ([2,3,4,18,19,20],Z33,90) (.node 41000 ([0,4,5,15,16],Z34,41) (.node 40003 ([4,5,7,8,9,10,35,36,37,42,43,68,90],Z35,152) .leaf .leaf) .leaf) (.node 42001 ([2,3,4,18,19,20,24,25],Z32,90) .leaf .leaf)) (.node 45000 ([1,2,3,4],Z2Y,19) (.node 44000 ([1,2,3,4],Z2Z,30) (.node 42003 ([2,4,53,54,55],Z30,90) .leaf .leaf) .leaf) (.node 56000 ([2,3,6,7],Z2X,23) .leaf .leaf)))) (.node 68000 ([0,1],Z2L,41) (.node 62002 ([2,3,4,5,7,8,9,10,11,14],Z2Q,135) (.node 62000 ([2,3,4,5,7,8,9],Z2S,135) (.node 61000 ([0,3,4,5,17,18],Z2T,48) (.node 60001 ([1,2,7,8,22,23,26],Z2V,65) .leaf .leaf) .leaf) (.node 62001 ([2,3,4,5,7,8,9,10,11],Z2R,135) .leaf .leaf)) (.node 65001 ([0,1,4,5,6,7,9,23,24,25,29],Z2N,90) (.node 65000 ([0,1,4,5,6,7,23,24,25],Z2O,90) (.node 64000 ([2,3,6,7],Z2P,16) .leaf .leaf) .leaf) (.node 66000 ([2,3,10,11],Z2M,21) .leaf .leaf))) (.node 86000 ([0,2,3,18,19],Z2G,100) (.node 85000 ([0,1,8,9],Z2I,30) (.node 84000 ([0,2,3,4,5],Z2J,51) (.node 83000 ([0,3,4,5],Z2K,43) .leaf .leaf) .leaf) (.node 85001 ([0,1,3,8,9,16,17],Z2H,30) .leaf .leaf)) (.node 92000 ([1,3,6],Z2D,25) (.node 86002 ([0,2,3,5,6,7,18,19,50,51],Z2E,100) (.node 86001 ([0,2,3,5,6,18,19],Z2F,100) .leaf .leaf) .leaf) (.node 92001 ([1,3,4,6,9,10],Z2C,25) .leaf .leaf))))):BT (List Nat × ACode × Nat)) j,rng:=fun nt ps=>ZgP nt ps [(71,[13,14],([1,2,3],Z1q,Z1p))] }
theorem ZdX:K.loop 13000=some ([2,3,4,12,13],Z3m,23):=by kernel_rfl
theorem ZdW:K.loop 14000=some ([1,2,3,4],Z3l,83):=by kernel_rfl
theorem ZdV:K.loop 14001=some ([1,2,3,4,5],Z3k,83):=by kernel_rfl
theorem ZdU:K.loop 16000=some ([0,1,4,5],Z3h,26):=by kernel_rfl
theorem ZdT:K.loop 27000=some ([0,1,4,7,8],Z3g,26):=by kernel_rfl
theorem ZdS:K.loop 39000=some ([2,3,4,5,6,8,10,12,59,60],Z3e,172):=by kernel_rfl
theorem ZdR:K.loop 39001=some ([2,3,4,5,6,8,10,12,13,59,60,105,106],Z3d,172):=by kernel_rfl
theorem ZdQ:K.loop 39002=some ([2,3,4,6,12,155,156],Z3c,172):=by kernel_rfl
theorem ZdP:K.loop 40000=some ([4,35,36,37],Z38,152):=by kernel_rfl
theorem ZdO:K.loop 40001=some ([4,5,35,36,37,42,43],Z37,152):=by kernel_rfl
theorem ZdN:K.loop 40002=some ([4,5,7,8,9,35,36,37,42,43,68],Z36,152):=by kernel_rfl
theorem ZdM:K.loop 40003=some ([4,5,7,8,9,10,35,36,37,42,43,68,90],Z35,152):=by kernel_rfl
theorem ZdL:K.loop 41000=some ([0,4,5,15,16],Z34,41):=by kernel_rfl
theorem ZdK:K.loop 42000=some ([2,3,4,18,19,20],Z33,90):=by kernel_rfl
theorem ZdJ:K.loop 42001=some ([2,3,4,18,19,20,24,25],Z32,90):=by kernel_rfl
theorem ZdI:K.loop 42002=some ([2,3,4,39,40,41],Z31,90):=by kernel_rfl
theorem ZdH:K.loop 42003=some ([2,4,53,54,55],Z30,90):=by kernel_rfl
theorem ZdG:K.loop 44000=some ([1,2,3,4],Z2Z,30):=by kernel_rfl
theorem ZdF:K.loop 45000=some ([1,2,3,4],Z2Y,19):=by kernel_rfl
theorem ZdE:K.loop 56000=some ([2,3,6,7],Z2X,23):=by kernel_rfl
theorem ZdD:K.loop 60000=some ([1,2,7,22,23],Z2W,65):=by kernel_rfl
theorem ZdC:K.loop 60001=some ([1,2,7,8,22,23,26],Z2V,65):=by kernel_rfl
theorem ZdB:K.loop 61000=some ([0,3,4,5,17,18],Z2T,48):=by kernel_rfl
theorem ZdA:K.loop 62000=some ([2,3,4,5,7,8,9],Z2S,135):=by kernel_rfl
theorem Zdz:K.loop 62001=some ([2,3,4,5,7,8,9,10,11],Z2R,135):=by kernel_rfl
theorem Zdy:K.loop 62002=some ([2,3,4,5,7,8,9,10,11,14],Z2Q,135):=by kernel_rfl
theorem Zdx:K.loop 64000=some ([2,3,6,7],Z2P,16):=by kernel_rfl
theorem Zdw:K.loop 65000=some ([0,1,4,5,6,7,23,24,25],Z2O,90):=by kernel_rfl
theorem Zdv:K.loop 65001=some ([0,1,4,5,6,7,9,23,24,25,29],Z2N,90):=by kernel_rfl
theorem Zdu:K.loop 66000=some ([2,3,10,11],Z2M,21):=by kernel_rfl
theorem Zdt:K.loop 68000=some ([0,1],Z2L,41):=by kernel_rfl
theorem Zds:K.loop 83000=some ([0,3,4,5],Z2K,43):=by kernel_rfl
theorem Zdr:K.loop 84000=some ([0,2,3,4,5],Z2J,51):=by kernel_rfl
theorem Zdq:K.loop 85000=some ([0,1,8,9],Z2I,30):=by kernel_rfl
theorem Zdp:K.loop 85001=some ([0,1,3,8,9,16,17],Z2H,30):=by kernel_rfl
theorem Zdo:K.loop 86000=some ([0,2,3,18,19],Z2G,100):=by kernel_rfl
theorem Zdn:K.loop 86001=some ([0,2,3,5,6,18,19],Z2F,100):=by kernel_rfl
theorem Zdm:K.loop 86002=some ([0,2,3,5,6,7,18,19,50,51],Z2E,100):=by kernel_rfl
theorem Zdl:K.loop 92000=some ([1,3,6],Z2D,25):=by kernel_rfl
theorem Zdk:K.loop 92001=some ([1,3,4,6,9,10],Z2C,25):=by kernel_rfl
theorem Zdj:K.rng 71 [13,14]=some ([1,2,3],Z1q,Z1p):=by kernel_rfl
theorem ck_10:Z09 K ZfY.nt ZfY.code:=(ai tt (ai tt (ai tt (ai tt tt))))
theorem fe_10:FE (H:=H) P bk K 10 (fun o vs h c=>match vs with | []=>ZmY o h c | _=>none):=by
 refine ⟨ZfY,bk_10,rfl,ck_10,fun o vs h c r e=>?_⟩
 dsimp only at e
 split at e
 · exact ⟨rfl,(ZkF o h c).trans e⟩
 · cases e
theorem ck_11:Z09 K ZfX.nt ZfX.code:=(ai tt (ai (ai tt (ai (ai tt tt) tt)) (ai tt tt)))
theorem fe_11:FE (H:=H) P bk K 11 (fun o vs h c=>match vs with | [t0]=>ZmX o t0 h c | _=>none):=by
 refine ⟨ZfX,bk_11,rfl,ck_11,fun o vs h c r e=>?_⟩
 dsimp only at e
 split at e
 · exact ⟨rfl,(ZkE o _ h c).trans e⟩
 · cases e
theorem ZjG:Z09 K 23 Z3m:=(ai tt (ai (ai tt tt) (ai (ai tt (ai tt (ai (ai tt tt) tt))) tt)))
theorem Zj1:LE (H:=H) P K 13000 (fun o rd vs h c df=>match vs with | [t2,t3,t4,t12,t13]=>Z7o o rd t2 t3 t4 t12 t13 h c df | _=>none):=by
 intro lin b nt hk
 rw [ZdX] at hk
 cases hk
 refine ⟨ZjG,fun o rd vs h c df q e=>?_⟩
 dsimp only at e
 split at e
 · exact (Zb5 o rd _ _ _ _ _ h c df).trans e
 · cases e
theorem ck_13:Z09 K ZfW.nt ZfW.code:=(ai tt (ai (ai tt (ai (ai tt tt) tt)) (ai tt (ai (ai tt (ai rfl ZdX)) (ai tt tt)))))
theorem fe_13:FE (H:=H) P bk K 13 (fun o vs h c=>match vs with | [t0]=>ZmW o t0 h c | _=>none):=by
 refine ⟨ZfW,bk_13,rfl,ck_13,fun o vs h c r e=>?_⟩
 dsimp only at e
 split at e
 · exact ⟨rfl,(ZkD o _ h c).trans e⟩
 · cases e
theorem ZjE:Z09 K 83 Z3k:=(ai (ai tt (ai tt tt)) (ai (ai tt (ai (ai tt (ai tt tt)) (ai (ai tt (ai (ai tt tt) tt)) (ai tt (ai (ai tt tt) tt))))) tt))
theorem ZiZ:LE (H:=H) P K 14001 (fun o rd vs h c df=>match vs with | [t1,t2,t3,t4,t5]=>Z1K o rd t1 t2 t3 t4 t5 h c df | _=>none):=by
 intro lin b nt hk
 rw [ZdV] at hk
 cases hk
 refine ⟨ZjE,fun o rd vs h c df q e=>?_⟩
 dsimp only at e
 split at e
 · exact (Z4E o rd _ _ _ _ _ h c df).trans e
 · cases e
theorem ZjF:Z09 K 83 Z3l:=(ai (ai tt (ai tt tt)) (ai (ai tt (ai rfl ZdV)) tt))
theorem Zj0:LE (H:=H) P K 14000 (fun o rd vs h c df=>match vs with | [t1,t2,t3,t4]=>Z1c o rd t1 t2 t3 t4 h c df | _=>none):=by
 intro lin b nt hk
 rw [ZdW] at hk
 cases hk
 refine ⟨ZjF,fun o rd vs h c df q e=>?_⟩
 dsimp only at e
 split at e
 · exact (Z4F o rd _ _ _ _ h c df).trans e
 · cases e
theorem ck_14:Z09 K ZcM.nt ZcM.code:=(ai tt (ai tt (ai (ai tt (ai (ai tt tt) tt)) (ai (ai tt (ai rfl ZdW)) (ai tt tt)))))
theorem fe_14:FE (H:=H) P bk K 14 (fun o vs h c=>match vs with | [t0]=>Zhq o t0 h c | _=>none):=by
 refine ⟨ZcM,bk_14,rfl,ck_14,fun o vs h c r e=>?_⟩
 dsimp only at e
 split at e
 · exact ⟨rfl,(Zeo o _ h c).trans e⟩
 · cases e
theorem ZjD:Z09 K 26 Z3h:=(ai (ai tt (ai tt tt)) (ai (ai tt (ai (ai tt tt) tt)) tt))
theorem ZiY:LE (H:=H) P K 16000 (fun o rd vs h c df=>match vs with | [t0,t1,t4,t5]=>Z7n o rd t0 t1 t4 t5 h c df | _=>none):=by
 intro lin b nt hk
 rw [ZdU] at hk
 cases hk
 refine ⟨ZjD,fun o rd vs h c df q e=>?_⟩
 dsimp only at e
 split at e
 · exact (Zb4 o rd _ _ _ _ h c df).trans e
 · cases e
theorem ck_16:Z09 K ZfU.nt ZfU.code:=(ai tt (ai (ai tt (ai (ai tt tt) tt)) (ai (ai tt (ai rfl ZdU)) (ai tt tt))))
theorem fe_16:FE (H:=H) P bk K 16 (fun o vs h c=>match vs with | [t0,t1]=>ZmV o t0 t1 h c | _=>none):=by
 refine ⟨ZfU,bk_16,rfl,ck_16,fun o vs h c r e=>?_⟩
 dsimp only at e
 split at e
 · exact ⟨rfl,(ZkC o _ _ h c).trans e⟩
 · cases e
theorem ZjC:Z09 K 26 Z3g:=(ai tt (ai (ai tt tt) (ai (ai tt (ai tt (ai (ai tt tt) tt))) tt)))
theorem ZiX:LE (H:=H) P K 27000 (fun o rd vs h c df=>match vs with | [t0,t1,t4,t7,t8]=>Z48 o rd t0 t1 t4 t7 t8 h c df | _=>none):=by
 intro lin b nt hk
 rw [ZdT] at hk
 cases hk
 refine ⟨ZjC,fun o rd vs h c df q e=>?_⟩
 dsimp only at e
 split at e
 · exact (Z4D o rd _ _ _ _ _ h c df).trans e
 · cases e
theorem ck_27:Z09 K ZcL.nt ZcL.code:=(ai tt (ai (ai tt (ai rfl ZdT)) (ai tt tt)))
theorem fe_27:FE (H:=H) P bk K 27 (fun o vs h c=>match vs with | [t0,t1]=>Zhp o t0 t1 h c | _=>none):=by
 refine ⟨ZcL,bk_27,rfl,ck_27,fun o vs h c r e=>?_⟩
 dsimp only at e
 split at e
 · exact ⟨rfl,(Zen o _ _ h c).trans e⟩
 · cases e
theorem ck_37:Z09 K ZfP.nt ZfP.code:=(ai tt (ai tt (ai tt tt)))
theorem fe_37:FE (H:=H) P bk K 37 (fun o vs h c=>match vs with | []=>ZmP o h c | _=>none):=by
 refine ⟨ZfP,bk_37,rfl,ck_37,fun o vs h c r e=>?_⟩
 dsimp only at e
 split at e
 · exact ⟨rfl,(Zkr o h c).trans e⟩
 · cases e
theorem ZjH:Z09 K 71 Z1q:=(ai tt tt)
theorem ZjB:Z09 K 71 Z1p:=(ai (ai tt (ai tt tt)) (ai (ai tt (ai (ai tt tt) tt)) (ai tt (ai (ai tt tt) tt))))
theorem Zi5:RE (H:=H) P K 71 [13,14] (fun o l vs h c=>match vs with | [t13,t14,t1,t2,t3]=>Z3f o l t13 t14 t1 t2 t3 h c | _=>none):=by
 intro lin a b hk
 rw [Zdj] at hk
 cases hk
 refine ⟨ZjH,ZjB,fun o l vs h c r e=>?_⟩
 dsimp only at e
 split at e
 · exact (Z6c o l _ _ _ _ _ h c).trans e
 · cases e
theorem ck_38:Z09 K ZcK.nt ZcK.code:=(ai tt (ai (ai tt (ai (ai tt tt) tt)) (ai tt (ai (ai tt (ai rfl Zdj)) (ai tt tt)))))
theorem fe_38:FE (H:=H) P bk K 38 (fun o vs h c=>match vs with | [t0]=>Zho o t0 h c | _=>none):=by
 refine ⟨ZcK,bk_38,rfl,ck_38,fun o vs h c r e=>?_⟩
 dsimp only at e
 split at e
 · exact ⟨rfl,(Zem o _ h c).trans e⟩
 · cases e
theorem Zjz:Z09 K 172 Z3d:=(ai tt (ai (ai tt tt) (ai (ai tt (ai tt (ai tt (ai tt (ai tt tt))))) tt)))
theorem ZiV:LE (H:=H) P K 39001 (fun o rd vs h c df=>match vs with | [t2,t3,t4,t5,t6,t8,t10,t12,t13,t59,t60,t105,t106]=>Z78 o rd t2 t3 t4 t5 t6 t8 t10 t12 t13 t59 t60 t105 t106 h c df | _=>none):=by
 intro lin b nt hk
 rw [ZdR] at hk
 cases hk
 refine ⟨Zjz,fun o rd vs h c df q e=>?_⟩
 dsimp only at e
 split at e
 · exact (ZaY o rd _ _ _ _ _ _ _ _ _ _ _ _ _ h c df).trans e
 · cases e
theorem ZjA:Z09 K 172 Z3e:=(ai tt (ai (ai tt tt) (ai (ai tt (ai tt (ai tt (ai tt (ai tt (ai rfl ZdR)))))) tt)))
theorem ZiW:LE (H:=H) P K 39000 (fun o rd vs h c df=>match vs with | [t2,t3,t4,t5,t6,t8,t10,t12,t59,t60]=>Z79 o rd t2 t3 t4 t5 t6 t8 t10 t12 t59 t60 h c df | _=>none):=by
 intro lin b nt hk
 rw [ZdS] at hk
 cases hk
 refine ⟨ZjA,fun o rd vs h c df q e=>?_⟩
 dsimp only at e
 split at e
 · exact (ZaZ o rd _ _ _ _ _ _ _ _ _ _ h c df).trans e
 · cases e
theorem Zjy:Z09 K 172 Z3c:=(ai tt (ai (ai tt tt) (ai (ai tt tt) tt)))
theorem ZiU:LE (H:=H) P K 39002 (fun o rd vs h c df=>match vs with | [t2,t3,t4,t6,t12,t155,t156]=>Z77 o rd t2 t3 t4 t6 t12 t155 t156 h c df | _=>none):=by
 intro lin b nt hk
 rw [ZdQ] at hk
 cases hk
 refine ⟨Zjy,fun o rd vs h c df q e=>?_⟩
 dsimp only at e
 split at e
 · exact (ZaX o rd _ _ _ _ _ _ _ h c df).trans e
 · cases e
theorem ck_39:Z09 K ZfN.nt ZfN.code:=(ai tt (ai tt (ai tt (ai tt (ai tt (ai tt (ai tt (ai (ai tt (ai rfl ZdS)) (ai (ai tt (ai rfl ZdQ)) (ai tt tt))))))))))
theorem fe_39:FE (H:=H) P bk K 39 (fun o vs h c=>match vs with | [t0]=>ZmO o t0 h c | _=>none):=by
 refine ⟨ZfN,bk_39,rfl,ck_39,fun o vs h c r e=>?_⟩
 dsimp only at e
 split at e
 · exact ⟨rfl,(Zkp o _ h c).trans e⟩
 · cases e
theorem Zju:Z09 K 152 Z35:=(ai tt (ai (ai tt tt) (ai (ai tt (ai tt (ai (ai tt tt) tt))) tt)))
theorem ZiQ:LE (H:=H) P K 40003 (fun o rd vs h c df=>match vs with | [t4,t5,t7,t8,t9,t10,t35,t36,t37,t42,t43,t68,t90]=>Z39 o rd t4 t5 t7 t8 t9 t10 t35 t36 t37 t42 t43 t68 t90 h c df | _=>none):=by
 intro lin b nt hk
 rw [ZdM] at hk
 cases hk
 refine ⟨Zju,fun o rd vs h c df q e=>?_⟩
 dsimp only at e
 split at e
 · exact (Z2u o rd _ _ _ _ _ _ _ _ _ _ _ _ _ h c df).trans e
 · cases e
theorem Zjv:Z09 K 152 Z36:=(ai tt (ai (ai tt tt) (ai (ai tt (ai (ai tt (ai tt tt)) (ai tt (ai tt (ai rfl ZdM))))) tt)))
theorem ZiR:LE (H:=H) P K 40002 (fun o rd vs h c df=>match vs with | [t4,t5,t7,t8,t9,t35,t36,t37,t42,t43,t68]=>Z3a o rd t4 t5 t7 t8 t9 t35 t36 t37 t42 t43 t68 h c df | _=>none):=by
 intro lin b nt hk
 rw [ZdN] at hk
 cases hk
 refine ⟨Zjv,fun o rd vs h c df q e=>?_⟩
 dsimp only at e
 split at e
 · exact (Z2v o rd _ _ _ _ _ _ _ _ _ _ _ h c df).trans e
 · cases e
theorem Zjw:Z09 K 152 Z37:=(ai tt (ai (ai tt tt) (ai (ai tt (ai (ai tt (ai tt tt)) (ai tt (ai tt (ai tt (ai rfl ZdN)))))) tt)))
theorem ZiS:LE (H:=H) P K 40001 (fun o rd vs h c df=>match vs with | [t4,t5,t35,t36,t37,t42,t43]=>Z3b o rd t4 t5 t35 t36 t37 t42 t43 h c df | _=>none):=by
 intro lin b nt hk
 rw [ZdO] at hk
 cases hk
 refine ⟨Zjw,fun o rd vs h c df q e=>?_⟩
 dsimp only at e
 split at e
 · exact (Z2w o rd _ _ _ _ _ _ _ h c df).trans e
 · cases e
theorem Zjx:Z09 K 152 Z38:=(ai tt (ai (ai tt tt) (ai (ai tt (ai tt (ai rfl ZdO))) tt)))
theorem ZiT:LE (H:=H) P K 40000 (fun o rd vs h c df=>match vs with | [t4,t35,t36,t37]=>Z46 o rd t4 t35 t36 t37 h c df | _=>none):=by
 intro lin b nt hk
 rw [ZdP] at hk
 cases hk
 refine ⟨Zjx,fun o rd vs h c df q e=>?_⟩
 dsimp only at e
 split at e
 · exact (Z4A o rd _ _ _ _ h c df).trans e
 · cases e
theorem ck_40:Z09 K ZcJ.nt ZcJ.code:=(ai tt (ai tt (ai tt (ai (ai tt (ai rfl ZdP)) (ai tt tt)))))
theorem fe_40:FE (H:=H) P bk K 40 (fun o vs h c=>match vs with | [t0]=>Zhn o t0 h c | _=>none):=by
 refine ⟨ZcJ,bk_40,rfl,ck_40,fun o vs h c r e=>?_⟩
 dsimp only at e
 split at e
 · exact ⟨rfl,(Zel o _ h c).trans e⟩
 · cases e
theorem Zjt:Z09 K 41 Z34:=(ai tt (ai (ai tt tt) (ai (ai tt (ai tt (ai tt (ai (ai tt tt) tt)))) tt)))
theorem ZiP:LE (H:=H) P K 41000 (fun o rd vs h c df=>match vs with | [t0,t4,t5,t15,t16]=>Z45 o rd t0 t4 t5 t15 t16 h c df | _=>none):=by
 intro lin b nt hk
 rw [ZdL] at hk
 cases hk
 refine ⟨Zjt,fun o rd vs h c df q e=>?_⟩
 dsimp only at e
 split at e
 · exact (Z4z o rd _ _ _ _ _ h c df).trans e
 · cases e
theorem ck_41:Z09 K ZcI.nt ZcI.code:=(ai tt (ai tt (ai tt (ai (ai tt (ai rfl ZdL)) (ai tt tt)))))
theorem fe_41:FE (H:=H) P bk K 41 (fun o vs h c=>match vs with | [t0]=>Zhm o t0 h c | _=>none):=by
 refine ⟨ZcI,bk_41,rfl,ck_41,fun o vs h c r e=>?_⟩
 dsimp only at e
 split at e
 · exact ⟨rfl,(Zek o _ h c).trans e⟩
 · cases e
theorem Zjr:Z09 K 90 Z32:=(ai tt (ai (ai tt tt) (ai (ai tt tt) tt)))
theorem ZiN:LE (H:=H) P K 42001 (fun o rd vs h c df=>match vs with | [t2,t3,t4,t18,t19,t20,t24,t25]=>Z75 o rd t2 t3 t4 t18 t19 t20 t24 t25 h c df | _=>none):=by
 intro lin b nt hk
 rw [ZdJ] at hk
 cases hk
 refine ⟨Zjr,fun o rd vs h c df q e=>?_⟩
 dsimp only at e
 split at e
 · exact (ZaV o rd _ _ _ _ _ _ _ _ h c df).trans e
 · cases e
theorem Zjs:Z09 K 90 Z33:=(ai tt (ai (ai tt tt) (ai (ai tt (ai tt (ai rfl ZdJ))) tt)))
theorem ZiO:LE (H:=H) P K 42000 (fun o rd vs h c df=>match vs with | [t2,t3,t4,t18,t19,t20]=>Z76 o rd t2 t3 t4 t18 t19 t20 h c df | _=>none):=by
 intro lin b nt hk
 rw [ZdK] at hk
 cases hk
 refine ⟨Zjs,fun o rd vs h c df q e=>?_⟩
 dsimp only at e
 split at e
 · exact (ZaW o rd _ _ _ _ _ _ h c df).trans e
 · cases e
theorem Zjq:Z09 K 90 Z31:=(ai tt (ai (ai tt tt) (ai (ai tt tt) tt)))
theorem ZiM:LE (H:=H) P K 42002 (fun o rd vs h c df=>match vs with | [t2,t3,t4,t39,t40,t41]=>Z74 o rd t2 t3 t4 t39 t40 t41 h c df | _=>none):=by
 intro lin b nt hk
 rw [ZdI] at hk
 cases hk
 refine ⟨Zjq,fun o rd vs h c df q e=>?_⟩
 dsimp only at e
 split at e
 · exact (ZaU o rd _ _ _ _ _ _ h c df).trans e
 · cases e
theorem Zjp:Z09 K 90 Z30:=(ai tt (ai (ai tt tt) (ai (ai tt (ai tt (ai tt tt))) tt)))
theorem ZiL:LE (H:=H) P K 42003 (fun o rd vs h c df=>match vs with | [t2,t4,t53,t54,t55]=>Z73 o rd t2 t4 t53 t54 t55 h c df | _=>none):=by
 intro lin b nt hk
 rw [ZdH] at hk
 cases hk
 refine ⟨Zjp,fun o rd vs h c df q e=>?_⟩
 dsimp only at e
 split at e
 · exact (ZaT o rd _ _ _ _ _ h c df).trans e
 · cases e
theorem ck_42:Z09 K ZfJ.nt ZfJ.code:=(ai tt (ai tt (ai tt (ai (ai tt (ai rfl ZdK)) (ai (ai tt (ai rfl ZdI)) (ai (ai tt (ai rfl ZdH)) (ai tt tt)))))))
theorem fe_42:FE (H:=H) P bk K 42 (fun o vs h c=>match vs with | [t0]=>ZmN o t0 h c | _=>none):=by
 refine ⟨ZfJ,bk_42,rfl,ck_42,fun o vs h c r e=>?_⟩
 dsimp only at e
 split at e
 · exact ⟨rfl,(Zko o _ h c).trans e⟩
 · cases e
theorem ck_43:Z09 K ZfE.nt ZfE.code:=(ai tt (ai tt tt))
theorem fe_43:FE (H:=H) P bk K 43 (fun o vs h c=>match vs with | []=>ZmM o h c | _=>none):=by
 refine ⟨ZfE,bk_43,rfl,ck_43,fun o vs h c r e=>?_⟩
 dsimp only at e
 split at e
 · exact ⟨rfl,(Zkn o h c).trans e⟩
 · cases e
theorem Zjo:Z09 K 30 Z2Z:=(ai (ai tt (ai tt tt)) (ai (ai (ai tt (ai (ai tt tt) tt)) tt) tt))
theorem ZiK:LE (H:=H) P K 44000 (fun o rd vs h c df=>match vs with | [t1,t2,t3,t4]=>Z1b o rd t1 t2 t3 t4 h c df | _=>none):=by
 intro lin b nt hk
 rw [ZdG] at hk
 cases hk
 refine ⟨Zjo,fun o rd vs h c df q e=>?_⟩
 dsimp only at e
 split at e
 · exact (Z4y o rd _ _ _ _ h c df).trans e
 · cases e
theorem ck_44:Z09 K ZcH.nt ZcH.code:=(ai tt (ai tt (ai (ai tt (ai rfl ZdG)) (ai tt tt))))
theorem fe_44:FE (H:=H) P bk K 44 (fun o vs h c=>match vs with | [t0]=>Zhl o t0 h c | _=>none):=by
 refine ⟨ZcH,bk_44,rfl,ck_44,fun o vs h c r e=>?_⟩
 dsimp only at e
 split at e
 · exact ⟨rfl,(Zej o _ h c).trans e⟩
 · cases e
theorem Zjn:Z09 K 19 Z2Y:=(ai (ai tt (ai tt tt)) (ai tt tt))
theorem ZiJ:LE (H:=H) P K 45000 (fun o rd vs h c df=>match vs with | [t1,t2,t3,t4]=>Z22 o rd t1 t2 t3 t4 h c df | _=>none):=by
 intro lin b nt hk
 rw [ZdF] at hk
 cases hk
 refine ⟨Zjn,fun o rd vs h c df q e=>?_⟩
 dsimp only at e
 split at e
 · exact (Z4x o rd _ _ _ _ h c df).trans e
 · cases e
theorem ck_45:Z09 K ZcG.nt ZcG.code:=(ai tt (ai tt (ai (ai tt (ai (ai tt tt) tt)) (ai (ai tt (ai rfl ZdF)) (ai tt tt)))))
theorem fe_45:FE (H:=H) P bk K 45 (fun o vs h c=>match vs with | [t0]=>Zhk o t0 h c | _=>none):=by
 refine ⟨ZcG,bk_45,rfl,ck_45,fun o vs h c r e=>?_⟩
 dsimp only at e
 split at e
 · exact ⟨rfl,(Zei o _ h c).trans e⟩
 · cases e
theorem ck_54:Z09 K ZcF.nt ZcF.code:=(ai tt (ai tt tt))
theorem fe_54:FE (H:=H) P bk K 54 (fun o vs h c=>match vs with | []=>Zhj o h c | _=>none):=by
 refine ⟨ZcF,bk_54,rfl,ck_54,fun o vs h c r e=>?_⟩
 dsimp only at e
 split at e
 · exact ⟨rfl,(Zeh o h c).trans e⟩
 · cases e
theorem Zjm:Z09 K 23 Z2X:=(ai tt (ai (ai tt tt) (ai (ai tt (ai (ai tt (ai (ai tt tt) tt)) tt)) tt)))
theorem ZiI:LE (H:=H) P K 56000 (fun o rd vs h c df=>match vs with | [t2,t3,t6,t7]=>Z1J o rd t2 t3 t6 t7 h c df | _=>none):=by
 intro lin b nt hk
 rw [ZdE] at hk
 cases hk
 refine ⟨Zjm,fun o rd vs h c df q e=>?_⟩
 dsimp only at e
 split at e
 · exact (Z4w o rd _ _ _ _ h c df).trans e
 · cases e
theorem ck_56:Z09 K ZcE.nt ZcE.code:=(ai tt (ai tt (ai (ai tt (ai rfl ZdE)) (ai tt tt))))
theorem fe_56:FE (H:=H) P bk K 56 (fun o vs h c=>match vs with | [t0]=>Zhi o t0 h c | _=>none):=by
 refine ⟨ZcE,bk_56,rfl,ck_56,fun o vs h c r e=>?_⟩
 dsimp only at e
 split at e
 · exact ⟨rfl,(Zeg o _ h c).trans e⟩
 · cases e
theorem Zjk:Z09 K 65 Z2V:=(ai tt (ai (ai tt tt) (ai (ai tt (ai tt (ai (ai tt tt) tt))) tt)))
theorem ZiG:LE (H:=H) P K 60001 (fun o rd vs h c df=>match vs with | [t1,t2,t7,t8,t22,t23,t26]=>Z3X o rd t1 t2 t7 t8 t22 t23 t26 h c df | _=>none):=by
 intro lin b nt hk
 rw [ZdC] at hk
 cases hk
 refine ⟨Zjk,fun o rd vs h c df q e=>?_⟩
 dsimp only at e
 split at e
 · exact (Z4u o rd _ _ _ _ _ _ _ h c df).trans e
 · cases e
theorem Zjl:Z09 K 65 Z2W:=(ai tt (ai (ai tt tt) (ai (ai tt (ai tt (ai rfl ZdC))) tt)))
theorem ZiH:LE (H:=H) P K 60000 (fun o rd vs h c df=>match vs with | [t1,t2,t7,t22,t23]=>Z3Y o rd t1 t2 t7 t22 t23 h c df | _=>none):=by
 intro lin b nt hk
 rw [ZdD] at hk
 cases hk
 refine ⟨Zjl,fun o rd vs h c df q e=>?_⟩
 dsimp only at e
 split at e
 · exact (Z4v o rd _ _ _ _ _ h c df).trans e
 · cases e
theorem ck_60:Z09 K ZcD.nt ZcD.code:=(ai tt (ai tt (ai (ai tt (ai rfl ZdD)) (ai tt tt))))
theorem fe_60:FE (H:=H) P bk K 60 (fun o vs h c=>match vs with | [t0,t1,t2]=>Zhh o t0 t1 t2 h c | _=>none):=by
 refine ⟨ZcD,bk_60,rfl,ck_60,fun o vs h c r e=>?_⟩
 dsimp only at e
 split at e
 · exact ⟨rfl,(Zef o _ _ _ h c).trans e⟩
 · cases e
theorem Zjj:Z09 K 48 Z2T:=(ai tt (ai (ai tt tt) (ai (ai tt (ai tt (ai tt tt))) tt)))
theorem ZiF:LE (H:=H) P K 61000 (fun o rd vs h c df=>match vs with | [t0,t3,t4,t5,t17,t18]=>Z2U o rd t0 t3 t4 t5 t17 t18 h c df | _=>none):=by
 intro lin b nt hk
 rw [ZdB] at hk
 cases hk
 refine ⟨Zjj,fun o rd vs h c df q e=>?_⟩
 dsimp only at e
 split at e
 · exact (Z2s o rd _ _ _ _ _ _ h c df).trans e
 · cases e
theorem ck_61:Z09 K ZcC.nt ZcC.code:=(ai tt (ai tt (ai (ai tt (ai rfl ZdB)) (ai tt tt))))
theorem fe_61:FE (H:=H) P bk K 61 (fun o vs h c=>match vs with | [t0,t1]=>Zhg o t0 t1 h c | _=>none):=by
 refine ⟨ZcC,bk_61,rfl,ck_61,fun o vs h c r e=>?_⟩
 dsimp only at e
 split at e
 · exact ⟨rfl,(Zee o _ _ h c).trans e⟩
 · cases e
theorem Zjg:Z09 K 135 Z2Q:=(ai (ai tt (ai tt tt)) (ai (ai tt (ai (ai tt (ai (ai tt tt) tt)) tt)) tt))
theorem ZiC:LE (H:=H) P K 62002 (fun o rd vs h c df=>match vs with | [t2,t3,t4,t5,t7,t8,t9,t10,t11,t14]=>Z6U o rd t2 t3 t4 t5 t7 t8 t9 t10 t11 t14 h c df | _=>none):=by
 intro lin b nt hk
 rw [Zdy] at hk
 cases hk
 refine ⟨Zjg,fun o rd vs h c df q e=>?_⟩
 dsimp only at e
 split at e
 · exact (ZaQ o rd _ _ _ _ _ _ _ _ _ _ h c df).trans e
 · cases e
theorem Zjh:Z09 K 135 Z2R:=(ai (ai tt (ai tt tt)) (ai (ai (ai tt (ai (ai tt tt) tt)) (ai (ai tt (ai (ai tt (ai tt tt)) tt)) (ai tt (ai (ai tt (ai (ai tt tt) tt)) (ai tt (ai (ai tt (ai rfl Zdy)) tt)))))) tt))
theorem ZiD:LE (H:=H) P K 62001 (fun o rd vs h c df=>match vs with | [t2,t3,t4,t5,t7,t8,t9,t10,t11]=>Z6V o rd t2 t3 t4 t5 t7 t8 t9 t10 t11 h c df | _=>none):=by
 intro lin b nt hk
 rw [Zdz] at hk
 cases hk
 refine ⟨Zjh,fun o rd vs h c df q e=>?_⟩
 dsimp only at e
 split at e
 · exact (ZaR o rd _ _ _ _ _ _ _ _ _ h c df).trans e
 · cases e
theorem Zji:Z09 K 135 Z2S:=(ai (ai tt (ai tt tt)) (ai (ai tt (ai (ai tt (ai rfl Zdz)) tt)) tt))
theorem ZiE:LE (H:=H) P K 62000 (fun o rd vs h c df=>match vs with | [t2,t3,t4,t5,t7,t8,t9]=>Z6W o rd t2 t3 t4 t5 t7 t8 t9 h c df | _=>none):=by
 intro lin b nt hk
 rw [ZdA] at hk
 cases hk
 refine ⟨Zji,fun o rd vs h c df q e=>?_⟩
 dsimp only at e
 split at e
 · exact (ZaS o rd _ _ _ _ _ _ _ h c df).trans e
 · cases e
theorem ck_62:Z09 K Zfw.nt Zfw.code:=(ai tt (ai (ai tt (ai (ai tt tt) tt)) (ai tt (ai (ai tt (ai (ai tt tt) tt)) (ai tt (ai (ai tt (ai (ai tt tt) tt)) (ai tt (ai tt (ai (ai tt (ai rfl ZdA)) (ai (ai tt (ai (ai tt tt) tt)) (ai (ai tt (ai (ai tt tt) tt)) (ai tt tt))))))))))))
theorem fe_62:FE (H:=H) P bk K 62 (fun o vs h c=>match vs with | [t0]=>ZmE o t0 h c | _=>none):=by
 refine ⟨Zfw,bk_62,rfl,ck_62,fun o vs h c r e=>?_⟩
 dsimp only at e
 split at e
 · exact ⟨rfl,(Zke o _ h c).trans e⟩
 · cases e
theorem ck_63:Z09 K ZcB.nt ZcB.code:=(ai tt (ai tt tt))
theorem fe_63:FE (H:=H) P bk K 63 (fun o vs h c=>match vs with | [t0]=>Zhf o t0 h c | _=>none):=by
 refine ⟨ZcB,bk_63,rfl,ck_63,fun o vs h c r e=>?_⟩
 dsimp only at e
 split at e
 · exact ⟨rfl,(Zed o _ h c).trans e⟩
 · cases e
theorem Zjf:Z09 K 16 Z2P:=(ai tt (ai (ai tt tt) (ai (ai tt tt) tt)))
theorem ZiB:LE (H:=H) P K 64000 (fun o rd vs h c df=>match vs with | [t2,t3,t6,t7]=>Z21 o rd t2 t3 t6 t7 h c df | _=>none):=by
 intro lin b nt hk
 rw [Zdx] at hk
 cases hk
 refine ⟨Zjf,fun o rd vs h c df q e=>?_⟩
 dsimp only at e
 split at e
 · exact (Z4t o rd _ _ _ _ h c df).trans e
 · cases e
theorem ck_64:Z09 K ZcA.nt ZcA.code:=(ai tt (ai tt (ai (ai tt (ai rfl Zdx)) (ai tt tt))))
theorem fe_64:FE (H:=H) P bk K 64 (fun o vs h c=>match vs with | [t0]=>Zhe o t0 h c | _=>none):=by
 refine ⟨ZcA,bk_64,rfl,ck_64,fun o vs h c r e=>?_⟩
 dsimp only at e
 split at e
 · exact ⟨rfl,(Zec o _ h c).trans e⟩
 · cases e
theorem Zjd:Z09 K 90 Z2N:=(ai tt (ai (ai tt tt) (ai (ai tt (ai (ai tt (ai tt tt)) (ai tt (ai tt (ai (ai tt tt) tt))))) tt)))
theorem Ziz:LE (H:=H) P K 65001 (fun o rd vs h c df=>match vs with | [t0,t1,t4,t5,t6,t7,t9,t23,t24,t25,t29]=>Z6S o rd t0 t1 t4 t5 t6 t7 t9 t23 t24 t25 t29 h c df | _=>none):=by
 intro lin b nt hk
 rw [Zdv] at hk
 cases hk
 refine ⟨Zjd,fun o rd vs h c df q e=>?_⟩
 dsimp only at e
 split at e
 · exact (ZaN o rd _ _ _ _ _ _ _ _ _ _ _ h c df).trans e
 · cases e
theorem Zje:Z09 K 90 Z2O:=(ai tt (ai (ai tt tt) (ai (ai tt (ai tt (ai rfl Zdv))) tt)))
theorem ZiA:LE (H:=H) P K 65000 (fun o rd vs h c df=>match vs with | [t0,t1,t4,t5,t6,t7,t23,t24,t25]=>Z6T o rd t0 t1 t4 t5 t6 t7 t23 t24 t25 h c df | _=>none):=by
 intro lin b nt hk
 rw [Zdw] at hk
 cases hk
 refine ⟨Zje,fun o rd vs h c df q e=>?_⟩
 dsimp only at e
 split at e
 · exact (ZaO o rd _ _ _ _ _ _ _ _ _ h c df).trans e
 · cases e
theorem ck_65:Z09 K Zfq.nt Zfq.code:=(ai tt (ai tt (ai tt (ai tt (ai (ai tt (ai rfl Zdw)) (ai tt (ai tt (ai tt (ai tt tt)))))))))
theorem fe_65:FE (H:=H) P bk K 65 (fun o vs h c=>match vs with | [t0,t1]=>ZmC o t0 t1 h c | _=>none):=by
 refine ⟨Zfq,bk_65,rfl,ck_65,fun o vs h c r e=>?_⟩
 dsimp only at e
 split at e
 · exact ⟨rfl,(Zkd o _ _ h c).trans e⟩
 · cases e
theorem Zjc:Z09 K 21 Z2M:=(ai tt (ai (ai tt tt) (ai (ai tt tt) tt)))
theorem Ziy:LE (H:=H) P K 66000 (fun o rd vs h c df=>match vs with | [t2,t3,t10,t11]=>Z3V o rd t2 t3 t10 t11 h c df | _=>none):=by
 intro lin b nt hk
 rw [Zdu] at hk
 cases hk
 refine ⟨Zjc,fun o rd vs h c df q e=>?_⟩
 dsimp only at e
 split at e
 · exact (Z4s o rd _ _ _ _ h c df).trans e
 · cases e
theorem ck_66:Z09 K Zcz.nt Zcz.code:=(ai tt (ai tt (ai (ai tt (ai rfl Zdu)) (ai tt tt))))
theorem fe_66:FE (H:=H) P bk K 66 (fun o vs h c=>match vs with | [t0]=>Zhd o t0 h c | _=>none):=by
 refine ⟨Zcz,bk_66,rfl,ck_66,fun o vs h c r e=>?_⟩
 dsimp only at e
 split at e
 · exact ⟨rfl,(Zeb o _ h c).trans e⟩
 · cases e
theorem ck_67:Z09 K Zcy.nt Zcy.code:=(ai tt tt)
theorem fe_67:FE (H:=H) P bk K 67 (fun o vs h c=>match vs with | [t0,t1,t2]=>Zfn o t0 t1 t2 h c | _=>none):=by
 refine ⟨Zcy,bk_67,rfl,ck_67,fun o vs h c r e=>?_⟩
 dsimp only at e
 split at e
 · exact ⟨rfl,(Zea o _ _ _ h c).trans e⟩
 · cases e
theorem Zjb:Z09 K 41 Z2L:=(ai (ai tt (ai tt tt)) (ai tt tt))
theorem Zix:LE (H:=H) P K 68000 (fun o rd vs h c df=>match vs with | [t0,t1]=>Z5e o rd t0 t1 h c df | _=>none):=by
 intro lin b nt hk
 rw [Zdt] at hk
 cases hk
 refine ⟨Zjb,fun o rd vs h c df q e=>?_⟩
 dsimp only at e
 split at e
 · exact (Z66 o rd _ _ h c df).trans e
 · cases e
theorem ck_68:Z09 K Zcx.nt Zcx.code:=(ai tt (ai (ai rfl Zdt) (ai tt tt)))
theorem fe_68:FE (H:=H) P bk K 68 (fun o vs h c=>match vs with | [t0,t1]=>Zfm o t0 t1 h c | _=>none):=by
 refine ⟨Zcx,bk_68,rfl,ck_68,fun o vs h c r e=>?_⟩
 dsimp only at e
 split at e
 · exact ⟨rfl,(Ze9 o _ _ h c).trans e⟩
 · cases e
theorem ck_69:Z09 K Zfk.nt Zfk.code:=(ai tt (ai tt tt))
theorem fe_69:FE (H:=H) P bk K 69 (fun o vs h c=>match vs with | [t0]=>ZmA o t0 h c | _=>none):=by
 refine ⟨Zfk,bk_69,rfl,ck_69,fun o vs h c r e=>?_⟩
 dsimp only at e
 split at e
 · exact ⟨rfl,(Zkc o _ h c).trans e⟩
 · cases e
theorem ck_70:Z09 K Zfj.nt Zfj.code:=(ai tt (ai tt tt))
theorem fe_70:FE (H:=H) P bk K 70 (fun o vs h c=>match vs with | [t0]=>Zmy o t0 h c | _=>none):=by
 refine ⟨Zfj,bk_70,rfl,ck_70,fun o vs h c r e=>?_⟩
 dsimp only at e
 split at e
 · exact ⟨rfl,(Zkb o _ h c).trans e⟩
 · cases e
theorem ck_71:Z09 K Zfi.nt Zfi.code:=(ai tt (ai tt tt))
theorem fe_71:FE (H:=H) P bk K 71 (fun o vs h c=>match vs with | [t0]=>Zmw o t0 h c | _=>none):=by
 refine ⟨Zfi,bk_71,rfl,ck_71,fun o vs h c r e=>?_⟩
 dsimp only at e
 split at e
 · exact ⟨rfl,(Zka o _ h c).trans e⟩
 · cases e
theorem ck_72:Z09 K Zfh.nt Zfh.code:=(ai tt (ai tt tt))
theorem fe_72:FE (H:=H) P bk K 72 (fun o vs h c=>match vs with | [t0]=>Zmu o t0 h c | _=>none):=by
 refine ⟨Zfh,bk_72,rfl,ck_72,fun o vs h c r e=>?_⟩
 dsimp only at e
 split at e
 · exact ⟨rfl,(Zk9 o _ h c).trans e⟩
 · cases e
theorem Zja:Z09 K 43 Z2K:=(ai (ai tt (ai tt tt)) (ai (ai tt (ai (ai tt (ai tt tt)) (ai tt (ai (ai tt tt) tt)))) tt))
theorem Ziw:LE (H:=H) P K 83000 (fun o rd vs h c df=>match vs with | [t0,t3,t4,t5]=>Z6M o rd t0 t3 t4 t5 h c df | _=>none):=by
 intro lin b nt hk
 rw [Zds] at hk
 cases hk
 refine ⟨Zja,fun o rd vs h c df q e=>?_⟩
 dsimp only at e
 split at e
 · exact (ZaK o rd _ _ _ _ h c df).trans e
 · cases e
theorem ck_83:Z09 K Zff.nt Zff.code:=(ai tt (ai tt (ai tt (ai (ai tt (ai rfl Zds)) (ai tt tt)))))
theorem fe_83:FE (H:=H) P bk K 83 (fun o vs h c=>match vs with | [t0]=>Zmo o t0 h c | _=>none):=by
 refine ⟨Zff,bk_83,rfl,ck_83,fun o vs h c r e=>?_⟩
 dsimp only at e
 split at e
 · exact ⟨rfl,(ZjX o _ h c).trans e⟩
 · cases e
theorem Zj9:Z09 K 51 Z2J:=(ai (ai tt (ai tt tt)) (ai (ai (ai tt (ai (ai tt tt) tt)) tt) tt))
theorem Ziv:LE (H:=H) P K 84000 (fun o rd vs h c df=>match vs with | [t0,t2,t3,t4,t5]=>Z6L o rd t0 t2 t3 t4 t5 h c df | _=>none):=by
 intro lin b nt hk
 rw [Zdr] at hk
 cases hk
 refine ⟨Zj9,fun o rd vs h c df q e=>?_⟩
 dsimp only at e
 split at e
 · exact (ZaJ o rd _ _ _ _ _ h c df).trans e
 · cases e
theorem ck_84:Z09 K Zfd.nt Zfd.code:=(ai tt (ai (ai tt (ai (ai tt tt) tt)) (ai tt (ai (ai tt (ai rfl Zdr)) (ai tt tt)))))
theorem fe_84:FE (H:=H) P bk K 84 (fun o vs h c=>match vs with | [t0]=>Zmn o t0 h c | _=>none):=by
 refine ⟨Zfd,bk_84,rfl,ck_84,fun o vs h c r e=>?_⟩
 dsimp only at e
 split at e
 · exact ⟨rfl,(ZjW o _ h c).trans e⟩
 · cases e
theorem Zj7:Z09 K 30 Z2H:=(ai tt (ai (ai tt tt) (ai (ai tt (ai tt (ai tt tt))) tt)))
theorem Zit:LE (H:=H) P K 85001 (fun o rd vs h c df=>match vs with | [t0,t1,t3,t8,t9,t16,t17]=>Z1H o rd t0 t1 t3 t8 t9 t16 t17 h c df | _=>none):=by
 intro lin b nt hk
 rw [Zdp] at hk
 cases hk
 refine ⟨Zj7,fun o rd vs h c df q e=>?_⟩
 dsimp only at e
 split at e
 · exact (Z4p o rd _ _ _ _ _ _ _ h c df).trans e
 · cases e
theorem Zj8:Z09 K 30 Z2I:=(ai tt (ai (ai tt tt) (ai (ai tt (ai tt (ai rfl Zdp))) tt)))
theorem Ziu:LE (H:=H) P K 85000 (fun o rd vs h c df=>match vs with | [t0,t1,t8,t9]=>Z1I o rd t0 t1 t8 t9 h c df | _=>none):=by
 intro lin b nt hk
 rw [Zdq] at hk
 cases hk
 refine ⟨Zj8,fun o rd vs h c df q e=>?_⟩
 dsimp only at e
 split at e
 · exact (Z4q o rd _ _ _ _ h c df).trans e
 · cases e
theorem ck_85:Z09 K Zcw.nt Zcw.code:=(ai tt (ai rfl Zdq))
theorem fe_85:FE (H:=H) P bk K 85 (fun o vs h c=>match vs with | [t0,t1]=>Zf9 o t0 t1 h c | _=>none):=by
 refine ⟨Zcw,bk_85,rfl,ck_85,fun o vs h c r e=>?_⟩
 dsimp only at e
 split at e
 · exact ⟨rfl,(Ze8 o _ _ h c).trans e⟩
 · cases e
theorem Zj4:Z09 K 100 Z2E:=(ai tt (ai (ai tt tt) (ai (ai tt (ai (ai tt (ai tt tt)) (ai tt (ai tt (ai (ai tt tt) (ai tt (ai (ai tt tt) tt))))))) tt)))
theorem Ziq:LE (H:=H) P K 86002 (fun o rd vs h c df=>match vs with | [t0,t2,t3,t5,t6,t7,t18,t19,t50,t51]=>Z6I o rd t0 t2 t3 t5 t6 t7 t18 t19 t50 t51 h c df | _=>none):=by
 intro lin b nt hk
 rw [Zdm] at hk
 cases hk
 refine ⟨Zj4,fun o rd vs h c df q e=>?_⟩
 dsimp only at e
 split at e
 · exact (ZaG o rd _ _ _ _ _ _ _ _ _ _ h c df).trans e
 · cases e
theorem Zj5:Z09 K 100 Z2F:=(ai (ai tt (ai tt tt)) (ai (ai tt (ai tt (ai rfl Zdm))) tt))
theorem Zir:LE (H:=H) P K 86001 (fun o rd vs h c df=>match vs with | [t0,t2,t3,t5,t6,t18,t19]=>Z6J o rd t0 t2 t3 t5 t6 t18 t19 h c df | _=>none):=by
 intro lin b nt hk
 rw [Zdn] at hk
 cases hk
 refine ⟨Zj5,fun o rd vs h c df q e=>?_⟩
 dsimp only at e
 split at e
 · exact (ZaH o rd _ _ _ _ _ _ _ h c df).trans e
 · cases e
theorem Zj6:Z09 K 100 Z2G:=(ai tt (ai (ai tt tt) (ai (ai tt (ai (ai tt (ai tt tt)) (ai tt (ai tt (ai tt (ai rfl Zdn)))))) tt)))
theorem Zis:LE (H:=H) P K 86000 (fun o rd vs h c df=>match vs with | [t0,t2,t3,t18,t19]=>Z6K o rd t0 t2 t3 t18 t19 h c df | _=>none):=by
 intro lin b nt hk
 rw [Zdo] at hk
 cases hk
 refine ⟨Zj6,fun o rd vs h c df q e=>?_⟩
 dsimp only at e
 split at e
 · exact (ZaI o rd _ _ _ _ _ h c df).trans e
 · cases e
theorem ck_86:Z09 K Zf8.nt Zf8.code:=(ai tt (ai tt (ai (ai tt (ai rfl Zdo)) (ai tt tt))))
theorem fe_86:FE (H:=H) P bk K 86 (fun o vs h c=>match vs with | [t0]=>Zmm o t0 h c | _=>none):=by
 refine ⟨Zf8,bk_86,rfl,ck_86,fun o vs h c r e=>?_⟩
 dsimp only at e
 split at e
 · exact ⟨rfl,(ZjV o _ h c).trans e⟩
 · cases e
theorem ck_91:Z09 K Zf4.nt Zf4.code:=(ai tt (ai (ai tt (ai (ai tt tt) tt)) (ai tt tt)))
theorem fe_91:FE (H:=H) P bk K 91 (fun o vs h c=>match vs with | [t0]=>Zmh o t0 h c | _=>none):=by
 refine ⟨Zf4,bk_91,rfl,ck_91,fun o vs h c r e=>?_⟩
 dsimp only at e
 split at e
 · exact ⟨rfl,(ZjQ o _ h c).trans e⟩
 · cases e
theorem Zj2:Z09 K 25 Z2C:=(ai tt (ai (ai tt tt) (ai (ai tt (ai tt (ai tt tt))) tt)))
theorem Zio:LE (H:=H) P K 92001 (fun o rd vs h c df=>match vs with | [t1,t3,t4,t6,t9,t10]=>Z6F o rd t1 t3 t4 t6 t9 t10 h c df | _=>none):=by
 intro lin b nt hk
 rw [Zdk] at hk
 cases hk
 refine ⟨Zj2,fun o rd vs h c df q e=>?_⟩
 dsimp only at e
 split at e
 · exact (ZaB o rd _ _ _ _ _ _ h c df).trans e
 · cases e
theorem Zj3:Z09 K 25 Z2D:=(ai tt (ai (ai tt tt) (ai (ai tt (ai tt (ai rfl Zdk))) tt)))
theorem Zip:LE (H:=H) P K 92000 (fun o rd vs h c df=>match vs with | [t1,t3,t6]=>Z6G o rd t1 t3 t6 h c df | _=>none):=by
 intro lin b nt hk
 rw [Zdl] at hk
 cases hk
 refine ⟨Zj3,fun o rd vs h c df q e=>?_⟩
 dsimp only at e
 split at e
 · exact (ZaC o rd _ _ _ h c df).trans e
 · cases e
theorem ck_92:Z09 K Zf3.nt Zf3.code:=(ai tt (ai tt (ai (ai tt (ai rfl Zdl)) (ai tt tt))))
theorem fe_92:FE (H:=H) P bk K 92 (fun o vs h c=>match vs with | [t0]=>Zmg o t0 h c | _=>none):=by
 refine ⟨Zf3,bk_92,rfl,ck_92,fun o vs h c r e=>?_⟩
 dsimp only at e
 split at e
 · exact ⟨rfl,(ZjP o _ h c).trans e⟩
 · cases e
noncomputable def tbF:BT (Orc H->List Value->H->Nat->Option (Rt H)):=(.node 61 (fun o vs h c=>match vs with | [t0,t1]=>Zhg o t0 t1 h c | _=>none) (.node 40 (fun o vs h c=>match vs with | [t0]=>Zhn o t0 h c | _=>none) (.node 16 (fun o vs h c=>match vs with | [t0,t1]=>ZmV o t0 t1 h c | _=>none) (.node 13 (fun o vs h c=>match vs with | [t0]=>ZmW o t0 h c | _=>none) (.node 11 (fun o vs h c=>match vs with | [t0]=>ZmX o t0 h c | _=>none) (.node 10 (fun o vs h c=>match vs with | []=>ZmY o h c | _=>none) .leaf .leaf) .leaf) (.node 14 (fun o vs h c=>match vs with | [t0]=>Zhq o t0 h c | _=>none) .leaf .leaf)) (.node 38 (fun o vs h c=>match vs with | [t0]=>Zho o t0 h c | _=>none) (.node 37 (fun o vs h c=>match vs with | []=>ZmP o h c | _=>none) (.node 27 (fun o vs h c=>match vs with | [t0,t1]=>Zhp o t0 t1 h c | _=>none) .leaf .leaf) .leaf) (.node 39 (fun o vs h c=>match vs with | [t0]=>ZmO o t0 h c | _=>none) .leaf .leaf))) (.node 45 (fun o vs h c=>match vs with | [t0]=>Zhk o t0 h c | _=>none) (.node 43 (fun o vs h c=>match vs with | []=>ZmM o h c | _=>none) (.node 42 (fun o vs h c=>match vs with | [t0]=>ZmN o t0 h c | _=>none) (.node 41 (fun o vs h c=>match vs with | [t0]=>Zhm o t0 h c | _=>none) .leaf .leaf) .leaf) (.node 44 (fun o vs h c=>match vs with | [t0]=>Zhl o t0 h c | _=>none) .leaf .leaf)) (.node 56 (fun o vs h c=>match vs with | [t0]=>Zhi o t0 h c | _=>none) (.node 54 (fun o vs h c=>match vs with | []=>Zhj o h c | _=>none) .leaf .leaf) (.node 60 (fun o vs h c=>match vs with | [t0,t1,t2]=>Zhh o t0 t1 t2 h c | _=>none) .leaf .leaf)))) (.node 70 (fun o vs h c=>match vs with | [t0]=>Zmy o t0 h c | _=>none) (.node 66 (fun o vs h c=>match vs with | [t0]=>Zhd o t0 h c | _=>none) (.node 64 (fun o vs h c=>match vs with | [t0]=>Zhe o t0 h c | _=>none) (.node 63 (fun o vs h c=>match vs with | [t0]=>Zhf o t0 h c | _=>none) (.node 62 (fun o vs h c=>match vs with | [t0]=>ZmE o t0 h c | _=>none) .leaf .leaf) .leaf) (.node 65 (fun o vs h c=>match vs with | [t0,t1]=>ZmC o t0 t1 h c | _=>none) .leaf .leaf)) (.node 68 (fun o vs h c=>match vs with | [t0,t1]=>Zfm o t0 t1 h c | _=>none) (.node 67 (fun o vs h c=>match vs with | [t0,t1,t2]=>Zfn o t0 t1 t2 h c | _=>none) .leaf .leaf) (.node 69 (fun o vs h c=>match vs with | [t0]=>ZmA o t0 h c | _=>none) .leaf .leaf))) (.node 85 (fun o vs h c=>match vs with | [t0,t1]=>Zf9 o t0 t1 h c | _=>none) (.node 83 (fun o vs h c=>match vs with | [t0]=>Zmo o t0 h c | _=>none) (.node 72 (fun o vs h c=>match vs with | [t0]=>Zmu o t0 h c | _=>none) (.node 71 (fun o vs h c=>match vs with | [t0]=>Zmw o t0 h c | _=>none) .leaf .leaf) .leaf) (.node 84 (fun o vs h c=>match vs with | [t0]=>Zmn o t0 h c | _=>none) .leaf .leaf)) (.node 91 (fun o vs h c=>match vs with | [t0]=>Zmh o t0 h c | _=>none) (.node 86 (fun o vs h c=>match vs with | [t0]=>Zmm o t0 h c | _=>none) .leaf .leaf) (.node 92 (fun o vs h c=>match vs with | [t0]=>Zmg o t0 h c | _=>none) .leaf .leaf)))))
noncomputable def tbL:BT (Orc H->Option Nat->List Value->H->Nat->List Nat->Option (Rt H)):=(.node 60000 (fun o rd vs h c df=>match vs with | [t1,t2,t7,t22,t23]=>Z3Y o rd t1 t2 t7 t22 t23 h c df | _=>none) (.node 40002 (fun o rd vs h c df=>match vs with | [t4,t5,t7,t8,t9,t35,t36,t37,t42,t43,t68]=>Z3a o rd t4 t5 t7 t8 t9 t35 t36 t37 t42 t43 t68 h c df | _=>none) (.node 39000 (fun o rd vs h c df=>match vs with | [t2,t3,t4,t5,t6,t8,t10,t12,t59,t60]=>Z79 o rd t2 t3 t4 t5 t6 t8 t10 t12 t59 t60 h c df | _=>none) (.node 14001 (fun o rd vs h c df=>match vs with | [t1,t2,t3,t4,t5]=>Z1K o rd t1 t2 t3 t4 t5 h c df | _=>none) (.node 14000 (fun o rd vs h c df=>match vs with | [t1,t2,t3,t4]=>Z1c o rd t1 t2 t3 t4 h c df | _=>none) (.node 13000 (fun o rd vs h c df=>match vs with | [t2,t3,t4,t12,t13]=>Z7o o rd t2 t3 t4 t12 t13 h c df | _=>none) .leaf .leaf) .leaf) (.node 27000 (fun o rd vs h c df=>match vs with | [t0,t1,t4,t7,t8]=>Z48 o rd t0 t1 t4 t7 t8 h c df | _=>none) (.node 16000 (fun o rd vs h c df=>match vs with | [t0,t1,t4,t5]=>Z7n o rd t0 t1 t4 t5 h c df | _=>none) .leaf .leaf) .leaf)) (.node 40000 (fun o rd vs h c df=>match vs with | [t4,t35,t36,t37]=>Z46 o rd t4 t35 t36 t37 h c df | _=>none) (.node 39002 (fun o rd vs h c df=>match vs with | [t2,t3,t4,t6,t12,t155,t156]=>Z77 o rd t2 t3 t4 t6 t12 t155 t156 h c df | _=>none) (.node 39001 (fun o rd vs h c df=>match vs with | [t2,t3,t4,t5,t6,t8,t10,t12,t13,t59,t60,t105,t106]=>Z78 o rd t2 t3 t4 t5 t6 t8 t10 t12 t13 t59 t60 t105 t106 h c df | _=>none) .leaf .leaf) .leaf) (.node 40001 (fun o rd vs h c df=>match vs with | [t4,t5,t35,t36,t37,t42,t43]=>Z3b o rd t4 t5 t35 t36 t37 t42 t43 h c df | _=>none) .leaf .leaf))) (.node 42002 (fun o rd vs h c df=>match vs with | [t2,t3,t4,t39,t40,t41]=>Z74 o rd t2 t3 t4 t39 t40 t41 h c df | _=>none) (.node 42000 (fun o rd vs h c df=>match vs with | [t2,t3,t4,t18,t19,t20]=>Z76 o rd t2 t3 t4 t18 t19 t20 h c df | _=>none) (.node 41000 (fun o rd vs h c df=>match vs with | [t0,t4,t5,t15,t16]=>Z45 o rd t0 t4 t5 t15 t16 h c df | _=>none) (.node 40003 (fun o rd vs h c df=>match vs with | [t4,t5,t7,t8,t9,t10,t35,t36,t37,t42,t43,t68,t90]=>Z39 o rd t4 t5 t7 t8 t9 t10 t35 t36 t37 t42 t43 t68 t90 h c df | _=>none) .leaf .leaf) .leaf) (.node 42001 (fun o rd vs h c df=>match vs with | [t2,t3,t4,t18,t19,t20,t24,t25]=>Z75 o rd t2 t3 t4 t18 t19 t20 t24 t25 h c df | _=>none) .leaf .leaf)) (.node 45000 (fun o rd vs h c df=>match vs with | [t1,t2,t3,t4]=>Z22 o rd t1 t2 t3 t4 h c df | _=>none) (.node 44000 (fun o rd vs h c df=>match vs with | [t1,t2,t3,t4]=>Z1b o rd t1 t2 t3 t4 h c df | _=>none) (.node 42003 (fun o rd vs h c df=>match vs with | [t2,t4,t53,t54,t55]=>Z73 o rd t2 t4 t53 t54 t55 h c df | _=>none) .leaf .leaf) .leaf) (.node 56000 (fun o rd vs h c df=>match vs with | [t2,t3,t6,t7]=>Z1J o rd t2 t3 t6 t7 h c df | _=>none) .leaf .leaf)))) (.node 68000 (fun o rd vs h c df=>match vs with | [t0,t1]=>Z5e o rd t0 t1 h c df | _=>none) (.node 62002 (fun o rd vs h c df=>match vs with | [t2,t3,t4,t5,t7,t8,t9,t10,t11,t14]=>Z6U o rd t2 t3 t4 t5 t7 t8 t9 t10 t11 t14 h c df | _=>none) (.node 62000 (fun o rd vs h c df=>match vs with | [t2,t3,t4,t5,t7,t8,t9]=>Z6W o rd t2 t3 t4 t5 t7 t8 t9 h c df | _=>none) (.node 61000 (fun o rd vs h c df=>match vs with | [t0,t3,t4,t5,t17,t18]=>Z2U o rd t0 t3 t4 t5 t17 t18 h c df | _=>none) (.node 60001 (fun o rd vs h c df=>match vs with | [t1,t2,t7,t8,t22,t23,t26]=>Z3X o rd t1 t2 t7 t8 t22 t23 t26 h c df | _=>none) .leaf .leaf) .leaf) (.node 62001 (fun o rd vs h c df=>match vs with | [t2,t3,t4,t5,t7,t8,t9,t10,t11]=>Z6V o rd t2 t3 t4 t5 t7 t8 t9 t10 t11 h c df | _=>none) .leaf .leaf)) (.node 65001 (fun o rd vs h c df=>match vs with | [t0,t1,t4,t5,t6,t7,t9,t23,t24,t25,t29]=>Z6S o rd t0 t1 t4 t5 t6 t7 t9 t23 t24 t25 t29 h c df | _=>none) (.node 65000 (fun o rd vs h c df=>match vs with | [t0,t1,t4,t5,t6,t7,t23,t24,t25]=>Z6T o rd t0 t1 t4 t5 t6 t7 t23 t24 t25 h c df | _=>none) (.node 64000 (fun o rd vs h c df=>match vs with | [t2,t3,t6,t7]=>Z21 o rd t2 t3 t6 t7 h c df | _=>none) .leaf .leaf) .leaf) (.node 66000 (fun o rd vs h c df=>match vs with | [t2,t3,t10,t11]=>Z3V o rd t2 t3 t10 t11 h c df | _=>none) .leaf .leaf))) (.node 86000 (fun o rd vs h c df=>match vs with | [t0,t2,t3,t18,t19]=>Z6K o rd t0 t2 t3 t18 t19 h c df | _=>none) (.node 85000 (fun o rd vs h c df=>match vs with | [t0,t1,t8,t9]=>Z1I o rd t0 t1 t8 t9 h c df | _=>none) (.node 84000 (fun o rd vs h c df=>match vs with | [t0,t2,t3,t4,t5]=>Z6L o rd t0 t2 t3 t4 t5 h c df | _=>none) (.node 83000 (fun o rd vs h c df=>match vs with | [t0,t3,t4,t5]=>Z6M o rd t0 t3 t4 t5 h c df | _=>none) .leaf .leaf) .leaf) (.node 85001 (fun o rd vs h c df=>match vs with | [t0,t1,t3,t8,t9,t16,t17]=>Z1H o rd t0 t1 t3 t8 t9 t16 t17 h c df | _=>none) .leaf .leaf)) (.node 92000 (fun o rd vs h c df=>match vs with | [t1,t3,t6]=>Z6G o rd t1 t3 t6 h c df | _=>none) (.node 86002 (fun o rd vs h c df=>match vs with | [t0,t2,t3,t5,t6,t7,t18,t19,t50,t51]=>Z6I o rd t0 t2 t3 t5 t6 t7 t18 t19 t50 t51 h c df | _=>none) (.node 86001 (fun o rd vs h c df=>match vs with | [t0,t2,t3,t5,t6,t18,t19]=>Z6J o rd t0 t2 t3 t5 t6 t18 t19 h c df | _=>none) .leaf .leaf) .leaf) (.node 92001 (fun o rd vs h c df=>match vs with | [t1,t3,t4,t6,t9,t10]=>Z6F o rd t1 t3 t4 t6 t9 t10 h c df | _=>none) .leaf .leaf)))))
noncomputable def tbR:List (Nat × List Nat × (Orc H->Nat->List Value->H->Nat->Option (Rt H))):=[(71,[13,14],(fun o l vs h c=>match vs with | [t13,t14,t1,t2,t3]=>Z3f o l t13 t14 t1 t2 t3 h c | _=>none))]
noncomputable def tab:Tab H:={ F:=fun f=>tbF.look f,L:=fun j=>tbL.look j,R:=fun nt ps=>ZgP nt ps tbR }
theorem tab_ok:TabOK (H:=H) P bk K tab:=⟨fun f F e=>BT.look_all (Q:=FE P bk K) (t:=tbF) (ai fe_61 (ai (ai fe_40 (ai (ai fe_16 (ai (ai fe_13 (ai (ai fe_11 (ai (ai fe_10 (ai tt tt)) tt)) (ai fe_14 (ai tt tt)))) (ai fe_38 (ai (ai fe_37 (ai (ai fe_27 (ai tt tt)) tt)) (ai fe_39 (ai tt tt)))))) (ai fe_45 (ai (ai fe_43 (ai (ai fe_42 (ai (ai fe_41 (ai tt tt)) tt)) (ai fe_44 (ai tt tt)))) (ai fe_56 (ai (ai fe_54 (ai tt tt)) (ai fe_60 (ai tt tt)))))))) (ai fe_70 (ai (ai fe_66 (ai (ai fe_64 (ai (ai fe_63 (ai (ai fe_62 (ai tt tt)) tt)) (ai fe_65 (ai tt tt)))) (ai fe_68 (ai (ai fe_67 (ai tt tt)) (ai fe_69 (ai tt tt)))))) (ai fe_85 (ai (ai fe_83 (ai (ai fe_72 (ai (ai fe_71 (ai tt tt)) tt)) (ai fe_84 (ai tt tt)))) (ai fe_91 (ai (ai fe_86 (ai tt tt)) (ai fe_92 (ai tt tt)))))))))) e,
 fun j B lin b nt e hk=>BT.look_all (Q:=LE P K) (t:=tbL) (ai ZiH (ai (ai ZiR (ai (ai ZiW (ai (ai ZiZ (ai (ai Zj0 (ai (ai Zj1 (ai tt tt)) tt)) (ai ZiX (ai (ai ZiY (ai tt tt)) tt)))) (ai ZiT (ai (ai ZiU (ai (ai ZiV (ai tt tt)) tt)) (ai ZiS (ai tt tt)))))) (ai ZiM (ai (ai ZiO (ai (ai ZiP (ai (ai ZiQ (ai tt tt)) tt)) (ai ZiN (ai tt tt)))) (ai ZiJ (ai (ai ZiK (ai (ai ZiL (ai tt tt)) tt)) (ai ZiI (ai tt tt)))))))) (ai Zix (ai (ai ZiC (ai (ai ZiE (ai (ai ZiF (ai (ai ZiG (ai tt tt)) tt)) (ai ZiD (ai tt tt)))) (ai Ziz (ai (ai ZiA (ai (ai ZiB (ai tt tt)) tt)) (ai Ziy (ai tt tt)))))) (ai Zis (ai (ai Ziu (ai (ai Ziv (ai (ai Ziw (ai tt tt)) tt)) (ai Zit (ai tt tt)))) (ai Zip (ai (ai Ziq (ai (ai Zir (ai tt tt)) tt)) (ai Zio (ai tt tt)))))))))) e lin b nt hk,
 fun nt ps D lin a b e hk=>ZbD (Q:=RE P K) (l:=tbR) (ai Zi5 tt) e lin a b hk⟩
theorem ev_run {n:Nat} {k:Key} {vs:List Value} {h:H} {c:Nat} {df:List Nat} {r:Rt H} (hk:KeyOK K k) (hi:Z5Q K h) (e:evT tab n k vs h c df=some r):run P bk k vs h c df=some r:=(Zeq tab_ok n k vs h c df r hk hi e).1
end Go.Proofs.Ytdodippbpdechaa

namespace Go.Ab
open Go
structure Hid (q:Prop):Prop where
 h:q
theorem Ans.go {β:Type} {x:Option β} {Q:β->Prop} {q:Prop} (k:q) (h:Hid q->Ans x Q:=by
 intro kk
 repeat' (first | ((with_reducible first | refine Ans.bz ?_ | refine Ans.r1 ?_ | refine Ans.pkT ?_ | refine Ans.pkF ?_); try dsimp only [v_zero,v_succ]) | (with_reducible first | refine Ans.btL ?_ | refine Ans.bfL ?_ | refine Ans.gyT ?_ | refine Ans.gyF ?_ | refine Ans.gyG ?_ | refine Ans.bb ?_ | refine Ans.bc ?_ | refine Ans.ba ?_) | ((with_reducible first | refine Ans.lsT ?_ ?_ | refine Ans.leT ?_ ?_ | refine Ans.grT ?_ ?_ | refine Ans.geT ?_ ?_ | refine Ans.eqT ?_ ?_ | refine Ans.neT ?_ ?_); (focus omega)) | ((with_reducible first | refine Ans.lsF ?_ ?_ | refine Ans.leF ?_ ?_ | refine Ans.grF ?_ ?_ | refine Ans.geF ?_ ?_ | refine Ans.eqF ?_ ?_ | refine Ans.neF ?_ ?_); (focus omega)) | (with_reducible first | refine Ans.lsS (fun _=>?_) (fun _=>?_) | refine Ans.leS (fun _=>?_) (fun _=>?_) | refine Ans.grS (fun _=>?_) (fun _=>?_) | refine Ans.geS (fun _=>?_) (fun _=>?_) | refine Ans.eqS (fun _=>?_) (fun _=>?_) | refine Ans.neS (fun _=>?_) (fun _=>?_)) | ((with_reducible first | refine Ans.addN ?_ ?_ | refine Ans.add ?_ ?_ | refine Ans.sub ?_ ?_ | refine Ans.mul ?_ ?_); (focus omega)) | ((with_reducible first | refine Ans.ct ?_ ?_); (focus (simp (disch:=(first | omega | with_reducible assumption | (simp <;> omega) | fail)) [fx]; done))) | ((with_reducible first | refine Ans.cf ?_ ?_); (focus (simp (disch:=(first | omega | with_reducible assumption | (simp <;> omega) | fail)) [fx]; done))) | (refine Ans.step (by simp (disch:=(first | omega | with_reducible assumption | (simp <;> omega) | fail)) [fx,-List.getD_eq_getElem?_getD] <;> rfl) ?_; try dsimp only [v_zero,v_succ]) | fail)
 exact kk.h):Ans x Q:=h ⟨k⟩
theorem Ans.nx0 {o:Orc FH} {k:Key} {Q:Rt FH->Prop} {A h:FH} {c c':Nat} {vs:List Value} {df:List Nat} (e:Ans (o k vs A c df) Q) (h1:Z1l c vs:=by (simp (disch:=(first | omega | with_reducible assumption | (simp <;> omega) | fail)) [fx]; done)) (h2:Z0q c A h:=by (simp (disch:=(first | omega | with_reducible assumption | (simp <;> omega) | fail)) [fx]; done)) :
 Ans (some { e:=.normal,vs:=vs,h:=h,c:=c',df:=df }) (fun q=>Lk o k Q (gcR A c df q)):=Ans.next0 h1 h2 e
theorem Ans.ex0 {o:Orc FH} {k:Key} {Q:Rt FH->Prop} {A h:FH} {c c':Nat} {vs:List Value} {df:List Nat} {i:Nat} (e:Q { e:=.exit i,vs:=vs,h:=A,c:=c,df:=df }) (h1:Z1l c vs:=by (simp (disch:=(first | omega | with_reducible assumption | (simp <;> omega) | fail)) [fx]; done)) (h2:Z0q c A h:=by (simp (disch:=(first | omega | with_reducible assumption | (simp <;> omega) | fail)) [fx]; done)) :
 Ans (some { e:=.exit i,vs:=vs,h:=h,c:=c',df:=df }) (fun q=>Lk o k Q (gcR A c df q)):=Ans.exit0 h1 h2 e
theorem Ans.rt0 {o:Orc FH} {k:Key} {Q:Rt FH->Prop} {A h:FH} {c c':Nat} {vs:List Value} {df:List Nat} (e:Q { e:=.ret,vs:=vs,h:=A,c:=c,df:=df }) (h1:Z1l c vs:=by (simp (disch:=(first | omega | with_reducible assumption | (simp <;> omega) | fail)) [fx]; done)) (h2:Z0q c A h:=by (simp (disch:=(first | omega | with_reducible assumption | (simp <;> omega) | fail)) [fx]; done)) :
 Ans (some { e:=.ret,vs:=vs,h:=h,c:=c',df:=df }) (fun q=>Lk o k Q (gcR A c df q)):=Ans.ret0 h1 h2 e
theorem Ans.nxB {o:Orc FH} {k:Key} {Q:Rt FH->Prop} {A B h:FH} {c c':Nat} {vs:List Value} {df:List Nat} (h3:Z2n c A B) (e:Ans (o k vs B c df) Q) (h1:Z1l c vs:=by (simp (disch:=(first | omega | with_reducible assumption | (simp <;> omega) | fail)) [fx]; done)) (h2:Z0q c B h:=by (simp (disch:=(first | omega | with_reducible assumption | (simp <;> omega) | fail)) [fx]; done)) :
 Ans (some { e:=.normal,vs:=vs,h:=h,c:=c',df:=df }) (fun q=>Lk o k Q (gcR A c df q)):=Ans.nextB e h1 h2 h3
theorem Ans.pu {h h':FH} {c c':Nat} {v w:Value} (hv:w=v:=by first | rfl | (simp (disch:=(first | omega | with_reducible assumption | (simp <;> omega) | fail)) [fx]; done)) (hs:Z0q c h h':=by first | with_reducible assumption | (simp (disch:=(first | omega | with_reducible assumption | (simp <;> omega) | fail)) [fx]; done)) :
 Ans (some { e:=.ret,vs:=[w],h:=h',c:=c',df:=[] }) (Zne h c v):=Ans.pure hv hs
end Go.Ab

namespace Go.Ab
open Go
def p24:List (List Int):=[[0,1,2,3],[0,1,3,2],[0,2,1,3],[0,2,3,1],[0,3,1,2],[0,3,2,1],[1,0,2,3],[1,0,3,2],[1,2,0,3],[1,2,3,0],[1,3,0,2],[1,3,2,0],[2,0,1,3],[2,0,3,1],[2,1,0,3],[2,1,3,0],[2,3,0,1],[2,3,1,0],[3,0,1,2],[3,0,2,1],[3,1,0,2],[3,1,2,0],[3,2,0,1],[3,2,1,0]]
theorem Zao {p:List Int} (hp:p.length=4) (h:Z0y p=true):p ∈ p24:=by
 have hr:=Z1E h
 match p,hp with
 | [a,b,c,d],_ =>
  have ha:=hr a (by simp)
  have hb:=hr b (by simp)
  have hc:=hr c (by simp)
  have hd:=hr d (by simp)
  have:=Zli (Q:=fun a b c d=>!Z0y [(a:Int),(b:Int),(c:Int),(d:Int)] || p24.contains [(a:Int),(b:Int),(c:Int),(d:Int)]) (by kernel_rfl)
   (a:=a.toNat) (b:=b.toNat) (c:=c.toNat) (d:=d.toNat) qO qO qO qO
  have ea:((a.toNat:Nat):Int)=a:=by omega
  have eb:((b.toNat:Nat):Int)=b:=by omega
  have ec:((c.toNat:Nat):Int)=c:=by omega
  have ed:((d.toNat:Nat):Int)=d:=by omega
  rw [ea,eb,ec,ed,h] at this
  simpa using this
theorem ZbT {Q:List Int->Bool} (h:p24.all Q=true) {p:List Int} (hp:p ∈ p24):Q p=true:=List.all_eq_true.1 h p hp
theorem all24' {Q:List Int->List Int->Bool} (h:(p24.all fun p=>p24.all fun q=>Q p q)=true) {p q:List Int} (hp:p ∈ p24) (hq:q ∈ p24):Q p q=true:=List.all_eq_true.1 (List.all_eq_true.1 h p hp) q hq
theorem Z6v {p:List Int} (hp:p ∈ p24):Z0y p=true:=ZbT (Q:=Z0y) (by kernel_rfl) hp
theorem Z4l {p:List Int} (hp:p ∈ p24):p.length=4:=by simpa using ZbT (Q:=fun p=>p.length == 4) (by kernel_rfl) hp
theorem inv24 {p:List Int} (hp:p ∈ p24):inv p ∈ p24:=by simpa using ZbT (Q:=fun p=>p24.contains (inv p)) (by kernel_rfl) hp
theorem Z51 {p q:List Int} (hp:p ∈ p24) (hq:q ∈ p24):Z13 p q ∈ p24:=by simpa using all24' (Q:=fun p q=>p24.contains (Z13 p q)) (by kernel_rfl) hp hq
theorem Ze0 {p:List Int} (hp:p ∈ p24):Z13 (inv p) p=[0,1,2,3]:=by simpa using ZbT (Q:=fun p=>Z13 (inv p) p == [0,1,2,3]) (by kernel_rfl) hp
theorem Zn5 {p:List Int} (hp:p ∈ p24):Z13 p [0,1,2,3]=p:=by simpa using ZbT (Q:=fun p=>Z13 p [0,1,2,3] == p) (by kernel_rfl) hp
theorem Zm9 {p:List Int} (hp:p ∈ p24):Z13 [0,1,2,3] p=p:=by simpa using ZbT (Q:=fun p=>Z13 [0,1,2,3] p == p) (by kernel_rfl) hp
theorem Z3u {p:List Int} (hp:p ∈ p24) {i:Nat} (hi:i<4):0<=p.getD i 0/\p.getD i 0<4:=by
 have:=ZbT (Q:=fun p=>(List.range 4).all fun i=>decide (0<=p.getD i 0) && decide (p.getD i 0<4)) (by kernel_rfl) hp
 rw [List.all_eq_true] at this
 simpa using this i (by simpa using hi)
theorem Z5N {p q:List Int} (hq:q.length=4) {i:Nat} (hi:i<4):(Z13 p q).getD i 0=p.getD (q.getD i 0).toNat 0:=by
 simp only [Z13,List.getD_eq_getElem?_getD,List.getElem?_map]
 rw [List.getElem?_eq_getElem (by omega:i<q.length)]
 simp
theorem Z0Y (p q:List Int):(Z13 p q).length=q.length:=by simp [Z13]
theorem Z5n {p q r:List Int} (hq:q ∈ p24) (hr:r ∈ p24):Z13 (Z13 p q) r=Z13 p (Z13 q r):=by
 have hl:=Z4l hr
 apply List.ext_getElem?
 intro i
 by_cases hi:i<4
 · have e1:=Z5N (p:=Z13 p q) hl hi
   have e2:=Z5N (p:=p) (q:=Z13 q r) (by rw [Z0Y,hl]) hi
   have e3:=Z5N (p:=q) hl hi
   have hg:=Z3u hr hi
   have e4:=Z5N (p:=p) (q:=q) (Z4l hq) (i:=(r.getD i 0).toNat) qO
   have:(Z13 (Z13 p q) r).getD i 0=(Z13 p (Z13 q r)).getD i 0:=by rw [e1,e4,e2,e3]
   rw [List.getElem?_eq_getElem (by rw [Z0Y]; omega),List.getElem?_eq_getElem (by rw [Z0Y,Z0Y]; omega)]
   simp only [List.getD_eq_getElem?_getD] at this
   rw [List.getElem?_eq_getElem (by rw [Z0Y]; omega),List.getElem?_eq_getElem (by rw [Z0Y,Z0Y]; omega)] at this
   simpa using this
 · rw [List.getElem?_eq_none (by rw [Z0Y]; omega),List.getElem?_eq_none (by rw [Z0Y,Z0Y]; omega)]
theorem Z2h {Gl:List Int} {n t f:Nat} (h:Z0n Gl n t f=true) (ht:¬ Z0Q (Z03 Gl t f)<0) :
 Z0Q (Z03 Gl t f)<n/\Z0y (Z0j (Z03 Gl t f))=true /\ ¬ (Z0Q (Z03 Gl t f)=t/\(Z0j (Z03 Gl t f)).getD f 0=f) ∧
  Z03 Gl (Z0Q (Z03 Gl t f)).toNat ((Z0j (Z03 Gl t f)).getD f 0).toNat=(t:Int)::inv (Z0j (Z03 Gl t f)):=by
 unfold Z0n at h
 have h0:Z03 Gl t f ≠ Z6B:=fun e=>ht (by rw [e]; decide)
 simp only [h0,decide_false,Bool.false_or,Bool.and_eq_true,decide_eq_true_eq,Bool.not_eq_true'] at h
 obtain ⟨⟨⟨⟨h1,h2⟩,h3⟩,h4⟩,h5⟩:=h
 refine ⟨h2,h3,fun ⟨a,b⟩=>?_,h5⟩
 rw [decide_eq_true a,decide_eq_true b] at h4
 cases h4
theorem Z3Q {Gl:List Int} {n t f:Nat} (h:Z0A Gl n=true) (ht:t<n) (hf:f<4):Z0n Gl n t f=true:=by
 have:=(Z4S Gl n).1 h (4*t+f) qO
 have e1:(4*t+f) / 4=t:=by omega
 have e2:(4*t+f) % 4=f:=by omega
 rwa [e1,e2] at this
def Zd0 (c0:Nat) (h:FH) (c:Nat) (v:Value) (sz n:Nat) (L:List Int):Prop :=
 L.length=n*sz/\n<=9223372036854775807/\((v = .slice none 0 0/\n=0) ∨
  ∃ i,v = .slice (some ⟨i,0,none⟩) n n/\256*c0<=i/\i<256*c/\h.f i=some (.cells false (some sz) (ints L)))
theorem Zd0.nil (c0:Nat) (h:FH) (c sz:Nat):Zd0 c0 h c (.slice none 0 0) sz 0 []:=⟨by simp,by omega,.inl ⟨rfl,rfl⟩⟩
theorem Zd0.flat {c0:Nat} {h:FH} {c:Nat} {v:Value} {sz n:Nat} {L:List Int} (ha:Zd0 c0 h c v sz n L):Z06 v=true/\v.cells = #[v]:=by
 obtain ⟨_,_,⟨rfl,_⟩ | ⟨i,rfl,_⟩⟩:=ha <;> exact ⟨rfl,rfl⟩
theorem Zd0.sl {c0:Nat} {h:FH} {c:Nat} {v:Value} {sz n:Nat} {L:List Int} (ha:Zd0 c0 h c v sz n L):SlI h c v sz n L:=by
 obtain ⟨h1,h2,⟨rfl,rfl⟩ | ⟨i,rfl,h3,h4,h5⟩⟩:=ha
 · exact ⟨h1,h2,none,0,rfl,.inl ⟨rfl,OkV.sl0 _ _ _⟩⟩
 · refine ⟨h1,h2,some ⟨i,0,none⟩,n,rfl,.inr ⟨i,0,ints L,rfl,h4,⟨false,some sz,h5⟩, ?_⟩⟩
   rw [List.drop_zero,List.take_of_length_le (by simp [h1])]
theorem Zd0.mono {c0:Nat} {h:FH} {c c':Nat} {v:Value} {sz n:Nat} {L:List Int} (hc:c<=c') (ha:Zd0 c0 h c v sz n L):Zd0 c0 h c' v sz n L:=by
 obtain ⟨h1,h2,h3 | ⟨i,rfl,h3,h4,h5⟩⟩:=ha
 · exact ⟨h1,h2,.inl h3⟩
 · exact ⟨h1,h2,.inr ⟨i,rfl,h3,by omega,h5⟩⟩
theorem Zd0.keep {c0:Nat} {h h':FH} {c:Nat} {v:Value} {sz n:Nat} {L:List Int} (hh:∀ i,256*c0<=i->i<256*c->h'.f i=h.f i) (ha:Zd0 c0 h c v sz n L):Zd0 c0 h' c v sz n L:=by
 obtain ⟨h1,h2,h3 | ⟨i,rfl,h3,h4,h5⟩⟩:=ha
 · exact ⟨h1,h2,.inl h3⟩
 · exact ⟨h1,h2,.inr ⟨i,rfl,h3,h4,by rw [hh i h3 h4,h5]⟩⟩
theorem Zd0.app {c0:Nat} {h:FH} {c c':Nat} {v:Value} {sz n:Nat} {L:List Int} (ha:Zd0 c0 h c v sz n L) (X:List Int) (hX:X.length=sz) (hsz:0<sz) (by' b id:Nat) (hb:256*c<=b) (hid:256*c<=id) (hne:b ≠ id) (hc0:c0<=c)
 (hid':id<256*c') (hlim:(n+1)*(by'+1)<=17592186044416) :
 ∃ v' h',Z5o (newB h b (ints X)) id sz by' v (.slice (some ⟨b,0,none⟩) 1 1)=some (v',h')/\Zd0 c0 h' c' v' sz (n+1) (L++X)/\Z0q c0 h h'/\v' = .slice (some ⟨id,0,none⟩) (n+1) (n+1):=by
 obtain ⟨h1,h2,h3⟩:=ha
 have hlim':Nat.ble ((n+1)*(by'+1)) 17592186044416=true:=Nat.ble_eq_true_of_le hlim
 have hsrc:Z0B (newB h b (ints X)) sz (.slice (some ⟨b,0,none⟩) 1 1)=some (ints X,1):=by
  have:Nat.ble (0+1*sz) (ints X).length=true:=Nat.ble_eq_true_of_le (by simp [hX])
  simp only [Z0B,Z0J,Z0k,get_newB_same,Option.bind_some,this,cond_true,List.drop_zero]
  rw [List.take_of_length_le (by simp [hX])]
 have hn1:n+1<=17592186044416:=by
  have:(n+1)*1<=(n+1)*(by'+1):=Nat.mul_le_mul_left _ qO
  omega
 have hcap:Nat.ble (n+1) n=false:=by rw [Bool.eq_false_iff]; intro hh; have:=Nat.le_of_ble_eq_true hh; omega
 rcases h3 with ⟨rfl,rfl⟩ | ⟨i,rfl,h3,h4,h5⟩
 · have hL:L=[]:=List.eq_nil_of_length_eq_zero (by simpa using h1)
   subst hL
   refine ⟨_,HeapC.set (newB h b (ints X)) id (.cells false (some sz) (ints X)), ?_,⟨by simp [hX],by omega,.inr ⟨id,rfl,by omega,hid', ?_⟩⟩, ?_,rfl⟩
   · simp only [Z5o,hsrc,Option.bind_some,appTo,hcap,cond_false,Z1D,hlim',Z0p,Bool.and_self,cond_true,Nat.beq_refl,Nat.zero_add]
   · rw [Z0o,if_pos rfl]; rfl
   · intro j hj
     rw [Z0o,if_neg qO,Z01,if_neg qO]
 · have hbi:i ≠ b:=by omega
   have hg:HeapC.get (newB h b (ints X)) i=some (.cells false (some sz) (ints L)):=by rw [get_newB_ne _ _ _ _ hbi]; exact h5
   have hr:Nat.ble (0+n*sz) (ints L).length=true:=Nat.ble_eq_true_of_le (by simp [h1])
   refine ⟨_,HeapC.set (HeapC.set (newB h b (ints X)) i .dead) id (.cells false (some sz) (((ints L).drop 0).take (n*sz)++ints X)), ?_,⟨?_,by omega,.inr ⟨id,rfl,by omega,hid', ?_⟩⟩, ?_,rfl⟩
   · simp only [Z5o,hsrc,Option.bind_some,appTo,hcap,cond_false,Z1D,hlim',Z0p,Bool.and_self,cond_true,Z0J,Z0k,hg,hr,Nat.beq_refl,Bool.not_false,Bool.and_true]
   · simp [h1,hX,Nat.succ_mul]
   · rw [Z0o,if_pos rfl,List.drop_zero,List.take_of_length_le (by simp [h1]),Z0W]
   · intro j hj
     rw [Z0o,if_neg qO,Z0o,if_neg qO,Z01,if_neg qO]
def rowTo (F:Nat->List Int):Nat->List Int
 | 0=>[]
 | f+1=>rowTo F f++F f
end Go.Ab

namespace Go.Ab
open Go
def ordF (Ord Pm:List Int) (n:Nat):Nat->Nat->List Bool->Bool
 | 0,_,_=>true
 | k+1,i,met=>if Ord.getD i 0<0 ∨ (n:Int)<=Ord.getD i 0 then false else if met.getD (Ord.getD i 0).toNat false=true then false else
  if Z0y (Z3F Pm i)=false then false else ordF Ord Pm n k (i+1) (met.set (Ord.getD i 0).toNat true)
def Znh (Ord Pm:List Int) (a b n:Nat):Bool:=decide (a=n) && decide (b=n) && ordF Ord Pm n n 0 (List.replicate n false)
theorem Z9g {Ord Pm:List Int} {n:Nat}:∀ {k i:Nat} {met:List Bool},ordF Ord Pm n k i met=true -> ∀ j,i<=j->j<i+k->0<=Ord.getD j 0/\Ord.getD j 0<n/\Z0y (Z3F Pm j)=true
 | 0,i,met,h,j,h1,h2=>by omega
 | k+1,i,met,h,j,h1,h2=>by
  unfold ordF at h
  split at h
  · cases h
  split at h
  · cases h
  split at h
  · cases h
  rename_i q1 q2 q3
  by_cases hj:j=i
  · subst hj
    exact ⟨by omega,by omega,by simpa using q3⟩
  · exact Z9g h j qO qO
def backL (Ord:List Int):Nat->Nat->List Int->List Int
 | 0,_,l=>l
 | k+1,i,l=>backL Ord k (i+1) (l.set (Ord.getD i 0).toNat i)
def back (Ord:List Int) (n:Nat):List Int:=backL Ord n 0 (List.replicate n 0)
def rnF (Gl Ord Pm Bk:List Int) (i f:Nat):List Int :=
 if Z0Q (Z03 Gl (Ord.getD i 0).toNat ((Z3F Pm i).getD f 0).toNat)<0 then Z6B else
  Bk.getD (Z0Q (Z03 Gl (Ord.getD i 0).toNat ((Z3F Pm i).getD f 0).toNat)).toNat 0 ::
   Z13 (inv (Z3F Pm (Bk.getD (Z0Q (Z03 Gl (Ord.getD i 0).toNat ((Z3F Pm i).getD f 0).toNat)).toNat 0).toNat))
    (Z13 (Z0j (Z03 Gl (Ord.getD i 0).toNat ((Z3F Pm i).getD f 0).toNat)) (Z3F Pm i))
def rnL (Gl Ord Pm Bk:List Int):Nat->List Int
 | 0=>[]
 | i+1=>rnL Gl Ord Pm Bk i++rowTo (rnF Gl Ord Pm Bk i) 4
structure RnOk (Gl Ord Pm:List Int) (n:Nat):Prop where
 gl:Gl.length=n*20
 ol:Ord.length=n
 pl:Pm.length=n*4
 ok:Z0A Gl n=true
 rng:∀ j,j<n->0<=Ord.getD j 0/\Ord.getD j 0<n/\Z0y (Z3F Pm j)=true
theorem RnOk.p24 {Gl Ord Pm:List Int} {n:Nat} (h:RnOk Gl Ord Pm n) {j:Nat} (hj:j<n):Z3F Pm j ∈ Ab.p24:=Zao (Zai h.pl hj) (h.rng j hj).2.2
def rnE (Gl Ord Pm:List Int) (n a b:Nat):Int:=if n<=1000/\Z0A Gl n=true then (if Znh Ord Pm a b n=true then 0 else 1) else 7
def rnN (Gl Ord Pm:List Int) (n a b:Nat):Nat:=if n<=1000/\Z0A Gl n=true/\Znh Ord Pm a b n=true then n else 0
def rnR (Gl Ord Pm:List Int) (n a b:Nat):List Int:=if n<=1000/\Z0A Gl n=true/\Znh Ord Pm a b n=true then rnL Gl Ord Pm (back Ord n) n else []
theorem Zi7 {Ord Pm:List Int} {a b n:Nat}:Znh Ord Pm a b n=true ↔ a=n/\b=n/\ordF Ord Pm n n 0 (List.replicate n false)=true:=by
 simp [Znh,and_assoc]
theorem RnOk.of {Gl Ord Pm:List Int} {n a b:Nat} (hG:Gl.length=n*20) (hO:Ord.length=a) (hP:Pm.length=b*4) (h2:Z0A Gl n=true) (h3:Znh Ord Pm a b n=true):RnOk Gl Ord Pm n:=by
 obtain ⟨rfl,rfl,h4⟩:=Zi7.1 h3
 exact ⟨hG,hO,hP,h2,fun j hj=>Z9g h4 j qO qO⟩
@[simp] theorem st1_agg (h:FH) (i o:Nat) (cs:List Value) (v:Value) (ho:o<cs.length) (hv:Z06 v=true):stN (newB h i cs) 1 (.pointer (some ⟨i,o,none⟩)) (.agg #[v])=some (newB h i (cs.set o v)):=by
 rw [Z1n h 1 i o cs (.agg #[v]) rfl qO (by simp [Value.cells,hv])]
 show some (newB h i (Z10 cs o [v]))=_
 rw [Z3O cs o _ ho]
@[simp] theorem st1_sl (h:FH) (i o:Nat) (cs:List Value) (a:Option Addr) (n k:Nat) (ho:o<cs.length):stN (newB h i cs) 1 (.pointer (some ⟨i,o,none⟩)) (.slice a n k)=some (newB h i (cs.set o (.slice a n k))):=by
 rw [Z1n h 1 i o cs (.slice a n k) rfl qO rfl]
 show some (newB h i (Z10 cs o [.slice a n k]))=_
 rw [Z3O cs o _ ho]
theorem Z0O {h:FH} {b:Nat} {cs:List Value} {v:Value} (hg:Z0d h b (v::cs)):ldN h 1 (.pointer (some ⟨b,0,none⟩))=some (.agg #[v]):=by
 rw [ldN_holds hg (by simp)]; simp
def Zlj (h:FH) (c:Nat) (Gl Ord Pm:List Int) (n a b:Nat) (r:Rt FH):Prop :=
 r.e = .ret/\r.df=[]/\c<=r.c/\Z0q c h r.h /\ ∃ v,r.vs=[.tuple #[.agg #[v],.int .i64 (rnE Gl Ord Pm n a b)]]/\SlI r.h r.c v 20 (rnN Gl Ord Pm n a b) (rnR Gl Ord Pm n a b)/\(0<rnN Gl Ord Pm n a b->256*c<=Z0w v)
theorem Zlj.callF {o:Orc FH} {g:FuncId} {args:List Value} {h:FH} {c:Nat} {Gl Ord Pm:List Int} {n a b:Nat} (e:Ans (o (.fn g) args h c []) (Zlj h c Gl Ord Pm n a b)) :
 ∃ v h' c',callF o g args h c=some (.tuple #[.agg #[v],.int .i64 (rnE Gl Ord Pm n a b)],h',c')/\c<=c'/\Z0q c h h'/\SlI h' c' v 20 (rnN Gl Ord Pm n a b) (rnR Gl Ord Pm n a b)/\(0<rnN Gl Ord Pm n a b->256*c<=Z0w v):=by
 obtain ⟨r,e1,r1,r2,r3,r4,v,r5,r6,r7⟩:=e
 refine ⟨v,r.h,r.c, ?_,r3,r4,r6,r7⟩
 simp only [Ab.callF,e1,Option.bind_some,r5]
end Go.Ab
