/- Parts of a proof: E AbGo AbPm AbRn. Conditions: none. -/
import Derived.Test.YtdodippbpdechaaM9
import Derived.Test.YtdodippbpdechaaM10
import Derived.Test.YtdodippbpdechaaM11
import Derived.Test.YtdodippbpdechaaM12
import Derived.Test.YtdodippbpdechaaM7
set_option linter.all false
set_option maxRecDepth 100000
set_option maxHeartbeats 4000000
namespace Go.Proofs.Ytdodippbpdechaa
open Go Go.Ab Go.Proofs
variable {H:Type} [HeapC H]
noncomputable def K:LB:={ loop:=fun j=>BT.look ((.node 60000 ([1,2,7,22,23],Z3s,65) (.node 40002 ([4,5,7,8,9,35,36,37,42,43,68],Z3C,152) (.node 39000 ([2,3,4,5,6,8,10,12,59,60],Z3K,172) (.node 14001 ([1,2,3,4,5],Z3R,83) (.node 14000 ([1,2,3,4],Z3S,83) (.node 13000 ([2,3,4,12,13],Z3T,23) .leaf .leaf) .leaf) (.node 27000 ([0,1,4,7,8],Z3N,26) (.node 16000 ([0,1,4,5],Z3O,26) .leaf .leaf) .leaf)) (.node 40000 ([4,35,36,37],Z3E,152) (.node 39002 ([2,3,4,6,12,155,156],Z3I,172) (.node 39001 ([2,3,4,5,6,8,10,12,13,59,60,105,106],Z3J,172) .leaf .leaf) .leaf) (.node 40001 ([4,5,35,36,37,42,43],Z3D,152) .leaf .leaf))) (.node 42002 ([2,3,4,39,40,41],Z3x,90) (.node 42000 ([2,3,4,18,19,20],Z3z,90) (.node 41000 ([0,4,5,15,16],Z3A,41) (.node 40003 ([4,5,7,8,9,10,35,36,37,42,43,68,90],Z3B,152) .leaf .leaf) .leaf) (.node 42001 ([2,3,4,18,19,20,24,25],Z3y,90) .leaf .leaf)) (.node 45000 ([1,2,3,4],Z3u,19) (.node 44000 ([1,2,3,4],Z3v,30) (.node 42003 ([2,4,53,54,55],Z3w,90) .leaf .leaf) .leaf) (.node 56000 ([2,3,6,7],Z3t,23) .leaf .leaf)))) (.node 68000 ([0,1],Z3h,41) (.node 62002 ([2,3,4,5,7,8,9,10,11,14],Z3m,135) (.node 62000 ([2,3,4,5,7,8,9],Z3o,135) (.node 61000 ([0,3,4,5,17,18],Z3p,48) (.node 60001 ([1,2,7,8,22,23,26],Z3r,65) .leaf .leaf) .leaf) (.node 62001 ([2,3,4,5,7,8,9,10,11],Z3n,135) .leaf .leaf)) (.node 65001 ([0,1,4,5,6,7,9,23,24,25,29],Z3j,90) (.node 65000 ([0,1,4,5,6,7,23,24,25],Z3k,90) (.node 64000 ([2,3,6,7],Z3l,16) .leaf .leaf) .leaf) (.node 66000 ([2,3,10,11],Z3i,21) .leaf .leaf))) (.node 86000 ([0,2,3,18,19],Z3a,100) (.node 85000 ([0,1,8,9],Z3d,30) (.node 84000 ([0,2,3,4,5],Z3e,51) (.node 83000 ([0,3,4,5],Z3f,43) .leaf .leaf) .leaf) (.node 85001 ([0,1,3,8,9,16,17],Z3c,30) .leaf .leaf)) (.node 92000 ([1,3,6],Z37,25) (.node 86002 ([0,2,3,5,6,7,18,19,50,51],Z38,100) (.node 86001 ([0,2,3,5,6,18,19],Z39,100) .leaf .leaf) .leaf) (.node 92001 ([1,3,4,6,9,10],Z36,25) .leaf .leaf))))):BT (List Nat × ACode × Nat)) j,rng:=fun nt ps=>Zjd nt ps [(71,[13,14],([1,2,3],Z1C,Z1B))] }
theorem Zgi:K.loop 13000=some ([2,3,4,12,13],Z3T,23):=by kernel_rfl
theorem Zgh:K.loop 14000=some ([1,2,3,4],Z3S,83):=by kernel_rfl
theorem Zgg:K.loop 14001=some ([1,2,3,4,5],Z3R,83):=by kernel_rfl
theorem Zgf:K.loop 16000=some ([0,1,4,5],Z3O,26):=by kernel_rfl
theorem Zge:K.loop 27000=some ([0,1,4,7,8],Z3N,26):=by kernel_rfl
theorem Zgd:K.loop 39000=some ([2,3,4,5,6,8,10,12,59,60],Z3K,172):=by kernel_rfl
theorem Zgc:K.loop 39001=some ([2,3,4,5,6,8,10,12,13,59,60,105,106],Z3J,172):=by kernel_rfl
theorem Zgb:K.loop 39002=some ([2,3,4,6,12,155,156],Z3I,172):=by kernel_rfl
theorem Zga:K.loop 40000=some ([4,35,36,37],Z3E,152):=by kernel_rfl
theorem Zg9:K.loop 40001=some ([4,5,35,36,37,42,43],Z3D,152):=by kernel_rfl
theorem Zg8:K.loop 40002=some ([4,5,7,8,9,35,36,37,42,43,68],Z3C,152):=by kernel_rfl
theorem Zg7:K.loop 40003=some ([4,5,7,8,9,10,35,36,37,42,43,68,90],Z3B,152):=by kernel_rfl
theorem Zg6:K.loop 41000=some ([0,4,5,15,16],Z3A,41):=by kernel_rfl
theorem Zg5:K.loop 42000=some ([2,3,4,18,19,20],Z3z,90):=by kernel_rfl
theorem Zg4:K.loop 42001=some ([2,3,4,18,19,20,24,25],Z3y,90):=by kernel_rfl
theorem Zg3:K.loop 42002=some ([2,3,4,39,40,41],Z3x,90):=by kernel_rfl
theorem Zg2:K.loop 42003=some ([2,4,53,54,55],Z3w,90):=by kernel_rfl
theorem Zg1:K.loop 44000=some ([1,2,3,4],Z3v,30):=by kernel_rfl
theorem Zg0:K.loop 45000=some ([1,2,3,4],Z3u,19):=by kernel_rfl
theorem ZfZ:K.loop 56000=some ([2,3,6,7],Z3t,23):=by kernel_rfl
theorem ZfY:K.loop 60000=some ([1,2,7,22,23],Z3s,65):=by kernel_rfl
theorem ZfX:K.loop 60001=some ([1,2,7,8,22,23,26],Z3r,65):=by kernel_rfl
theorem ZfW:K.loop 61000=some ([0,3,4,5,17,18],Z3p,48):=by kernel_rfl
theorem ZfV:K.loop 62000=some ([2,3,4,5,7,8,9],Z3o,135):=by kernel_rfl
theorem ZfU:K.loop 62001=some ([2,3,4,5,7,8,9,10,11],Z3n,135):=by kernel_rfl
theorem ZfT:K.loop 62002=some ([2,3,4,5,7,8,9,10,11,14],Z3m,135):=by kernel_rfl
theorem ZfS:K.loop 64000=some ([2,3,6,7],Z3l,16):=by kernel_rfl
theorem ZfR:K.loop 65000=some ([0,1,4,5,6,7,23,24,25],Z3k,90):=by kernel_rfl
theorem ZfQ:K.loop 65001=some ([0,1,4,5,6,7,9,23,24,25,29],Z3j,90):=by kernel_rfl
theorem ZfP:K.loop 66000=some ([2,3,10,11],Z3i,21):=by kernel_rfl
theorem ZfO:K.loop 68000=some ([0,1],Z3h,41):=by kernel_rfl
theorem ZfN:K.loop 83000=some ([0,3,4,5],Z3f,43):=by kernel_rfl
theorem ZfM:K.loop 84000=some ([0,2,3,4,5],Z3e,51):=by kernel_rfl
theorem ZfL:K.loop 85000=some ([0,1,8,9],Z3d,30):=by kernel_rfl
theorem ZfK:K.loop 85001=some ([0,1,3,8,9,16,17],Z3c,30):=by kernel_rfl
theorem ZfJ:K.loop 86000=some ([0,2,3,18,19],Z3a,100):=by kernel_rfl
theorem ZfI:K.loop 86001=some ([0,2,3,5,6,18,19],Z39,100):=by kernel_rfl
theorem ZfH:K.loop 86002=some ([0,2,3,5,6,7,18,19,50,51],Z38,100):=by kernel_rfl
theorem ZfG:K.loop 92000=some ([1,3,6],Z37,25):=by kernel_rfl
theorem ZfF:K.loop 92001=some ([1,3,4,6,9,10],Z36,25):=by kernel_rfl
theorem ZfE:K.rng 71 [13,14]=some ([1,2,3],Z1C,Z1B):=by kernel_rfl
theorem ck_10:Z0b K Zid.nt Zid.code:=(ai tt (ai tt (ai tt (ai tt tt))))
theorem fe_10:FE (H:=H) P bk K 10 (fun o vs h c=>match vs with | []=>Zqd o h c | _=>none):=by
 refine ⟨Zid,bk_10,rfl,ck_10,fun o vs h c r e=>?_⟩;dsimp only at e
 split at e
 · exact ⟨rfl,(ZnL o h c).trans e⟩
 · cases e
theorem ck_11:Z0b K Zf1.nt Zf1.code:=(ai tt (ai (ai tt (ai (ai tt tt) tt)) (ai tt tt)))
theorem fe_11:FE (H:=H) P bk K 11 (fun o vs h c=>match vs with | [t0]=>Zic o t0 h c | _=>none):=by
 refine ⟨Zf1,bk_11,rfl,ck_11,fun o vs h c r e=>?_⟩;dsimp only at e
 split at e
 · exact ⟨rfl,(ZgW o _ h c).trans e⟩
 · cases e
theorem ZmA:Z0b K 23 Z3T:=(ai tt (ai (ai tt tt) (ai (ai tt (ai tt (ai (ai tt tt) tt))) tt)))
theorem ZlT:LE (H:=H) P K 13000 (fun o rd vs h c df=>match vs with | [t2,t3,t4,t12,t13]=>Z4K o rd t2 t3 t4 t12 t13 h c df | _=>none):=by
 intro lin b nt hk;rw [Zgi] at hk
 cases hk
 refine ⟨ZmA,fun o rd vs h c df q e=>?_⟩;dsimp only at e
 split at e
 · exact (Z5u o rd _ _ _ _ _ h c df).trans e
 · cases e
theorem ck_13:Z0b K Zf0.nt Zf0.code:=(ai tt (ai (ai tt (ai (ai tt tt) tt)) (ai tt (ai (ai tt (ai rfl Zgi)) (ai tt tt)))))
theorem fe_13:FE (H:=H) P bk K 13 (fun o vs h c=>match vs with | [t0]=>Zk1 o t0 h c | _=>none):=by
 refine ⟨Zf0,bk_13,rfl,ck_13,fun o vs h c r e=>?_⟩;dsimp only at e
 split at e
 · exact ⟨rfl,(ZgV o _ h c).trans e⟩
 · cases e
theorem Zmy:Z0b K 83 Z3R:=(ai (ai tt (ai tt tt)) (ai (ai tt (ai (ai tt (ai tt tt)) (ai (ai tt (ai (ai tt tt) tt)) (ai tt (ai (ai tt tt) tt))))) tt))
theorem ZlR:LE (H:=H) P K 14001 (fun o rd vs h c df=>match vs with | [t1,t2,t3,t4,t5]=>Z20 o rd t1 t2 t3 t4 t5 h c df | _=>none):=by
 intro lin b nt hk;rw [Zgg] at hk
 cases hk
 refine ⟨Zmy,fun o rd vs h c df q e=>?_⟩;dsimp only at e
 split at e
 · exact (Z5s o rd _ _ _ _ _ h c df).trans e
 · cases e
theorem Zmz:Z0b K 83 Z3S:=(ai (ai tt (ai tt tt)) (ai (ai tt (ai rfl Zgg)) tt))
theorem ZlS:LE (H:=H) P K 14000 (fun o rd vs h c df=>match vs with | [t1,t2,t3,t4]=>Z1n o rd t1 t2 t3 t4 h c df | _=>none):=by
 intro lin b nt hk;rw [Zgh] at hk
 cases hk
 refine ⟨Zmz,fun o rd vs h c df q e=>?_⟩;dsimp only at e
 split at e
 · exact (Z5t o rd _ _ _ _ h c df).trans e
 · cases e
theorem ck_14:Z0b K ZeZ.nt ZeZ.code:=(ai tt (ai tt (ai (ai tt (ai (ai tt tt) tt)) (ai (ai tt (ai rfl Zgh)) (ai tt tt)))))
theorem fe_14:FE (H:=H) P bk K 14 (fun o vs h c=>match vs with | [t0]=>Zk0 o t0 h c | _=>none):=by
 refine ⟨ZeZ,bk_14,rfl,ck_14,fun o vs h c r e=>?_⟩;dsimp only at e
 split at e
 · exact ⟨rfl,(ZgU o _ h c).trans e⟩
 · cases e
theorem Zmx:Z0b K 26 Z3O:=(ai (ai tt (ai tt tt)) (ai (ai tt (ai (ai tt tt) tt)) tt))
theorem ZlQ:LE (H:=H) P K 16000 (fun o rd vs h c df=>match vs with | [t0,t1,t4,t5]=>Z4I o rd t0 t1 t4 t5 h c df | _=>none):=by
 intro lin b nt hk;rw [Zgf] at hk
 cases hk
 refine ⟨Zmx,fun o rd vs h c df q e=>?_⟩;dsimp only at e
 split at e
 · exact (Z5r o rd _ _ _ _ h c df).trans e
 · cases e
theorem ck_16:Z0b K ZeY.nt ZeY.code:=(ai tt (ai (ai tt (ai (ai tt tt) tt)) (ai (ai tt (ai rfl Zgf)) (ai tt tt))))
theorem fe_16:FE (H:=H) P bk K 16 (fun o vs h c=>match vs with | [t0,t1]=>ZjZ o t0 t1 h c | _=>none):=by
 refine ⟨ZeY,bk_16,rfl,ck_16,fun o vs h c r e=>?_⟩;dsimp only at e
 split at e
 · exact ⟨rfl,(ZgT o _ _ h c).trans e⟩
 · cases e
theorem Zmw:Z0b K 26 Z3N:=(ai tt (ai (ai tt tt) (ai (ai tt (ai tt (ai (ai tt tt) tt))) tt)))
theorem ZlP:LE (H:=H) P K 27000 (fun o rd vs h c df=>match vs with | [t0,t1,t4,t7,t8]=>Z4H o rd t0 t1 t4 t7 t8 h c df | _=>none):=by
 intro lin b nt hk;rw [Zge] at hk
 cases hk
 refine ⟨Zmw,fun o rd vs h c df q e=>?_⟩;dsimp only at e
 split at e
 · exact (Z5o o rd _ _ _ _ _ h c df).trans e
 · cases e
theorem ck_27:Z0b K ZeX.nt ZeX.code:=(ai tt (ai (ai tt (ai rfl Zge)) (ai tt tt)))
theorem fe_27:FE (H:=H) P bk K 27 (fun o vs h c=>match vs with | [t0,t1]=>ZjY o t0 t1 h c | _=>none):=by
 refine ⟨ZeX,bk_27,rfl,ck_27,fun o vs h c r e=>?_⟩;dsimp only at e
 split at e
 · exact ⟨rfl,(ZgS o _ _ h c).trans e⟩
 · cases e
theorem ck_37:Z0b K Zi7.nt Zi7.code:=(ai tt (ai tt (ai tt tt)))
theorem fe_37:FE (H:=H) P bk K 37 (fun o vs h c=>match vs with | []=>Zq6 o h c | _=>none):=by
 refine ⟨Zi7,bk_37,rfl,ck_37,fun o vs h c r e=>?_⟩;dsimp only at e
 split at e
 · exact ⟨rfl,(Znt o h c).trans e⟩
 · cases e
theorem ZmB:Z0b K 71 Z1C:=(ai tt tt)
theorem Zmv:Z0b K 71 Z1B:=(ai (ai tt (ai tt tt)) (ai (ai tt (ai (ai tt tt) tt)) (ai tt (ai (ai tt tt) tt))))
theorem Zl0:RE (H:=H) P K 71 [13,14] (fun o l vs h c=>match vs with | [t13,t14,t1,t2,t3]=>Z3M o l t13 t14 t1 t2 t3 h c | _=>none):=by
 intro lin a b hk;rw [ZfE] at hk
 cases hk
 refine ⟨ZmB,Zmv,fun o l vs h c r e=>?_⟩;dsimp only at e
 split at e
 · exact (Z7s o l _ _ _ _ _ h c).trans e
 · cases e
theorem ck_38:Z0b K ZeW.nt ZeW.code:=(ai tt (ai (ai tt (ai (ai tt tt) tt)) (ai tt (ai (ai tt (ai rfl ZfE)) (ai tt tt)))))
theorem fe_38:FE (H:=H) P bk K 38 (fun o vs h c=>match vs with | [t0]=>ZjV o t0 h c | _=>none):=by
 refine ⟨ZeW,bk_38,rfl,ck_38,fun o vs h c r e=>?_⟩;dsimp only at e
 split at e
 · exact ⟨rfl,(ZgR o _ h c).trans e⟩
 · cases e
theorem Zmt:Z0b K 172 Z3J:=(ai tt (ai (ai tt tt) (ai (ai tt (ai tt (ai tt (ai tt (ai tt tt))))) tt)))
theorem ZlN:LE (H:=H) P K 39001 (fun o rd vs h c df=>match vs with | [t2,t3,t4,t5,t6,t8,t10,t12,t13,t59,t60,t105,t106]=>Z3L o rd t2 t3 t4 t5 t6 t8 t10 t12 t13 t59 t60 t105 t106 h c df | _=>none):=by
 intro lin b nt hk;rw [Zgc] at hk
 cases hk
 refine ⟨Zmt,fun o rd vs h c df q e=>?_⟩;dsimp only at e
 split at e
 · exact (Z30 o rd _ _ _ _ _ _ _ _ _ _ _ _ _ h c df).trans e
 · cases e
theorem Zmu:Z0b K 172 Z3K:=(ai tt (ai (ai tt tt) (ai (ai tt (ai tt (ai tt (ai tt (ai tt (ai rfl Zgc)))))) tt)))
theorem ZlO:LE (H:=H) P K 39000 (fun o rd vs h c df=>match vs with | [t2,t3,t4,t5,t6,t8,t10,t12,t59,t60]=>Z4G o rd t2 t3 t4 t5 t6 t8 t10 t12 t59 t60 h c df | _=>none):=by
 intro lin b nt hk;rw [Zgd] at hk
 cases hk
 refine ⟨Zmu,fun o rd vs h c df q e=>?_⟩;dsimp only at e
 split at e
 · exact (Z5n o rd _ _ _ _ _ _ _ _ _ _ h c df).trans e
 · cases e
theorem Zms:Z0b K 172 Z3I:=(ai tt (ai (ai tt tt) (ai (ai tt tt) tt)))
theorem ZlM:LE (H:=H) P K 39002 (fun o rd vs h c df=>match vs with | [t2,t3,t4,t6,t12,t155,t156]=>Z4F o rd t2 t3 t4 t6 t12 t155 t156 h c df | _=>none):=by
 intro lin b nt hk;rw [Zgb] at hk
 cases hk
 refine ⟨Zms,fun o rd vs h c df q e=>?_⟩;dsimp only at e
 split at e
 · exact (Z5m o rd _ _ _ _ _ _ _ h c df).trans e
 · cases e
theorem ck_39:Z0b K ZeV.nt ZeV.code:=(ai tt (ai tt (ai tt (ai tt (ai tt (ai tt (ai tt (ai (ai tt (ai rfl Zgd)) (ai (ai tt (ai rfl Zgb)) (ai tt tt))))))))))
theorem fe_39:FE (H:=H) P bk K 39 (fun o vs h c=>match vs with | [t0]=>ZjU o t0 h c | _=>none):=by
 refine ⟨ZeV,bk_39,rfl,ck_39,fun o vs h c r e=>?_⟩;dsimp only at e
 split at e
 · exact ⟨rfl,(ZgQ o _ h c).trans e⟩
 · cases e
theorem Zmo:Z0b K 152 Z3B:=(ai tt (ai (ai tt tt) (ai (ai tt (ai tt (ai (ai tt tt) tt))) tt)))
theorem ZlI:LE (H:=H) P K 40003 (fun o rd vs h c df=>match vs with | [t4,t5,t7,t8,t9,t10,t35,t36,t37,t42,t43,t68,t90]=>Z3F o rd t4 t5 t7 t8 t9 t10 t35 t36 t37 t42 t43 t68 t90 h c df | _=>none):=by
 intro lin b nt hk;rw [Zg7] at hk
 cases hk
 refine ⟨Zmo,fun o rd vs h c df q e=>?_⟩;dsimp only at e
 split at e
 · exact (Z2X o rd _ _ _ _ _ _ _ _ _ _ _ _ _ h c df).trans e
 · cases e
theorem Zmp:Z0b K 152 Z3C:=(ai tt (ai (ai tt tt) (ai (ai tt (ai (ai tt (ai tt tt)) (ai tt (ai tt (ai rfl Zg7))))) tt)))
theorem ZlJ:LE (H:=H) P K 40002 (fun o rd vs h c df=>match vs with | [t4,t5,t7,t8,t9,t35,t36,t37,t42,t43,t68]=>Z3G o rd t4 t5 t7 t8 t9 t35 t36 t37 t42 t43 t68 h c df | _=>none):=by
 intro lin b nt hk;rw [Zg8] at hk
 cases hk
 refine ⟨Zmp,fun o rd vs h c df q e=>?_⟩;dsimp only at e
 split at e
 · exact (Z2Y o rd _ _ _ _ _ _ _ _ _ _ _ h c df).trans e
 · cases e
theorem Zmq:Z0b K 152 Z3D:=(ai tt (ai (ai tt tt) (ai (ai tt (ai (ai tt (ai tt tt)) (ai tt (ai tt (ai tt (ai rfl Zg8)))))) tt)))
theorem ZlK:LE (H:=H) P K 40001 (fun o rd vs h c df=>match vs with | [t4,t5,t35,t36,t37,t42,t43]=>Z3H o rd t4 t5 t35 t36 t37 t42 t43 h c df | _=>none):=by
 intro lin b nt hk;rw [Zg9] at hk
 cases hk
 refine ⟨Zmq,fun o rd vs h c df q e=>?_⟩;dsimp only at e
 split at e
 · exact (Z2Z o rd _ _ _ _ _ _ _ h c df).trans e
 · cases e
theorem Zmr:Z0b K 152 Z3E:=(ai tt (ai (ai tt tt) (ai (ai tt (ai tt (ai rfl Zg9))) tt)))
theorem ZlL:LE (H:=H) P K 40000 (fun o rd vs h c df=>match vs with | [t4,t35,t36,t37]=>Z4E o rd t4 t35 t36 t37 h c df | _=>none):=by
 intro lin b nt hk;rw [Zga] at hk
 cases hk
 refine ⟨Zmr,fun o rd vs h c df q e=>?_⟩;dsimp only at e
 split at e
 · exact (Z5l o rd _ _ _ _ h c df).trans e
 · cases e
theorem ck_40:Z0b K ZeU.nt ZeU.code:=(ai tt (ai tt (ai tt (ai (ai tt (ai rfl Zga)) (ai tt tt)))))
theorem fe_40:FE (H:=H) P bk K 40 (fun o vs h c=>match vs with | [t0]=>ZjT o t0 h c | _=>none):=by
 refine ⟨ZeU,bk_40,rfl,ck_40,fun o vs h c r e=>?_⟩;dsimp only at e
 split at e
 · exact ⟨rfl,(ZgP o _ h c).trans e⟩
 · cases e
theorem Zmn:Z0b K 41 Z3A:=(ai tt (ai (ai tt tt) (ai (ai tt (ai tt (ai tt (ai (ai tt tt) tt)))) tt)))
theorem ZlH:LE (H:=H) P K 41000 (fun o rd vs h c df=>match vs with | [t0,t4,t5,t15,t16]=>Z4D o rd t0 t4 t5 t15 t16 h c df | _=>none):=by
 intro lin b nt hk;rw [Zg6] at hk
 cases hk
 refine ⟨Zmn,fun o rd vs h c df q e=>?_⟩;dsimp only at e
 split at e
 · exact (Z5k o rd _ _ _ _ _ h c df).trans e
 · cases e
theorem ck_41:Z0b K ZeT.nt ZeT.code:=(ai tt (ai tt (ai tt (ai (ai tt (ai rfl Zg6)) (ai tt tt)))))
theorem fe_41:FE (H:=H) P bk K 41 (fun o vs h c=>match vs with | [t0]=>ZjS o t0 h c | _=>none):=by
 refine ⟨ZeT,bk_41,rfl,ck_41,fun o vs h c r e=>?_⟩;dsimp only at e
 split at e
 · exact ⟨rfl,(ZgO o _ h c).trans e⟩
 · cases e
theorem Zml:Z0b K 90 Z3y:=(ai tt (ai (ai tt tt) (ai (ai tt tt) tt)))
theorem ZlF:LE (H:=H) P K 42001 (fun o rd vs h c df=>match vs with | [t2,t3,t4,t18,t19,t20,t24,t25]=>Z4B o rd t2 t3 t4 t18 t19 t20 t24 t25 h c df | _=>none):=by
 intro lin b nt hk;rw [Zg4] at hk
 cases hk
 refine ⟨Zml,fun o rd vs h c df q e=>?_⟩;dsimp only at e
 split at e
 · exact (Z5i o rd _ _ _ _ _ _ _ _ h c df).trans e
 · cases e
theorem Zmm:Z0b K 90 Z3z:=(ai tt (ai (ai tt tt) (ai (ai tt (ai tt (ai rfl Zg4))) tt)))
theorem ZlG:LE (H:=H) P K 42000 (fun o rd vs h c df=>match vs with | [t2,t3,t4,t18,t19,t20]=>Z4C o rd t2 t3 t4 t18 t19 t20 h c df | _=>none):=by
 intro lin b nt hk;rw [Zg5] at hk
 cases hk
 refine ⟨Zmm,fun o rd vs h c df q e=>?_⟩;dsimp only at e
 split at e
 · exact (Z5j o rd _ _ _ _ _ _ h c df).trans e
 · cases e
theorem Zmk:Z0b K 90 Z3x:=(ai tt (ai (ai tt tt) (ai (ai tt tt) tt)))
theorem ZlE:LE (H:=H) P K 42002 (fun o rd vs h c df=>match vs with | [t2,t3,t4,t39,t40,t41]=>Z4A o rd t2 t3 t4 t39 t40 t41 h c df | _=>none):=by
 intro lin b nt hk;rw [Zg3] at hk
 cases hk
 refine ⟨Zmk,fun o rd vs h c df q e=>?_⟩;dsimp only at e
 split at e
 · exact (Z5h o rd _ _ _ _ _ _ h c df).trans e
 · cases e
theorem Zmj:Z0b K 90 Z3w:=(ai tt (ai (ai tt tt) (ai (ai tt (ai tt (ai tt tt))) tt)))
theorem ZlD:LE (H:=H) P K 42003 (fun o rd vs h c df=>match vs with | [t2,t4,t53,t54,t55]=>Z2v o rd t2 t4 t53 t54 t55 h c df | _=>none):=by
 intro lin b nt hk;rw [Zg2] at hk
 cases hk
 refine ⟨Zmj,fun o rd vs h c df q e=>?_⟩;dsimp only at e
 split at e
 · exact (Z2a o rd _ _ _ _ _ h c df).trans e
 · cases e
theorem ck_42:Z0b K ZeS.nt ZeS.code:=(ai tt (ai tt (ai tt (ai (ai tt (ai rfl Zg5)) (ai (ai tt (ai rfl Zg3)) (ai (ai tt (ai rfl Zg2)) (ai tt tt)))))))
theorem fe_42:FE (H:=H) P bk K 42 (fun o vs h c=>match vs with | [t0]=>ZjR o t0 h c | _=>none):=by
 refine ⟨ZeS,bk_42,rfl,ck_42,fun o vs h c r e=>?_⟩;dsimp only at e
 split at e
 · exact ⟨rfl,(ZgN o _ h c).trans e⟩
 · cases e
theorem ck_43:Z0b K ZeR.nt ZeR.code:=(ai tt (ai tt tt))
theorem fe_43:FE (H:=H) P bk K 43 (fun o vs h c=>match vs with | []=>ZjQ o h c | _=>none):=by
 refine ⟨ZeR,bk_43,rfl,ck_43,fun o vs h c r e=>?_⟩;dsimp only at e
 split at e
 · exact ⟨rfl,(ZgM o h c).trans e⟩
 · cases e
theorem Zmi:Z0b K 30 Z3v:=(ai (ai tt (ai tt tt)) (ai (ai (ai tt (ai (ai tt tt) tt)) tt) tt))
theorem ZlC:LE (H:=H) P K 44000 (fun o rd vs h c df=>match vs with | [t1,t2,t3,t4]=>Z1m o rd t1 t2 t3 t4 h c df | _=>none):=by
 intro lin b nt hk;rw [Zg1] at hk
 cases hk
 refine ⟨Zmi,fun o rd vs h c df q e=>?_⟩;dsimp only at e
 split at e
 · exact (Z5g o rd _ _ _ _ h c df).trans e
 · cases e
theorem ck_44:Z0b K ZeQ.nt ZeQ.code:=(ai tt (ai tt (ai (ai tt (ai rfl Zg1)) (ai tt tt))))
theorem fe_44:FE (H:=H) P bk K 44 (fun o vs h c=>match vs with | [t0]=>ZjP o t0 h c | _=>none):=by
 refine ⟨ZeQ,bk_44,rfl,ck_44,fun o vs h c r e=>?_⟩;dsimp only at e
 split at e
 · exact ⟨rfl,(ZgL o _ h c).trans e⟩
 · cases e
theorem Zmh:Z0b K 19 Z3u:=(ai (ai tt (ai tt tt)) (ai tt tt))
theorem ZlB:LE (H:=H) P K 45000 (fun o rd vs h c df=>match vs with | [t1,t2,t3,t4]=>Z2u o rd t1 t2 t3 t4 h c df | _=>none):=by
 intro lin b nt hk;rw [Zg0] at hk
 cases hk
 refine ⟨Zmh,fun o rd vs h c df q e=>?_⟩;dsimp only at e
 split at e
 · exact (Z5f o rd _ _ _ _ h c df).trans e
 · cases e
theorem ck_45:Z0b K ZeP.nt ZeP.code:=(ai tt (ai tt (ai (ai tt (ai (ai tt tt) tt)) (ai (ai tt (ai rfl Zg0)) (ai tt tt)))))
theorem fe_45:FE (H:=H) P bk K 45 (fun o vs h c=>match vs with | [t0]=>ZjO o t0 h c | _=>none):=by
 refine ⟨ZeP,bk_45,rfl,ck_45,fun o vs h c r e=>?_⟩;dsimp only at e
 split at e
 · exact ⟨rfl,(ZgK o _ h c).trans e⟩
 · cases e
theorem ck_54:Z0b K ZeO.nt ZeO.code:=(ai tt (ai tt tt))
theorem fe_54:FE (H:=H) P bk K 54 (fun o vs h c=>match vs with | []=>ZjN o h c | _=>none):=by
 refine ⟨ZeO,bk_54,rfl,ck_54,fun o vs h c r e=>?_⟩;dsimp only at e
 split at e
 · exact ⟨rfl,(ZgJ o h c).trans e⟩
 · cases e
theorem Zmg:Z0b K 23 Z3t:=(ai tt (ai (ai tt tt) (ai (ai tt (ai (ai tt (ai (ai tt tt) tt)) tt)) tt)))
theorem ZlA:LE (H:=H) P K 56000 (fun o rd vs h c df=>match vs with | [t2,t3,t6,t7]=>Z1Z o rd t2 t3 t6 t7 h c df | _=>none):=by
 intro lin b nt hk;rw [ZfZ] at hk
 cases hk
 refine ⟨Zmg,fun o rd vs h c df q e=>?_⟩;dsimp only at e
 split at e
 · exact (Z5d o rd _ _ _ _ h c df).trans e
 · cases e
theorem ck_56:Z0b K ZeN.nt ZeN.code:=(ai tt (ai tt (ai (ai tt (ai rfl ZfZ)) (ai tt tt))))
theorem fe_56:FE (H:=H) P bk K 56 (fun o vs h c=>match vs with | [t0]=>ZjM o t0 h c | _=>none):=by
 refine ⟨ZeN,bk_56,rfl,ck_56,fun o vs h c r e=>?_⟩;dsimp only at e
 split at e
 · exact ⟨rfl,(ZgI o _ h c).trans e⟩
 · cases e
theorem Zme:Z0b K 65 Z3r:=(ai tt (ai (ai tt tt) (ai (ai tt (ai tt (ai (ai tt tt) tt))) tt)))
theorem Zly:LE (H:=H) P K 60001 (fun o rd vs h c df=>match vs with | [t1,t2,t7,t8,t22,t23,t26]=>Z4t o rd t1 t2 t7 t8 t22 t23 t26 h c df | _=>none):=by
 intro lin b nt hk;rw [ZfX] at hk
 cases hk
 refine ⟨Zme,fun o rd vs h c df q e=>?_⟩;dsimp only at e
 split at e
 · exact (Z5b o rd _ _ _ _ _ _ _ h c df).trans e
 · cases e
theorem Zmf:Z0b K 65 Z3s:=(ai tt (ai (ai tt tt) (ai (ai tt (ai tt (ai rfl ZfX))) tt)))
theorem Zlz:LE (H:=H) P K 60000 (fun o rd vs h c df=>match vs with | [t1,t2,t7,t22,t23]=>Z4u o rd t1 t2 t7 t22 t23 h c df | _=>none):=by
 intro lin b nt hk;rw [ZfY] at hk
 cases hk
 refine ⟨Zmf,fun o rd vs h c df q e=>?_⟩;dsimp only at e
 split at e
 · exact (Z5c o rd _ _ _ _ _ h c df).trans e
 · cases e
theorem ck_60:Z0b K ZeM.nt ZeM.code:=(ai tt (ai tt (ai (ai tt (ai rfl ZfY)) (ai tt tt))))
theorem fe_60:FE (H:=H) P bk K 60 (fun o vs h c=>match vs with | [t0,t1,t2]=>ZjL o t0 t1 t2 h c | _=>none):=by
 refine ⟨ZeM,bk_60,rfl,ck_60,fun o vs h c r e=>?_⟩;dsimp only at e
 split at e
 · exact ⟨rfl,(ZgH o _ _ _ h c).trans e⟩
 · cases e
theorem Zmd:Z0b K 48 Z3p:=(ai tt (ai (ai tt tt) (ai (ai tt (ai tt (ai tt tt))) tt)))
theorem Zlx:LE (H:=H) P K 61000 (fun o rd vs h c df=>match vs with | [t0,t3,t4,t5,t17,t18]=>Z3q o rd t0 t3 t4 t5 t17 t18 h c df | _=>none):=by
 intro lin b nt hk;rw [ZfW] at hk
 cases hk
 refine ⟨Zmd,fun o rd vs h c df q e=>?_⟩;dsimp only at e
 split at e
 · exact (Z2U o rd _ _ _ _ _ _ h c df).trans e
 · cases e
theorem ck_61:Z0b K ZeL.nt ZeL.code:=(ai tt (ai tt (ai (ai tt (ai rfl ZfW)) (ai tt tt))))
theorem fe_61:FE (H:=H) P bk K 61 (fun o vs h c=>match vs with | [t0,t1]=>ZjK o t0 t1 h c | _=>none):=by
 refine ⟨ZeL,bk_61,rfl,ck_61,fun o vs h c r e=>?_⟩;dsimp only at e
 split at e
 · exact ⟨rfl,(ZgG o _ _ h c).trans e⟩
 · cases e
theorem Zma:Z0b K 135 Z3m:=(ai (ai tt (ai tt tt)) (ai (ai tt (ai (ai tt (ai (ai tt tt) tt)) tt)) tt))
theorem Zlu:LE (H:=H) P K 62002 (fun o rd vs h c df=>match vs with | [t2,t3,t4,t5,t7,t8,t9,t10,t11,t14]=>Z8C o rd t2 t3 t4 t5 t7 t8 t9 t10 t11 t14 h c df | _=>none):=by
 intro lin b nt hk;rw [ZfT] at hk
 cases hk
 refine ⟨Zma,fun o rd vs h c df q e=>?_⟩;dsimp only at e
 split at e
 · exact (Zd0 o rd _ _ _ _ _ _ _ _ _ _ h c df).trans e
 · cases e
theorem Zmb:Z0b K 135 Z3n:=(ai (ai tt (ai tt tt)) (ai (ai (ai tt (ai (ai tt tt) tt)) (ai (ai tt (ai (ai tt (ai tt tt)) tt)) (ai tt (ai (ai tt (ai (ai tt tt) tt)) (ai tt (ai (ai tt (ai rfl ZfT)) tt)))))) tt))
theorem Zlv:LE (H:=H) P K 62001 (fun o rd vs h c df=>match vs with | [t2,t3,t4,t5,t7,t8,t9,t10,t11]=>Z8D o rd t2 t3 t4 t5 t7 t8 t9 t10 t11 h c df | _=>none):=by
 intro lin b nt hk;rw [ZfU] at hk
 cases hk
 refine ⟨Zmb,fun o rd vs h c df q e=>?_⟩;dsimp only at e
 split at e
 · exact (Zd1 o rd _ _ _ _ _ _ _ _ _ h c df).trans e
 · cases e
theorem Zmc:Z0b K 135 Z3o:=(ai (ai tt (ai tt tt)) (ai (ai tt (ai (ai tt (ai rfl ZfU)) tt)) tt))
theorem Zlw:LE (H:=H) P K 62000 (fun o rd vs h c df=>match vs with | [t2,t3,t4,t5,t7,t8,t9]=>Z8E o rd t2 t3 t4 t5 t7 t8 t9 h c df | _=>none):=by
 intro lin b nt hk;rw [ZfV] at hk
 cases hk
 refine ⟨Zmc,fun o rd vs h c df q e=>?_⟩;dsimp only at e
 split at e
 · exact (Zd2 o rd _ _ _ _ _ _ _ h c df).trans e
 · cases e
theorem ck_62:Z0b K Zi0.nt Zi0.code:=(ai tt (ai (ai tt (ai (ai tt tt) tt)) (ai tt (ai (ai tt (ai (ai tt tt) tt)) (ai tt (ai (ai tt (ai (ai tt tt) tt)) (ai tt (ai tt (ai (ai tt (ai rfl ZfV)) (ai (ai tt (ai (ai tt tt) tt)) (ai (ai tt (ai (ai tt tt) tt)) (ai tt tt))))))))))))
theorem fe_62:FE (H:=H) P bk K 62 (fun o vs h c=>match vs with | [t0]=>ZpX o t0 h c | _=>none):=by
 refine ⟨Zi0,bk_62,rfl,ck_62,fun o vs h c r e=>?_⟩;dsimp only at e
 split at e
 · exact ⟨rfl,(Znf o _ h c).trans e⟩
 · cases e
theorem ck_63:Z0b K ZeK.nt ZeK.code:=(ai tt (ai tt tt))
theorem fe_63:FE (H:=H) P bk K 63 (fun o vs h c=>match vs with | [t0]=>ZjJ o t0 h c | _=>none):=by
 refine ⟨ZeK,bk_63,rfl,ck_63,fun o vs h c r e=>?_⟩;dsimp only at e
 split at e
 · exact ⟨rfl,(ZgF o _ h c).trans e⟩
 · cases e
theorem Zm9:Z0b K 16 Z3l:=(ai tt (ai (ai tt tt) (ai (ai tt tt) tt)))
theorem Zlt:LE (H:=H) P K 64000 (fun o rd vs h c df=>match vs with | [t2,t3,t6,t7]=>Z2t o rd t2 t3 t6 t7 h c df | _=>none):=by
 intro lin b nt hk;rw [ZfS] at hk
 cases hk
 refine ⟨Zm9,fun o rd vs h c df q e=>?_⟩;dsimp only at e
 split at e
 · exact (Z5a o rd _ _ _ _ h c df).trans e
 · cases e
theorem ck_64:Z0b K ZeJ.nt ZeJ.code:=(ai tt (ai tt (ai (ai tt (ai rfl ZfS)) (ai tt tt))))
theorem fe_64:FE (H:=H) P bk K 64 (fun o vs h c=>match vs with | [t0]=>ZjI o t0 h c | _=>none):=by
 refine ⟨ZeJ,bk_64,rfl,ck_64,fun o vs h c r e=>?_⟩;dsimp only at e
 split at e
 · exact ⟨rfl,(ZgE o _ h c).trans e⟩
 · cases e
theorem Zm7:Z0b K 90 Z3j:=(ai tt (ai (ai tt tt) (ai (ai tt (ai (ai tt (ai tt tt)) (ai tt (ai tt (ai (ai tt tt) tt))))) tt)))
theorem Zlr:LE (H:=H) P K 65001 (fun o rd vs h c df=>match vs with | [t0,t1,t4,t5,t6,t7,t9,t23,t24,t25,t29]=>Z2s o rd t0 t1 t4 t5 t6 t7 t9 t23 t24 t25 t29 h c df | _=>none):=by
 intro lin b nt hk;rw [ZfQ] at hk
 cases hk
 refine ⟨Zm7,fun o rd vs h c df q e=>?_⟩;dsimp only at e
 split at e
 · exact (Z29 o rd _ _ _ _ _ _ _ _ _ _ _ h c df).trans e
 · cases e
theorem Zm8:Z0b K 90 Z3k:=(ai tt (ai (ai tt tt) (ai (ai tt (ai tt (ai rfl ZfQ))) tt)))
theorem Zls:LE (H:=H) P K 65000 (fun o rd vs h c df=>match vs with | [t0,t1,t4,t5,t6,t7,t23,t24,t25]=>Z4r o rd t0 t1 t4 t5 t6 t7 t23 t24 t25 h c df | _=>none):=by
 intro lin b nt hk;rw [ZfR] at hk
 cases hk
 refine ⟨Zm8,fun o rd vs h c df q e=>?_⟩;dsimp only at e
 split at e
 · exact (Z59 o rd _ _ _ _ _ _ _ _ _ h c df).trans e
 · cases e
theorem ck_65:Z0b K ZeI.nt ZeI.code:=(ai tt (ai tt (ai tt (ai tt (ai (ai tt (ai rfl ZfR)) (ai tt (ai tt (ai tt (ai tt tt)))))))))
theorem fe_65:FE (H:=H) P bk K 65 (fun o vs h c=>match vs with | [t0,t1]=>ZjH o t0 t1 h c | _=>none):=by
 refine ⟨ZeI,bk_65,rfl,ck_65,fun o vs h c r e=>?_⟩;dsimp only at e
 split at e
 · exact ⟨rfl,(ZgD o _ _ h c).trans e⟩
 · cases e
theorem Zm6:Z0b K 21 Z3i:=(ai tt (ai (ai tt tt) (ai (ai tt tt) tt)))
theorem Zlq:LE (H:=H) P K 66000 (fun o rd vs h c df=>match vs with | [t2,t3,t10,t11]=>Z4q o rd t2 t3 t10 t11 h c df | _=>none):=by
 intro lin b nt hk;rw [ZfP] at hk
 cases hk
 refine ⟨Zm6,fun o rd vs h c df q e=>?_⟩;dsimp only at e
 split at e
 · exact (Z58 o rd _ _ _ _ h c df).trans e
 · cases e
theorem ck_66:Z0b K ZeH.nt ZeH.code:=(ai tt (ai tt (ai (ai tt (ai rfl ZfP)) (ai tt tt))))
theorem fe_66:FE (H:=H) P bk K 66 (fun o vs h c=>match vs with | [t0]=>ZjG o t0 h c | _=>none):=by
 refine ⟨ZeH,bk_66,rfl,ck_66,fun o vs h c r e=>?_⟩;dsimp only at e
 split at e
 · exact ⟨rfl,(ZgC o _ h c).trans e⟩
 · cases e
theorem ck_67:Z0b K ZeG.nt ZeG.code:=(ai tt tt)
theorem fe_67:FE (H:=H) P bk K 67 (fun o vs h c=>match vs with | [t0,t1,t2]=>ZhU o t0 t1 t2 h c | _=>none):=by
 refine ⟨ZeG,bk_67,rfl,ck_67,fun o vs h c r e=>?_⟩;dsimp only at e
 split at e
 · exact ⟨rfl,(ZgB o _ _ _ h c).trans e⟩
 · cases e
theorem Zm5:Z0b K 41 Z3h:=(ai (ai tt (ai tt tt)) (ai tt tt))
theorem Zlp:LE (H:=H) P K 68000 (fun o rd vs h c df=>match vs with | [t0,t1]=>Z64 o rd t0 t1 h c df | _=>none):=by
 intro lin b nt hk;rw [ZfO] at hk
 cases hk
 refine ⟨Zm5,fun o rd vs h c df q e=>?_⟩;dsimp only at e
 split at e
 · exact (Z7f o rd _ _ h c df).trans e
 · cases e
theorem ck_68:Z0b K ZeF.nt ZeF.code:=(ai tt (ai (ai rfl ZfO) (ai tt tt)))
theorem fe_68:FE (H:=H) P bk K 68 (fun o vs h c=>match vs with | [t0,t1]=>ZhT o t0 t1 h c | _=>none):=by
 refine ⟨ZeF,bk_68,rfl,ck_68,fun o vs h c r e=>?_⟩;dsimp only at e
 split at e
 · exact ⟨rfl,(ZgA o _ _ h c).trans e⟩
 · cases e
theorem ck_69:Z0b K ZeE.nt ZeE.code:=(ai tt (ai tt tt))
theorem fe_69:FE (H:=H) P bk K 69 (fun o vs h c=>match vs with | [t0]=>ZjF o t0 h c | _=>none):=by
 refine ⟨ZeE,bk_69,rfl,ck_69,fun o vs h c r e=>?_⟩;dsimp only at e
 split at e
 · exact ⟨rfl,(Zgz o _ h c).trans e⟩
 · cases e
theorem ck_70:Z0b K ZeD.nt ZeD.code:=(ai tt (ai tt tt))
theorem fe_70:FE (H:=H) P bk K 70 (fun o vs h c=>match vs with | [t0]=>ZjE o t0 h c | _=>none):=by
 refine ⟨ZeD,bk_70,rfl,ck_70,fun o vs h c r e=>?_⟩;dsimp only at e
 split at e
 · exact ⟨rfl,(Zgy o _ h c).trans e⟩
 · cases e
theorem ck_71:Z0b K ZeC.nt ZeC.code:=(ai tt (ai tt tt))
theorem fe_71:FE (H:=H) P bk K 71 (fun o vs h c=>match vs with | [t0]=>ZjD o t0 h c | _=>none):=by
 refine ⟨ZeC,bk_71,rfl,ck_71,fun o vs h c r e=>?_⟩;dsimp only at e
 split at e
 · exact ⟨rfl,(Zgx o _ h c).trans e⟩
 · cases e
theorem ck_72:Z0b K ZeB.nt ZeB.code:=(ai tt (ai tt tt))
theorem fe_72:FE (H:=H) P bk K 72 (fun o vs h c=>match vs with | [t0]=>ZjC o t0 h c | _=>none):=by
 refine ⟨ZeB,bk_72,rfl,ck_72,fun o vs h c r e=>?_⟩;dsimp only at e
 split at e
 · exact ⟨rfl,(Zgw o _ h c).trans e⟩
 · cases e
theorem Zm4:Z0b K 43 Z3f:=(ai (ai tt (ai tt tt)) (ai (ai tt (ai (ai tt (ai tt tt)) (ai tt (ai (ai tt tt) tt)))) tt))
theorem Zlo:LE (H:=H) P K 83000 (fun o rd vs h c df=>match vs with | [t0,t3,t4,t5]=>Z89 o rd t0 t3 t4 t5 h c df | _=>none):=by
 intro lin b nt hk;rw [ZfN] at hk
 cases hk
 refine ⟨Zm4,fun o rd vs h c df q e=>?_⟩;dsimp only at e
 split at e
 · exact (ZcW o rd _ _ _ _ h c df).trans e
 · cases e
theorem ck_83:Z0b K ZhP.nt ZhP.code:=(ai tt (ai tt (ai tt (ai (ai tt (ai rfl ZfN)) (ai tt tt)))))
theorem fe_83:FE (H:=H) P bk K 83 (fun o vs h c=>match vs with | [t0]=>ZpI o t0 h c | _=>none):=by
 refine ⟨ZhP,bk_83,rfl,ck_83,fun o vs h c r e=>?_⟩;dsimp only at e
 split at e
 · exact ⟨rfl,(ZmX o _ h c).trans e⟩
 · cases e
theorem Zm3:Z0b K 51 Z3e:=(ai (ai tt (ai tt tt)) (ai (ai (ai tt (ai (ai tt tt) tt)) tt) tt))
theorem Zln:LE (H:=H) P K 84000 (fun o rd vs h c df=>match vs with | [t0,t2,t3,t4,t5]=>Z88 o rd t0 t2 t3 t4 t5 h c df | _=>none):=by
 intro lin b nt hk;rw [ZfM] at hk
 cases hk
 refine ⟨Zm3,fun o rd vs h c df q e=>?_⟩;dsimp only at e
 split at e
 · exact (ZcV o rd _ _ _ _ _ h c df).trans e
 · cases e
theorem ck_84:Z0b K ZhN.nt ZhN.code:=(ai tt (ai (ai tt (ai (ai tt tt) tt)) (ai tt (ai (ai tt (ai rfl ZfM)) (ai tt tt)))))
theorem fe_84:FE (H:=H) P bk K 84 (fun o vs h c=>match vs with | [t0]=>ZpH o t0 h c | _=>none):=by
 refine ⟨ZhN,bk_84,rfl,ck_84,fun o vs h c r e=>?_⟩;dsimp only at e
 split at e
 · exact ⟨rfl,(ZmW o _ h c).trans e⟩
 · cases e
theorem Zm1:Z0b K 30 Z3c:=(ai tt (ai (ai tt tt) (ai (ai tt (ai tt (ai tt tt))) tt)))
theorem Zll:LE (H:=H) P K 85001 (fun o rd vs h c df=>match vs with | [t0,t1,t3,t8,t9,t16,t17]=>Z1X o rd t0 t1 t3 t8 t9 t16 t17 h c df | _=>none):=by
 intro lin b nt hk;rw [ZfK] at hk
 cases hk
 refine ⟨Zm1,fun o rd vs h c df q e=>?_⟩;dsimp only at e
 split at e
 · exact (Z53 o rd _ _ _ _ _ _ _ h c df).trans e
 · cases e
theorem Zm2:Z0b K 30 Z3d:=(ai tt (ai (ai tt tt) (ai (ai tt (ai tt (ai rfl ZfK))) tt)))
theorem Zlm:LE (H:=H) P K 85000 (fun o rd vs h c df=>match vs with | [t0,t1,t8,t9]=>Z1Y o rd t0 t1 t8 t9 h c df | _=>none):=by
 intro lin b nt hk;rw [ZfL] at hk
 cases hk
 refine ⟨Zm2,fun o rd vs h c df q e=>?_⟩;dsimp only at e
 split at e
 · exact (Z54 o rd _ _ _ _ h c df).trans e
 · cases e
theorem ck_85:Z0b K ZeA.nt ZeA.code:=(ai tt (ai rfl ZfL))
theorem fe_85:FE (H:=H) P bk K 85 (fun o vs h c=>match vs with | [t0,t1]=>ZhJ o t0 t1 h c | _=>none):=by
 refine ⟨ZeA,bk_85,rfl,ck_85,fun o vs h c r e=>?_⟩;dsimp only at e
 split at e
 · exact ⟨rfl,(Zgv o _ _ h c).trans e⟩
 · cases e
theorem ZlY:Z0b K 100 Z38:=(ai tt (ai (ai tt tt) (ai (ai tt (ai (ai tt (ai tt tt)) (ai tt (ai tt (ai (ai tt tt) (ai tt (ai (ai tt tt) tt))))))) tt)))
theorem Zli:LE (H:=H) P K 86002 (fun o rd vs h c df=>match vs with | [t0,t2,t3,t5,t6,t7,t18,t19,t50,t51]=>Z1W o rd t0 t2 t3 t5 t6 t7 t18 t19 t50 t51 h c df | _=>none):=by
 intro lin b nt hk;rw [ZfH] at hk
 cases hk
 refine ⟨ZlY,fun o rd vs h c df q e=>?_⟩;dsimp only at e
 split at e
 · exact (Z1A o rd _ _ _ _ _ _ _ _ _ _ h c df).trans e
 · cases e
theorem ZlZ:Z0b K 100 Z39:=(ai (ai tt (ai tt tt)) (ai (ai tt (ai tt (ai rfl ZfH))) tt))
theorem Zlj:LE (H:=H) P K 86001 (fun o rd vs h c df=>match vs with | [t0,t2,t3,t5,t6,t18,t19]=>Z3b o rd t0 t2 t3 t5 t6 t18 t19 h c df | _=>none):=by
 intro lin b nt hk;rw [ZfI] at hk
 cases hk
 refine ⟨ZlZ,fun o rd vs h c df q e=>?_⟩;dsimp only at e
 split at e
 · exact (Z2R o rd _ _ _ _ _ _ _ h c df).trans e
 · cases e
theorem Zm0:Z0b K 100 Z3a:=(ai tt (ai (ai tt tt) (ai (ai tt (ai (ai tt (ai tt tt)) (ai tt (ai tt (ai tt (ai rfl ZfI)))))) tt)))
theorem Zlk:LE (H:=H) P K 86000 (fun o rd vs h c df=>match vs with | [t0,t2,t3,t18,t19]=>Z2q o rd t0 t2 t3 t18 t19 h c df | _=>none):=by
 intro lin b nt hk;rw [ZfJ] at hk
 cases hk
 refine ⟨Zm0,fun o rd vs h c df q e=>?_⟩;dsimp only at e
 split at e
 · exact (Z27 o rd _ _ _ _ _ h c df).trans e
 · cases e
theorem ck_86:Z0b K Zez.nt Zez.code:=(ai tt (ai tt (ai (ai tt (ai rfl ZfJ)) (ai tt tt))))
theorem fe_86:FE (H:=H) P bk K 86 (fun o vs h c=>match vs with | [t0]=>ZjB o t0 h c | _=>none):=by
 refine ⟨Zez,bk_86,rfl,ck_86,fun o vs h c r e=>?_⟩;dsimp only at e
 split at e
 · exact ⟨rfl,(Zgu o _ h c).trans e⟩
 · cases e
theorem ck_91:Z0b K Zey.nt Zey.code:=(ai tt (ai (ai tt (ai (ai tt tt) tt)) (ai tt tt)))
theorem fe_91:FE (H:=H) P bk K 91 (fun o vs h c=>match vs with | [t0]=>Zjz o t0 h c | _=>none):=by
 refine ⟨Zey,bk_91,rfl,ck_91,fun o vs h c r e=>?_⟩;dsimp only at e
 split at e
 · exact ⟨rfl,(Zgt o _ h c).trans e⟩
 · cases e
theorem ZlW:Z0b K 25 Z36:=(ai tt (ai (ai tt tt) (ai (ai tt (ai tt (ai tt tt))) tt)))
theorem Zlg:LE (H:=H) P K 92001 (fun o rd vs h c df=>match vs with | [t1,t3,t4,t6,t9,t10]=>Z4j o rd t1 t3 t4 t6 t9 t10 h c df | _=>none):=by
 intro lin b nt hk;rw [ZfF] at hk
 cases hk
 refine ⟨ZlW,fun o rd vs h c df q e=>?_⟩;dsimp only at e
 split at e
 · exact (Z4Z o rd _ _ _ _ _ _ h c df).trans e
 · cases e
theorem ZlX:Z0b K 25 Z37:=(ai tt (ai (ai tt tt) (ai (ai tt (ai tt (ai rfl ZfF))) tt)))
theorem Zlh:LE (H:=H) P K 92000 (fun o rd vs h c df=>match vs with | [t1,t3,t6]=>Z4k o rd t1 t3 t6 h c df | _=>none):=by
 intro lin b nt hk;rw [ZfG] at hk
 cases hk
 refine ⟨ZlX,fun o rd vs h c df q e=>?_⟩;dsimp only at e
 split at e
 · exact (Z50 o rd _ _ _ h c df).trans e
 · cases e
theorem ck_92:Z0b K Zex.nt Zex.code:=(ai tt (ai tt (ai (ai tt (ai rfl ZfG)) (ai tt tt))))
theorem fe_92:FE (H:=H) P bk K 92 (fun o vs h c=>match vs with | [t0]=>Zjx o t0 h c | _=>none):=by
 refine ⟨Zex,bk_92,rfl,ck_92,fun o vs h c r e=>?_⟩;dsimp only at e
 split at e
 · exact ⟨rfl,(Zgs o _ h c).trans e⟩
 · cases e
noncomputable def tbF:BT (Orc H->List Value->H->Nat->Option (Rt H)):=(.node 61 (fun o vs h c=>match vs with | [t0,t1]=>ZjK o t0 t1 h c | _=>none) (.node 40 (fun o vs h c=>match vs with | [t0]=>ZjT o t0 h c | _=>none) (.node 16 (fun o vs h c=>match vs with | [t0,t1]=>ZjZ o t0 t1 h c | _=>none) (.node 13 (fun o vs h c=>match vs with | [t0]=>Zk1 o t0 h c | _=>none) (.node 11 (fun o vs h c=>match vs with | [t0]=>Zic o t0 h c | _=>none) (.node 10 (fun o vs h c=>match vs with | []=>Zqd o h c | _=>none) .leaf .leaf) .leaf) (.node 14 (fun o vs h c=>match vs with | [t0]=>Zk0 o t0 h c | _=>none) .leaf .leaf)) (.node 38 (fun o vs h c=>match vs with | [t0]=>ZjV o t0 h c | _=>none) (.node 37 (fun o vs h c=>match vs with | []=>Zq6 o h c | _=>none) (.node 27 (fun o vs h c=>match vs with | [t0,t1]=>ZjY o t0 t1 h c | _=>none) .leaf .leaf) .leaf) (.node 39 (fun o vs h c=>match vs with | [t0]=>ZjU o t0 h c | _=>none) .leaf .leaf))) (.node 45 (fun o vs h c=>match vs with | [t0]=>ZjO o t0 h c | _=>none) (.node 43 (fun o vs h c=>match vs with | []=>ZjQ o h c | _=>none) (.node 42 (fun o vs h c=>match vs with | [t0]=>ZjR o t0 h c | _=>none) (.node 41 (fun o vs h c=>match vs with | [t0]=>ZjS o t0 h c | _=>none) .leaf .leaf) .leaf) (.node 44 (fun o vs h c=>match vs with | [t0]=>ZjP o t0 h c | _=>none) .leaf .leaf)) (.node 56 (fun o vs h c=>match vs with | [t0]=>ZjM o t0 h c | _=>none) (.node 54 (fun o vs h c=>match vs with | []=>ZjN o h c | _=>none) .leaf .leaf) (.node 60 (fun o vs h c=>match vs with | [t0,t1,t2]=>ZjL o t0 t1 t2 h c | _=>none) .leaf .leaf)))) (.node 70 (fun o vs h c=>match vs with | [t0]=>ZjE o t0 h c | _=>none) (.node 66 (fun o vs h c=>match vs with | [t0]=>ZjG o t0 h c | _=>none) (.node 64 (fun o vs h c=>match vs with | [t0]=>ZjI o t0 h c | _=>none) (.node 63 (fun o vs h c=>match vs with | [t0]=>ZjJ o t0 h c | _=>none) (.node 62 (fun o vs h c=>match vs with | [t0]=>ZpX o t0 h c | _=>none) .leaf .leaf) .leaf) (.node 65 (fun o vs h c=>match vs with | [t0,t1]=>ZjH o t0 t1 h c | _=>none) .leaf .leaf)) (.node 68 (fun o vs h c=>match vs with | [t0,t1]=>ZhT o t0 t1 h c | _=>none) (.node 67 (fun o vs h c=>match vs with | [t0,t1,t2]=>ZhU o t0 t1 t2 h c | _=>none) .leaf .leaf) (.node 69 (fun o vs h c=>match vs with | [t0]=>ZjF o t0 h c | _=>none) .leaf .leaf))) (.node 85 (fun o vs h c=>match vs with | [t0,t1]=>ZhJ o t0 t1 h c | _=>none) (.node 83 (fun o vs h c=>match vs with | [t0]=>ZpI o t0 h c | _=>none) (.node 72 (fun o vs h c=>match vs with | [t0]=>ZjC o t0 h c | _=>none) (.node 71 (fun o vs h c=>match vs with | [t0]=>ZjD o t0 h c | _=>none) .leaf .leaf) .leaf) (.node 84 (fun o vs h c=>match vs with | [t0]=>ZpH o t0 h c | _=>none) .leaf .leaf)) (.node 91 (fun o vs h c=>match vs with | [t0]=>Zjz o t0 h c | _=>none) (.node 86 (fun o vs h c=>match vs with | [t0]=>ZjB o t0 h c | _=>none) .leaf .leaf) (.node 92 (fun o vs h c=>match vs with | [t0]=>Zjx o t0 h c | _=>none) .leaf .leaf)))))
noncomputable def tbL:BT (Orc H->Option Nat->List Value->H->Nat->List Nat->Option (Rt H)):=(.node 60000 (fun o rd vs h c df=>match vs with | [t1,t2,t7,t22,t23]=>Z4u o rd t1 t2 t7 t22 t23 h c df | _=>none) (.node 40002 (fun o rd vs h c df=>match vs with | [t4,t5,t7,t8,t9,t35,t36,t37,t42,t43,t68]=>Z3G o rd t4 t5 t7 t8 t9 t35 t36 t37 t42 t43 t68 h c df | _=>none) (.node 39000 (fun o rd vs h c df=>match vs with | [t2,t3,t4,t5,t6,t8,t10,t12,t59,t60]=>Z4G o rd t2 t3 t4 t5 t6 t8 t10 t12 t59 t60 h c df | _=>none) (.node 14001 (fun o rd vs h c df=>match vs with | [t1,t2,t3,t4,t5]=>Z20 o rd t1 t2 t3 t4 t5 h c df | _=>none) (.node 14000 (fun o rd vs h c df=>match vs with | [t1,t2,t3,t4]=>Z1n o rd t1 t2 t3 t4 h c df | _=>none) (.node 13000 (fun o rd vs h c df=>match vs with | [t2,t3,t4,t12,t13]=>Z4K o rd t2 t3 t4 t12 t13 h c df | _=>none) .leaf .leaf) .leaf) (.node 27000 (fun o rd vs h c df=>match vs with | [t0,t1,t4,t7,t8]=>Z4H o rd t0 t1 t4 t7 t8 h c df | _=>none) (.node 16000 (fun o rd vs h c df=>match vs with | [t0,t1,t4,t5]=>Z4I o rd t0 t1 t4 t5 h c df | _=>none) .leaf .leaf) .leaf)) (.node 40000 (fun o rd vs h c df=>match vs with | [t4,t35,t36,t37]=>Z4E o rd t4 t35 t36 t37 h c df | _=>none) (.node 39002 (fun o rd vs h c df=>match vs with | [t2,t3,t4,t6,t12,t155,t156]=>Z4F o rd t2 t3 t4 t6 t12 t155 t156 h c df | _=>none) (.node 39001 (fun o rd vs h c df=>match vs with | [t2,t3,t4,t5,t6,t8,t10,t12,t13,t59,t60,t105,t106]=>Z3L o rd t2 t3 t4 t5 t6 t8 t10 t12 t13 t59 t60 t105 t106 h c df | _=>none) .leaf .leaf) .leaf) (.node 40001 (fun o rd vs h c df=>match vs with | [t4,t5,t35,t36,t37,t42,t43]=>Z3H o rd t4 t5 t35 t36 t37 t42 t43 h c df | _=>none) .leaf .leaf))) (.node 42002 (fun o rd vs h c df=>match vs with | [t2,t3,t4,t39,t40,t41]=>Z4A o rd t2 t3 t4 t39 t40 t41 h c df | _=>none) (.node 42000 (fun o rd vs h c df=>match vs with | [t2,t3,t4,t18,t19,t20]=>Z4C o rd t2 t3 t4 t18 t19 t20 h c df | _=>none) (.node 41000 (fun o rd vs h c df=>match vs with | [t0,t4,t5,t15,t16]=>Z4D o rd t0 t4 t5 t15 t16 h c df | _=>none) (.node 40003 (fun o rd vs h c df=>match vs with | [t4,t5,t7,t8,t9,t10,t35,t36,t37,t42,t43,t68,t90]=>Z3F o rd t4 t5 t7 t8 t9 t10 t35 t36 t37 t42 t43 t68 t90 h c df | _=>none) .leaf .leaf) .leaf) (.node 42001 (fun o rd vs h c df=>match vs with | [t2,t3,t4,t18,t19,t20,t24,t25]=>Z4B o rd t2 t3 t4 t18 t19 t20 t24 t25 h c df | _=>none) .leaf .leaf)) (.node 45000 (fun o rd vs h c df=>match vs with | [t1,t2,t3,t4]=>Z2u o rd t1 t2 t3 t4 h c df | _=>none) (.node 44000 (fun o rd vs h c df=>match vs with | [t1,t2,t3,t4]=>Z1m o rd t1 t2 t3 t4 h c df | _=>none) (.node 42003 (fun o rd vs h c df=>match vs with | [t2,t4,t53,t54,t55]=>Z2v o rd t2 t4 t53 t54 t55 h c df | _=>none) .leaf .leaf) .leaf) (.node 56000 (fun o rd vs h c df=>match vs with | [t2,t3,t6,t7]=>Z1Z o rd t2 t3 t6 t7 h c df | _=>none) .leaf .leaf)))) (.node 68000 (fun o rd vs h c df=>match vs with | [t0,t1]=>Z64 o rd t0 t1 h c df | _=>none) (.node 62002 (fun o rd vs h c df=>match vs with | [t2,t3,t4,t5,t7,t8,t9,t10,t11,t14]=>Z8C o rd t2 t3 t4 t5 t7 t8 t9 t10 t11 t14 h c df | _=>none) (.node 62000 (fun o rd vs h c df=>match vs with | [t2,t3,t4,t5,t7,t8,t9]=>Z8E o rd t2 t3 t4 t5 t7 t8 t9 h c df | _=>none) (.node 61000 (fun o rd vs h c df=>match vs with | [t0,t3,t4,t5,t17,t18]=>Z3q o rd t0 t3 t4 t5 t17 t18 h c df | _=>none) (.node 60001 (fun o rd vs h c df=>match vs with | [t1,t2,t7,t8,t22,t23,t26]=>Z4t o rd t1 t2 t7 t8 t22 t23 t26 h c df | _=>none) .leaf .leaf) .leaf) (.node 62001 (fun o rd vs h c df=>match vs with | [t2,t3,t4,t5,t7,t8,t9,t10,t11]=>Z8D o rd t2 t3 t4 t5 t7 t8 t9 t10 t11 h c df | _=>none) .leaf .leaf)) (.node 65001 (fun o rd vs h c df=>match vs with | [t0,t1,t4,t5,t6,t7,t9,t23,t24,t25,t29]=>Z2s o rd t0 t1 t4 t5 t6 t7 t9 t23 t24 t25 t29 h c df | _=>none) (.node 65000 (fun o rd vs h c df=>match vs with | [t0,t1,t4,t5,t6,t7,t23,t24,t25]=>Z4r o rd t0 t1 t4 t5 t6 t7 t23 t24 t25 h c df | _=>none) (.node 64000 (fun o rd vs h c df=>match vs with | [t2,t3,t6,t7]=>Z2t o rd t2 t3 t6 t7 h c df | _=>none) .leaf .leaf) .leaf) (.node 66000 (fun o rd vs h c df=>match vs with | [t2,t3,t10,t11]=>Z4q o rd t2 t3 t10 t11 h c df | _=>none) .leaf .leaf))) (.node 86000 (fun o rd vs h c df=>match vs with | [t0,t2,t3,t18,t19]=>Z2q o rd t0 t2 t3 t18 t19 h c df | _=>none) (.node 85000 (fun o rd vs h c df=>match vs with | [t0,t1,t8,t9]=>Z1Y o rd t0 t1 t8 t9 h c df | _=>none) (.node 84000 (fun o rd vs h c df=>match vs with | [t0,t2,t3,t4,t5]=>Z88 o rd t0 t2 t3 t4 t5 h c df | _=>none) (.node 83000 (fun o rd vs h c df=>match vs with | [t0,t3,t4,t5]=>Z89 o rd t0 t3 t4 t5 h c df | _=>none) .leaf .leaf) .leaf) (.node 85001 (fun o rd vs h c df=>match vs with | [t0,t1,t3,t8,t9,t16,t17]=>Z1X o rd t0 t1 t3 t8 t9 t16 t17 h c df | _=>none) .leaf .leaf)) (.node 92000 (fun o rd vs h c df=>match vs with | [t1,t3,t6]=>Z4k o rd t1 t3 t6 h c df | _=>none) (.node 86002 (fun o rd vs h c df=>match vs with | [t0,t2,t3,t5,t6,t7,t18,t19,t50,t51]=>Z1W o rd t0 t2 t3 t5 t6 t7 t18 t19 t50 t51 h c df | _=>none) (.node 86001 (fun o rd vs h c df=>match vs with | [t0,t2,t3,t5,t6,t18,t19]=>Z3b o rd t0 t2 t3 t5 t6 t18 t19 h c df | _=>none) .leaf .leaf) .leaf) (.node 92001 (fun o rd vs h c df=>match vs with | [t1,t3,t4,t6,t9,t10]=>Z4j o rd t1 t3 t4 t6 t9 t10 h c df | _=>none) .leaf .leaf)))))
noncomputable def tbR:List (Nat × List Nat × (Orc H->Nat->List Value->H->Nat->Option (Rt H))):=[(71,[13,14],(fun o l vs h c=>match vs with | [t13,t14,t1,t2,t3]=>Z3M o l t13 t14 t1 t2 t3 h c | _=>none))]
noncomputable def tab:Tab H:={ F:=fun f=>tbF.look f,L:=fun j=>tbL.look j,R:=fun nt ps=>Zjd nt ps tbR }
theorem tab_ok:TabOK (H:=H) P bk K tab:=⟨fun f F e=>BT.look_all (Q:=FE P bk K) (t:=tbF) (ai fe_61 (ai (ai fe_40 (ai (ai fe_16 (ai (ai fe_13 (ai (ai fe_11 (ai (ai fe_10 (ai tt tt)) tt)) (ai fe_14 (ai tt tt)))) (ai fe_38 (ai (ai fe_37 (ai (ai fe_27 (ai tt tt)) tt)) (ai fe_39 (ai tt tt)))))) (ai fe_45 (ai (ai fe_43 (ai (ai fe_42 (ai (ai fe_41 (ai tt tt)) tt)) (ai fe_44 (ai tt tt)))) (ai fe_56 (ai (ai fe_54 (ai tt tt)) (ai fe_60 (ai tt tt)))))))) (ai fe_70 (ai (ai fe_66 (ai (ai fe_64 (ai (ai fe_63 (ai (ai fe_62 (ai tt tt)) tt)) (ai fe_65 (ai tt tt)))) (ai fe_68 (ai (ai fe_67 (ai tt tt)) (ai fe_69 (ai tt tt)))))) (ai fe_85 (ai (ai fe_83 (ai (ai fe_72 (ai (ai fe_71 (ai tt tt)) tt)) (ai fe_84 (ai tt tt)))) (ai fe_91 (ai (ai fe_86 (ai tt tt)) (ai fe_92 (ai tt tt)))))))))) e,
 fun j B lin b nt e hk=>BT.look_all (Q:=LE P K) (t:=tbL) (ai Zlz (ai (ai ZlJ (ai (ai ZlO (ai (ai ZlR (ai (ai ZlS (ai (ai ZlT (ai tt tt)) tt)) (ai ZlP (ai (ai ZlQ (ai tt tt)) tt)))) (ai ZlL (ai (ai ZlM (ai (ai ZlN (ai tt tt)) tt)) (ai ZlK (ai tt tt)))))) (ai ZlE (ai (ai ZlG (ai (ai ZlH (ai (ai ZlI (ai tt tt)) tt)) (ai ZlF (ai tt tt)))) (ai ZlB (ai (ai ZlC (ai (ai ZlD (ai tt tt)) tt)) (ai ZlA (ai tt tt)))))))) (ai Zlp (ai (ai Zlu (ai (ai Zlw (ai (ai Zlx (ai (ai Zly (ai tt tt)) tt)) (ai Zlv (ai tt tt)))) (ai Zlr (ai (ai Zls (ai (ai Zlt (ai tt tt)) tt)) (ai Zlq (ai tt tt)))))) (ai Zlk (ai (ai Zlm (ai (ai Zln (ai (ai Zlo (ai tt tt)) tt)) (ai Zll (ai tt tt)))) (ai Zlh (ai (ai Zli (ai (ai Zlj (ai tt tt)) tt)) (ai Zlg (ai tt tt)))))))))) e lin b nt hk,
 fun nt ps D lin a b e hk=>ZdE (Q:=RE P K) (l:=tbR) (ai Zl0 tt) e lin a b hk⟩
theorem ev_run {n:Nat} {k:Key} {vs:List Value} {h:H} {c:Nat} {df:List Nat} {r:Rt H} (hk:KeyOK K k) (hi:Z6C K h) (e:evT tab n k vs h c df=some r):run P bk k vs h c df=some r:=(ZgY tab_ok n k vs h c df r hk hi e).1
end Go.Proofs.Ytdodippbpdechaa

namespace Go.Ab
open Go
structure Hid (q:Prop):Prop where
 h:q
theorem Ans.go {β:Type} {x:Option β} {Q:β->Prop} {q:Prop} (k:q) (h:Hid q->Ans x Q:=by
 intro kk
 repeat' (first | ((with_reducible first | refine Ans.bz ?_ | refine Ans.r1 ?_ | refine Ans.pkT ?_ | refine Ans.pkF ?_); try dsimp only [v_zero,v_succ]) | (with_reducible first | refine Ans.btL ?_ | refine Ans.bfL ?_ | refine Ans.gyT ?_ | refine Ans.gyF ?_ | refine Ans.gyG ?_ | refine Ans.bb ?_ | refine Ans.bc ?_ | refine Ans.ba ?_) | ((with_reducible first | refine Ans.lsT ?_ ?_ | refine Ans.leT ?_ ?_ | refine Ans.grT ?_ ?_ | refine Ans.geT ?_ ?_ | refine Ans.eqT ?_ ?_ | refine Ans.neT ?_ ?_); (focus omega)) | ((with_reducible first | refine Ans.lsF ?_ ?_ | refine Ans.leF ?_ ?_ | refine Ans.grF ?_ ?_ | refine Ans.geF ?_ ?_ | refine Ans.eqF ?_ ?_ | refine Ans.neF ?_ ?_); (focus omega)) | (with_reducible first | refine Ans.lsS (fun _=>?_) (fun _=>?_) | refine Ans.leS (fun _=>?_) (fun _=>?_) | refine Ans.grS (fun _=>?_) (fun _=>?_) | refine Ans.geS (fun _=>?_) (fun _=>?_) | refine Ans.eqS (fun _=>?_) (fun _=>?_) | refine Ans.neS (fun _=>?_) (fun _=>?_)) | ((with_reducible first | refine Ans.addN ?_ ?_ | refine Ans.add ?_ ?_ | refine Ans.sub ?_ ?_ | refine Ans.mul ?_ ?_); (focus omega)) | ((with_reducible first | refine Ans.ct ?_ ?_); (focus (simp (disch:=(first | omega | with_reducible assumption | (simp <;> omega) | fail)) [fx]; done))) | ((with_reducible first | refine Ans.cf ?_ ?_); (focus (simp (disch:=(first | omega | with_reducible assumption | (simp <;> omega) | fail)) [fx]; done))) | (refine Ans.step (by simp (disch:=(first | omega | with_reducible assumption | (simp <;> omega) | fail)) [fx,-List.getD_eq_getElem?_getD] <;> rfl) ?_; try dsimp only [v_zero,v_succ]) | fail)
 exact kk.h):Ans x Q:=h ⟨k⟩
theorem Ans.nx0 {o:Orc FH} {k:Key} {Q:Rt FH->Prop} {A h:FH} {c c':Nat} {vs:List Value} {df:List Nat} (e:Ans (o k vs A c df) Q) (h1:Z0Q c vs:=by (simp (disch:=(first | omega | with_reducible assumption | (simp <;> omega) | fail)) [fx]; done)) (h2:Z0l c A h:=by (simp (disch:=(first | omega | with_reducible assumption | (simp <;> omega) | fail)) [fx]; done)) :
 Ans (some { e:=.normal,vs:=vs,h:=h,c:=c',df:=df }) (fun q=>Lk o k Q (gcR A c df q)):=Ans.next0 h1 h2 e
theorem Ans.ex0 {o:Orc FH} {k:Key} {Q:Rt FH->Prop} {A h:FH} {c c':Nat} {vs:List Value} {df:List Nat} {i:Nat} (e:Q { e:=.exit i,vs:=vs,h:=A,c:=c,df:=df }) (h1:Z0Q c vs:=by (simp (disch:=(first | omega | with_reducible assumption | (simp <;> omega) | fail)) [fx]; done)) (h2:Z0l c A h:=by (simp (disch:=(first | omega | with_reducible assumption | (simp <;> omega) | fail)) [fx]; done)) :
 Ans (some { e:=.exit i,vs:=vs,h:=h,c:=c',df:=df }) (fun q=>Lk o k Q (gcR A c df q)):=Ans.exit0 h1 h2 e
theorem Ans.rt0 {o:Orc FH} {k:Key} {Q:Rt FH->Prop} {A h:FH} {c c':Nat} {vs:List Value} {df:List Nat} (e:Q { e:=.ret,vs:=vs,h:=A,c:=c,df:=df }) (h1:Z0Q c vs:=by (simp (disch:=(first | omega | with_reducible assumption | (simp <;> omega) | fail)) [fx]; done)) (h2:Z0l c A h:=by (simp (disch:=(first | omega | with_reducible assumption | (simp <;> omega) | fail)) [fx]; done)) :
 Ans (some { e:=.ret,vs:=vs,h:=h,c:=c',df:=df }) (fun q=>Lk o k Q (gcR A c df q)):=Ans.ret0 h1 h2 e
theorem Ans.nxB {o:Orc FH} {k:Key} {Q:Rt FH->Prop} {A B h:FH} {c c':Nat} {vs:List Value} {df:List Nat} (h3:Z0G c A B) (e:Ans (o k vs B c df) Q) (h1:Z0Q c vs:=by (simp (disch:=(first | omega | with_reducible assumption | (simp <;> omega) | fail)) [fx]; done)) (h2:Z0l c B h:=by (simp (disch:=(first | omega | with_reducible assumption | (simp <;> omega) | fail)) [fx]; done)) :
 Ans (some { e:=.normal,vs:=vs,h:=h,c:=c',df:=df }) (fun q=>Lk o k Q (gcR A c df q)):=Ans.nextB e h1 h2 h3
theorem Ans.pu {h h':FH} {c c':Nat} {v w:Value} (hv:w=v:=by first | rfl | (simp (disch:=(first | omega | with_reducible assumption | (simp <;> omega) | fail)) [fx]; done)) (hs:Z0l c h h':=by first | with_reducible assumption | (simp (disch:=(first | omega | with_reducible assumption | (simp <;> omega) | fail)) [fx]; done)) :
 Ans (some { e:=.ret,vs:=[w],h:=h',c:=c',df:=[] }) (Zqy h c v):=Ans.pure hv hs
end Go.Ab

namespace Go.Ab
open Go
def p24:List (List Int):=[[0,1,2,3],[0,1,3,2],[0,2,1,3],[0,2,3,1],[0,3,1,2],[0,3,2,1],[1,0,2,3],[1,0,3,2],[1,2,0,3],[1,2,3,0],[1,3,0,2],[1,3,2,0],[2,0,1,3],[2,0,3,1],[2,1,0,3],[2,1,3,0],[2,3,0,1],[2,3,1,0],[3,0,1,2],[3,0,2,1],[3,1,0,2],[3,1,2,0],[3,2,0,1],[3,2,1,0]]
theorem Zeq {p:List Int} (hp:p.length=4) (h:Z1f p=true):p ∈ p24:=by
 have hr:=Z2B h
 match p,hp with
 | [a,b,c,d],_ =>
  have ha:=hr a (by simp)
  have hb:=hr b (by simp)
  have hc:=hr c (by simp)
  have hd:=hr d (by simp)
  have:=ZoI (Q:=fun a b c d=>!Z1f [(a:Int),(b:Int),(c:Int),(d:Int)] || p24.contains [(a:Int),(b:Int),(c:Int),(d:Int)]) (by kernel_rfl)
   (a:=a.toNat) (b:=b.toNat) (c:=c.toNat) (d:=d.toNat) qO qO qO qO
  have ea:((a.toNat:Nat):Int)=a:=qO
  have eb:((b.toNat:Nat):Int)=b:=qO
  have ec:((c.toNat:Nat):Int)=c:=qO
  have ed:((d.toNat:Nat):Int)=d:=qO
  rw [ea,eb,ec,ed,h] at this
  simpa using this
theorem Zim {Q:List Int->Bool} (h:p24.all Q=true) {p:List Int} (hp:p ∈ p24):Q p=true:=List.all_eq_true.1 h p hp
theorem Ziy {p:List Int} (hp:p ∈ p24):Z1f p=true:=Zim (Q:=Z1f) (by kernel_rfl) hp
theorem ZhA {p:List Int} (hp:p ∈ p24):p.length=4:=by simpa using Zim (Q:=fun p=>p.length == 4) (by kernel_rfl) hp
theorem inv24 {p:List Int} (hp:p ∈ p24):inv p ∈ p24:=by simpa using Zim (Q:=fun p=>p24.contains (inv p)) (by kernel_rfl) hp
theorem ZmD {p:List Int} (hp:p ∈ p24):Zo0 (inv p) p=[0,1,2,3]:=by simpa using Zim (Q:=fun p=>Zo0 (inv p) p == [0,1,2,3]) (by kernel_rfl) hp
theorem Z7Q {p:List Int} (hp:p ∈ p24) {i:Nat} (hi:i<4):0<=p.getD i 0/\p.getD i 0<4:=by
 have:=Zim (Q:=fun p=>(List.range 4).all fun i=>decide (0<=p.getD i 0) && decide (p.getD i 0<4)) (by kernel_rfl) hp
 rw [List.all_eq_true] at this
 simpa using this i (by simpa using hi)
theorem Zqt {p q:List Int} (hq:q.length=4) {i:Nat} (hi:i<4):(Zo0 p q).getD i 0=p.getD (q.getD i 0).toNat 0:=by
 simp only [Zo0,qB,List.getElem?_map]
 rw [qI (by omega:i<q.length)]
 simp
theorem Z1S {Gl:List Int} {n t f:Nat} (h:Z0y Gl n t f=true) (ht:¬ Z0D (Z04 Gl t f)<0) :
 Z0D (Z04 Gl t f)<n/\Z1f (Z0v (Z04 Gl t f))=true /\ ¬ (Z0D (Z04 Gl t f)=t/\(Z0v (Z04 Gl t f)).getD f 0=f) ∧
  Z04 Gl (Z0D (Z04 Gl t f)).toNat ((Z0v (Z04 Gl t f)).getD f 0).toNat=(t:Int)::inv (Z0v (Z04 Gl t f)):=by
 unfold Z0y at h
 have h0:Z04 Gl t f ≠ Z7S:=fun e=>ht (by rw [e]; decide)
 simp only [h0,decide_false,Bool.false_or,qN,decide_eq_true_eq,Bool.not_eq_true'] at h
 obtain ⟨⟨⟨⟨h1,h2⟩,h3⟩,h4⟩,h5⟩:=h
 refine ⟨h2,h3,fun ⟨a,b⟩=>?_,h5⟩
 rw [decide_eq_true a,decide_eq_true b] at h4
 cases h4
theorem Z33 {Gl:List Int} {n t f:Nat} (h:Z0w Gl n=true) (ht:t<n) (hf:f<4):Z0y Gl n t f=true:=by
 have:=(Z5J Gl n).1 h (4*t+f) qO
 have e1:(4*t+f) / 4=t:=qO
 have e2:(4*t+f) % 4=f:=qO
 rwa [e1,e2] at this
def Zfi (c0:Nat) (h:FH) (c:Nat) (v:Value) (sz n:Nat) (L:List Int):Prop :=
 L.length=n*sz/\n<=9223372036854775807/\((v = .slice none 0 0/\n=0) ∨
  ∃ i,v = .slice (some ⟨i,0,none⟩) n n/\256*c0<=i/\i<256*c/\h.f i=some (.cells false (some sz) (ints L)))
theorem Zfi.nil (c0:Nat) (h:FH) (c sz:Nat):Zfi c0 h c (.slice none 0 0) sz 0 []:=⟨by simp,qO,.inl ⟨rfl,rfl⟩⟩
theorem Zfi.flat {c0:Nat} {h:FH} {c:Nat} {v:Value} {sz n:Nat} {L:List Int} (ha:Zfi c0 h c v sz n L):Z08 v=true/\v.cells = #[v]:=by
 obtain ⟨_,_,⟨rfl,_⟩ | ⟨i,rfl,_⟩⟩:=ha <;> exact ⟨rfl,rfl⟩
theorem Zfi.sl {c0:Nat} {h:FH} {c:Nat} {v:Value} {sz n:Nat} {L:List Int} (ha:Zfi c0 h c v sz n L):SlI h c v sz n L:=by
 obtain ⟨h1,h2,⟨rfl,rfl⟩ | ⟨i,rfl,h3,h4,h5⟩⟩:=ha
 · exact ⟨h1,h2,none,0,rfl,.inl ⟨rfl,OkV.sl0 _ _ _⟩⟩
 · refine ⟨h1,h2,some ⟨i,0,none⟩,n,rfl,.inr ⟨i,0,ints L,rfl,h4,⟨false,some sz,h5⟩, ?_⟩⟩
   rw [qM,qH (by simp [h1])]
theorem Zfi.mono {c0:Nat} {h:FH} {c c':Nat} {v:Value} {sz n:Nat} {L:List Int} (hc:c<=c') (ha:Zfi c0 h c v sz n L):Zfi c0 h c' v sz n L:=by
 obtain ⟨h1,h2,h3 | ⟨i,rfl,h3,h4,h5⟩⟩:=ha
 · exact ⟨h1,h2,.inl h3⟩
 · exact ⟨h1,h2,.inr ⟨i,rfl,h3,qO,h5⟩⟩
theorem Zfi.keep {c0:Nat} {h h':FH} {c:Nat} {v:Value} {sz n:Nat} {L:List Int} (hh:∀ i,256*c0<=i->i<256*c->h'.f i=h.f i) (ha:Zfi c0 h c v sz n L):Zfi c0 h' c v sz n L:=by
 obtain ⟨h1,h2,h3 | ⟨i,rfl,h3,h4,h5⟩⟩:=ha
 · exact ⟨h1,h2,.inl h3⟩
 · exact ⟨h1,h2,.inr ⟨i,rfl,h3,h4,by rw [hh i h3 h4,h5]⟩⟩
theorem Zfi.app {c0:Nat} {h:FH} {c c':Nat} {v:Value} {sz n:Nat} {L:List Int} (ha:Zfi c0 h c v sz n L) (X:List Int) (hX:X.length=sz) (hsz:0<sz) (by' b id:Nat) (hb:256*c<=b) (hid:256*c<=id) (hne:b ≠ id) (hc0:c0<=c)
 (hid':id<256*c') (hlim:(n+1)*(by'+1)<=17592186044416) :
 ∃ v' h',Z5D (newB h b (ints X)) id sz by' v (.slice (some ⟨b,0,none⟩) 1 1)=some (v',h')/\Zfi c0 h' c' v' sz (n+1) (L++X)/\Z0l c0 h h'/\v' = .slice (some ⟨id,0,none⟩) (n+1) (n+1):=by
 obtain ⟨h1,h2,h3⟩:=ha
 have hlim':Nat.ble ((n+1)*(by'+1)) 17592186044416=true:=qK hlim
 have hsrc:Z0M (newB h b (ints X)) sz (.slice (some ⟨b,0,none⟩) 1 1)=some (ints X,1):=by
  have:Nat.ble (0+1*sz) (ints X).length=true:=qK (by simp [hX])
  simp only [Z0M,Z0S,Z0s,get_newB_same,qD,this,cond_true,qM]
  rw [qH (by simp [hX])]
 have hn1:n+1<=17592186044416:=by
  have:(n+1)*1<=(n+1)*(by'+1):=Nat.mul_le_mul_left _ qO
  omega
 have hcap:Nat.ble (n+1) n=false:=by rw [qY]; intro hh; have:=qP hh; omega
 rcases h3 with ⟨rfl,rfl⟩ | ⟨i,rfl,h3,h4,h5⟩
 · have hL:L=[]:=qX (by simpa using h1)
   subst hL
   refine ⟨_,HeapC.set (newB h b (ints X)) id (.cells false (some sz) (ints X)), ?_,⟨by simp [hX],qO,.inr ⟨id,rfl,qO,hid', ?_⟩⟩, ?_,rfl⟩
   · simp only [Z5D,hsrc,qD,appTo,hcap,cond_false,Z1Q,hlim',Z18,qV,cond_true,Nat.beq_refl,Nat.zero_add]
   · rw [Z0c,if_pos rfl]; rfl
   · intro j hj
     rw [Z0c,if_neg qO,Z01,if_neg qO]
 · have hbi:i ≠ b:=qO
   have hg:HeapC.get (newB h b (ints X)) i=some (.cells false (some sz) (ints L)):=by rw [get_newB_ne _ _ _ _ hbi]; exact h5
   have hr:Nat.ble (0+n*sz) (ints L).length=true:=qK (by simp [h1])
   refine ⟨_,HeapC.set (HeapC.set (newB h b (ints X)) i .dead) id (.cells false (some sz) (((ints L).drop 0).take (n*sz)++ints X)), ?_,⟨?_,qO,.inr ⟨id,rfl,qO,hid', ?_⟩⟩, ?_,rfl⟩
   · simp only [Z5D,hsrc,qD,appTo,hcap,cond_false,Z1Q,hlim',Z18,qV,cond_true,Z0S,Z0s,hg,hr,Nat.beq_refl,Bool.not_false,Bool.and_true]
   · simp [h1,hX,Nat.succ_mul]
   · rw [Z0c,if_pos rfl,qM,qH (by simp [h1]),Z4W]
   · intro j hj
     rw [Z0c,if_neg qO,Z0c,if_neg qO,Z01,if_neg qO]
def rowTo (F:Nat->List Int):Nat->List Int
 | 0=>[]
 | f+1=>rowTo F f++F f
end Go.Ab

namespace Go.Ab
open Go
def ordF (Ord Pm:List Int) (n:Nat):Nat->Nat->List Bool->Bool
 | 0,_,_=>true
 | k+1,i,met=>if Ord.getD i 0<0 ∨ (n:Int)<=Ord.getD i 0 then false else if met.getD (Ord.getD i 0).toNat false=true then false else
  if Z1f (Z46 Pm i)=false then false else ordF Ord Pm n k (i+1) (met.set (Ord.getD i 0).toNat true)
def ZqC (Ord Pm:List Int) (a b n:Nat):Bool:=decide (a=n) && decide (b=n) && ordF Ord Pm n n 0 (List.replicate n false)
theorem ZaZ {Ord Pm:List Int} {n:Nat}:∀ {k i:Nat} {met:List Bool},ordF Ord Pm n k i met=true -> ∀ j,i<=j->j<i+k->0<=Ord.getD j 0/\Ord.getD j 0<n/\Z1f (Z46 Pm j)=true
 | 0,i,met,h,j,h1,h2=>qO
 | k+1,i,met,h,j,h1,h2=>by
  unfold ordF at h
  split at h
  · cases h
  split at h
  · cases h
  split at h
  · cases h
  rename_i q1 q2 q3
  by_cases hj:j=i
  · subst hj
    exact ⟨qO,qO,by simpa using q3⟩
  · exact ZaZ h j qO qO
def backL (Ord:List Int):Nat->Nat->List Int->List Int
 | 0,_,l=>l
 | k+1,i,l=>backL Ord k (i+1) (l.set (Ord.getD i 0).toNat i)
def back (Ord:List Int) (n:Nat):List Int:=backL Ord n 0 (List.replicate n 0)
def rnF (Gl Ord Pm Bk:List Int) (i f:Nat):List Int :=
 if Z0D (Z04 Gl (Ord.getD i 0).toNat ((Z46 Pm i).getD f 0).toNat)<0 then Z7S else
  Bk.getD (Z0D (Z04 Gl (Ord.getD i 0).toNat ((Z46 Pm i).getD f 0).toNat)).toNat 0 ::
   Zo0 (inv (Z46 Pm (Bk.getD (Z0D (Z04 Gl (Ord.getD i 0).toNat ((Z46 Pm i).getD f 0).toNat)).toNat 0).toNat))
    (Zo0 (Z0v (Z04 Gl (Ord.getD i 0).toNat ((Z46 Pm i).getD f 0).toNat)) (Z46 Pm i))
def rnL (Gl Ord Pm Bk:List Int):Nat->List Int
 | 0=>[]
 | i+1=>rnL Gl Ord Pm Bk i++rowTo (rnF Gl Ord Pm Bk i) 4
structure RnOk (Gl Ord Pm:List Int) (n:Nat):Prop where
 gl:Gl.length=n*20
 ol:Ord.length=n
 pl:Pm.length=n*4
 ok:Z0w Gl n=true
 rng:∀ j,j<n->0<=Ord.getD j 0/\Ord.getD j 0<n/\Z1f (Z46 Pm j)=true
theorem RnOk.p24 {Gl Ord Pm:List Int} {n:Nat} (h:RnOk Gl Ord Pm n) {j:Nat} (hj:j<n):Z46 Pm j ∈ Ab.p24:=Zeq (ZcF h.pl hj) (h.rng j hj).2.2
def rnE (Gl Ord Pm:List Int) (n a b:Nat):Int:=if n<=1000/\Z0w Gl n=true then (if ZqC Ord Pm a b n=true then 0 else 1) else 7
def rnN (Gl Ord Pm:List Int) (n a b:Nat):Nat:=if n<=1000/\Z0w Gl n=true/\ZqC Ord Pm a b n=true then n else 0
def rnR (Gl Ord Pm:List Int) (n a b:Nat):List Int:=if n<=1000/\Z0w Gl n=true/\ZqC Ord Pm a b n=true then rnL Gl Ord Pm (back Ord n) n else []
theorem Zl2 {Ord Pm:List Int} {a b n:Nat}:ZqC Ord Pm a b n=true ↔ a=n/\b=n/\ordF Ord Pm n n 0 (List.replicate n false)=true:=by
 simp [ZqC,and_assoc]
theorem RnOk.of {Gl Ord Pm:List Int} {n a b:Nat} (hG:Gl.length=n*20) (hO:Ord.length=a) (hP:Pm.length=b*4) (h2:Z0w Gl n=true) (h3:ZqC Ord Pm a b n=true):RnOk Gl Ord Pm n:=by
 obtain ⟨rfl,rfl,h4⟩:=Zl2.1 h3
 exact ⟨hG,hO,hP,h2,fun j hj=>ZaZ h4 j qO qO⟩
@[simp] theorem st1_agg (h:FH) (i o:Nat) (cs:List Value) (v:Value) (ho:o<cs.length) (hv:Z08 v=true):stN (newB h i cs) 1 (.pointer (some ⟨i,o,none⟩)) (.agg #[v])=some (newB h i (cs.set o v)):=by
 rw [Z0q h 1 i o cs (.agg #[v]) rfl qO (by simp [Value.cells,hv])]
 show some (newB h i (Z0Z cs o [v]))=_
 rw [Z4g cs o _ ho]
@[simp] theorem st1_sl (h:FH) (i o:Nat) (cs:List Value) (a:Option Addr) (n k:Nat) (ho:o<cs.length):stN (newB h i cs) 1 (.pointer (some ⟨i,o,none⟩)) (.slice a n k)=some (newB h i (cs.set o (.slice a n k))):=by
 rw [Z0q h 1 i o cs (.slice a n k) rfl qO rfl]
 show some (newB h i (Z0Z cs o [.slice a n k]))=_
 rw [Z4g cs o _ ho]
theorem Z0N {h:FH} {b:Nat} {cs:List Value} {v:Value} (hg:Z0d h b (v::cs)):ldN h 1 (.pointer (some ⟨b,0,none⟩))=some (.agg #[v]):=by
 rw [ldN_holds hg (by simp)]; simp
def ZoJ (h:FH) (c:Nat) (Gl Ord Pm:List Int) (n a b:Nat) (r:Rt FH):Prop :=
 r.e = .ret/\r.df=[]/\c<=r.c/\Z0l c h r.h /\ ∃ v,r.vs=[.tuple #[.agg #[v],.int .i64 (rnE Gl Ord Pm n a b)]]/\SlI r.h r.c v 20 (rnN Gl Ord Pm n a b) (rnR Gl Ord Pm n a b)/\(0<rnN Gl Ord Pm n a b->256*c<=Z0p v)
theorem ZoJ.callF {o:Orc FH} {g:FuncId} {args:List Value} {h:FH} {c:Nat} {Gl Ord Pm:List Int} {n a b:Nat} (e:Ans (o (.fn g) args h c []) (ZoJ h c Gl Ord Pm n a b)) :
 ∃ v h' c',callF o g args h c=some (.tuple #[.agg #[v],.int .i64 (rnE Gl Ord Pm n a b)],h',c')/\c<=c'/\Z0l c h h'/\SlI h' c' v 20 (rnN Gl Ord Pm n a b) (rnR Gl Ord Pm n a b)/\(0<rnN Gl Ord Pm n a b->256*c<=Z0p v):=by
 obtain ⟨r,e1,r1,r2,r3,r4,v,r5,r6,r7⟩:=e
 refine ⟨v,r.h,r.c, ?_,r3,r4,r6,r7⟩
 simp only [Ab.callF,e1,qD,r5]
end Go.Ab
