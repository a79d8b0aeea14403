/- Parts of a proof: RowK. Conditions: none. -/
import Derived.Test.YtcnndelmnobigaaM21
import Derived.Test.YtcnndelmnobigaaM20
import Derived.Test.YtcnndelmnobigaaRows
import Derived.ProofKit
set_option linter.all false
set_option maxRecDepth 100000
namespace Go.Proofs.Ytcnndelmnobigaa
open Go.ChangeShapes Go.WideShapes Go.ChangeAt Go.RowKit
open Go Go.Ab Go.Proofs
theorem Try.own:ownKnob Try.prog.godebug=none:=by kernel_rfl
theorem Try.laidOut:laidOutB Try.prog=true:=by kernel_rfl
theorem Zfs:Z5e P 3 1:=Z5e.int Try.underlying3 (by kernel_rfl)
theorem Zo5:Z5e P 39 4:=Z5e.array (n:=4) (z:=1) Try.underlying39 Zfs (by kernel_rfl)
theorem Zo6:Z5e P 41 5:=Z5e.struct2 (z0:=1) (z1:=4) Try.underlying41 Zfs Zo5 rfl rfl (by kernel_rfl)
theorem ZqU:Z5e P 42 20:=Z5e.array (n:=4) (z:=5) Try.underlying42 Zo6 (by kernel_rfl)
theorem Zfi {H:Type} {enc:TypeId × Value->H} {W:World} {base:Nat} {v:Value} {d:DataW H} {ps:List MemPlace} (hval:Value.okWide P W .any base 24 v) (hd:DataW.Trod enc P W 0 (fun _=>true) true 24 v d ps) :
 ∃ s n Gl,v = .agg #[s]/\Z5c W s 20 n Gl :=
 ZqA Try.underlying24 (by kernel_rfl) (by kernel_rfl) Try.underlying22 rfl rfl (by kernel_rfl) ZqU qO hval hd
theorem Zkp {H:Type} {enc:TypeId × Value->H} {W:World} {base:Nat} {v:Value} {d:DataW H} {ps:List MemPlace} (hval:Value.okWide P W .any base 34 v) (hd:DataW.Trod enc P W 0 (fun _=>true) true 34 v d ps) :
 ∃ n Gl,Z5c W v 1 n Gl:=Zqz (e:=3) (sz:=1) Try.underlying34 Zfs qO hval hd
theorem ZkF {f:FuncId} {W:World} {A:FH} {μ:Mu} {xs ys:List Value} (hR:R μ A W) (hf:Z22 μ 1) (hro:∀ i m,μ i=some m->wrB (HeapC.get A i)=false) (hv:VRs μ xs ys) (h:Ans (G (.fn f) xs A 1 []) fun x=>x.e = .ret/\x.vs=[.bool true]) :
 Calls P f ys.toArray W (Zqd W):=by
 obtain ⟨x,hx,he,hvs⟩:=h
 refine (ZiB bk_ok ext_ok mixed hx hv hR hf).mono ?_
 rintro en w' ⟨u,v',μ',h1,h2,h3,hE⟩
 rw [hvs] at h1
 cases h1
 exact ⟨by rw [h2,h3.bool_left],hE.os,hE.tape,hE.output,hE.size,fun k hk=>hE.fr k hk (fun i m e hw=>by rw [hro i m e] at hw; cases hw)⟩
end Go.Proofs.Ytcnndelmnobigaa
