/- Parts of a proof: RowK. Conditions: none. -/
import Derived.Test.YtdodippbpdechaaM24
import Derived.Test.YtdodippbpdechaaM22
import Derived.Test.YtdodippbpdechaaRows
import Derived.ProofKit
set_option linter.all false
set_option maxRecDepth 100000
namespace Go.Proofs.Ytdodippbpdechaa
open Go.ChangeShapes Go.WideShapes Go.ChangeAt Go.RowKit
open Go Go.Ab Go.Proofs
theorem Try.own:ownKnob Try.prog.godebug=none:=by kernel_rfl
theorem Try.laidOut:laidOutB Try.prog=true:=by kernel_rfl
theorem Zhm:Z4C P 3 1:=Z4C.int Try.underlying3 (by kernel_rfl)
theorem Zen:Z4C P 42 4:=Z4C.array (n:=4) (z:=1) Try.underlying42 Zhm (by kernel_rfl)
theorem Zkw:Z4C P 44 5:=Z4C.struct2 (z0:=1) (z1:=4) Try.underlying44 Zhm Zen rfl rfl (by kernel_rfl)
theorem ZmV:Z4C P 45 20:=Z4C.array (n:=4) (z:=5) Try.underlying45 Zkw (by kernel_rfl)
theorem Zcq {H:Type} {enc:TypeId × Value->H} {W:World} {base:Nat} {v:Value} {d:DataW H} {ps:List MemPlace} (hval:Value.okWide P W .any base 24 v) (hd:DataW.Trod enc P W 0 (fun _=>true) true 24 v d ps) :
 ∃ s n Gl,v = .agg #[s]/\Z6f W s 20 n Gl :=
 Zmz Try.underlying24 (by kernel_rfl) (by kernel_rfl) Try.underlying22 rfl rfl (by kernel_rfl) ZmV qO hval hd
theorem ZgM {H:Type} {enc:TypeId × Value->H} {W:World} {base:Nat} {v:Value} {d:DataW H} {ps:List MemPlace} (hval:Value.okWide P W .any base 42 v) (hd:DataW.Trod enc P W 0 (fun _=>true) true 42 v d ps) :
 ∃ L,v=av L/\L.length=4:=ZiV Try.underlying42 Zen hval hd
theorem Zh4 {f:FuncId} {W:World} {A:FH} {μ:Mu} {xs ys:List Value} (hR:R μ A W) (hf:Z1Y μ 1) (hro:∀ i m,μ i=some m->wrB (HeapC.get A i)=false) (hv:VRs μ xs ys) (h:Ans (G (.fn f) xs A 1 []) fun x=>x.e = .ret/\x.vs=[.bool true]) :
 Calls P f ys.toArray W (Zm5 W):=by
 obtain ⟨x,hx,he,hvs⟩:=h
 refine (Zf7 bk_ok ext_ok mixed hx hv hR hf).mono ?_
 rintro en w' ⟨u,v',μ',h1,h2,h3,hE⟩
 rw [hvs] at h1
 cases h1
 exact ⟨by rw [h2,h3.bool_left],hE.os,hE.tape,hE.output,hE.size,fun k hk=>hE.fr k hk (fun i m e hw=>by rw [hro i m e] at hw; cases hw)⟩
end Go.Proofs.Ytdodippbpdechaa
