/- Parts of a proof: Sane. Conditions: none. -/
import Derived.Test.YtdodippbpdechaaM13
import Derived.Test.YtdodippbpdechaaM22
set_option linter.all false
set_option maxRecDepth 100000
set_option maxHeartbeats 4000000
namespace Go.Proofs.Ytdodippbpdechaa
open Go Go.Ab Go.Proofs
set_option maxRecDepth 1000000
theorem Zp1:(evT (H:=TH) tab 1000000 (.fn 10) [] TH.empty 0 []).map (fun r=>r.vs)=some [.bool true]:=by kernel_rfl
theorem ZkP:∃ r,run (H:=TH) P bk (.fn 10) [] TH.empty 0 []=some r/\r.vs=[.bool true]:=by
 have h:=Zp1
 cases e:evT (H:=TH) tab 1000000 (.fn 10) [] TH.empty 0 [] with
 | none=>rw [e] at h; cases h
 | some r =>
  rw [e] at h;simp only [Option.map_some,Option.some.injEq] at h;exact ⟨r,ev_run trivial (fun i st hst=>by rw [TH.inv_empty TH.empty rfl i] at hst; cases hst) e,h⟩
theorem ext_ok:FnOK P ext:=by
 intro f args A c r e;unfold ext at e
 cases args with
 | cons x xs=>cases e
 | nil =>
  dsimp only at e
  cases hn:ZqD f [10] with
  | false=>rw [hn] at e; cases e
  | true =>
   rw [hn] at e;simp only [cond_true,Option.some.injEq] at e;have hf:f=10:=by
    simp only [ZqD] at hn
    cases hb:Nat.beq f 10 with
    | true=>exact qJ hb
    | false=>rw [hb] at hn; cases hn
   subst hf;subst e;obtain ⟨r0,h1,h2⟩:=ZkP;refine ⟨fun vs w=>Z9m Try.func10 (by kernel_rfl) rfl vs w,fun μ w args' ha hR hf=>?_⟩;exact Zkf bk_ok mixed h1 h2 A c μ w args' ha hR hf
end Go.Proofs.Ytdodippbpdechaa
