/- Parts of a proof: Sane. Conditions: none. -/
import Derived.Test.YtdodippbpdechaaM13
import Derived.Test.YtdodippbpdechaaM21
set_option linter.all false
set_option maxRecDepth 100000
namespace Go.Proofs.Ytdodippbpdechaa
open Go Go.Ab Go.Proofs
set_option maxRecDepth 1000000
theorem Zmj:(evT (H:=TH) tab 1000000 (.fn 10) [] TH.empty 0 []).map (fun r=>r.vs)=some [.bool true]:=by kernel_rfl
theorem ZiD:∃ r,run (H:=TH) P bk (.fn 10) [] TH.empty 0 []=some r/\r.vs=[.bool true]:=by
 have h:=Zmj
 cases e:evT (H:=TH) tab 1000000 (.fn 10) [] TH.empty 0 [] with
 | none=>rw [e] at h; cases h
 | some r =>
  rw [e] at h
  simp only [Option.map_some,Option.some.injEq] at h
  exact ⟨r,ev_run trivial (fun i st hst=>by rw [TH.inv_empty TH.empty rfl i] at hst; cases hst) e,h⟩
theorem ext_ok:FnOK P ext:=by
 intro f args A c r e
 unfold ext at e
 cases args with
 | cons x xs=>cases e
 | nil =>
  dsimp only at e
  cases hn:ZnT f [10] with
  | false=>rw [hn] at e; cases e
  | true =>
   rw [hn] at e
   simp only [cond_true,Option.some.injEq] at e
   have hf:f=10:=by
    simp only [ZnT] at hn
    cases hb:Nat.beq f 10 with
    | true=>exact Nat.eq_of_beq_eq_true hb
    | false=>rw [hb] at hn; cases hn
   subst hf
   subst e
   obtain ⟨r0,h1,h2⟩:=ZiD
   refine ⟨fun vs w=>Z7w Try.func10 (by kernel_rfl) rfl vs w,fun μ w args' ha hR hf=>?_⟩
   exact Zi1 bk_ok mixed h1 h2 A c μ w args' ha hR hf
end Go.Proofs.Ytdodippbpdechaa
