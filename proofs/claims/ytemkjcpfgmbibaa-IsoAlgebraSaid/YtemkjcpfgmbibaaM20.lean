/- Parts of a proof: Sane. Conditions: none. -/
import Derived.Test.YtemkjcpfgmbibaaM14
import Derived.Test.YtemkjcpfgmbibaaM19
set_option linter.all false
set_option maxRecDepth 100000
namespace Go.Proofs.Ytemkjcpfgmbibaa
open Go Go.Ab Go.Proofs
set_option maxRecDepth 1000000
noncomputable def Zhr {H:Type} [HeapC H] (f:FuncId):Orc H->List Value->H->Nat->Option (Rt H):=fun _ args h c=>Base.extP f args h c
noncomputable def tabX {H:Type} [HeapC H]:Tab H :=
 { F:=fun f=>cond (Nat.beq f 60) (some (Zhr 60)) (cond (Nat.beq f 66) (some (Zhr 66)) (cond (Nat.beq f 65) (some (Zhr 65)) (tbF.look f))),L:=tab.L,R:=tab.R }
theorem Zax {H:Type} [HeapC H] {f:FuncId} {o:Orc H} {args:List Value} {h:H} {c:Nat} {r:Rt H} (e:Zhr f o args h c=some r):Base.extP f args h c=some r/\r.h=h:=by
 refine ⟨e, ?_⟩
 simp only [Zhr,Base.extP,Option.bind_eq_some_iff] at e
 obtain ⟨v,_,e⟩:=e
 cases e
 rfl
theorem Zmj {H:Type} [HeapC H]:TabX (H:=H) P bk K Base.extP tabX where
 F:=by
  intro f F e
  simp only [tabX] at e
  cases h1:Nat.beq f 60 with
  | true=>rw [h1] at e; cases e; rw [Nat.eq_of_beq_eq_true h1]; exact .inr fun o args h c r e=>Zax (o:=o) e
  | false =>
   rw [h1] at e
   cases h2:Nat.beq f 66 with
   | true=>rw [h2] at e; cases e; rw [Nat.eq_of_beq_eq_true h2]; exact .inr fun o args h c r e=>Zax (o:=o) e
   | false =>
    rw [h2] at e
    cases h3:Nat.beq f 65 with
    | true=>rw [h3] at e; cases e; rw [Nat.eq_of_beq_eq_true h3]; exact .inr fun o args h c r e=>Zax (o:=o) e
    | false =>
     rw [h3] at e
     refine .inl ⟨fun args h c=>?_,ZgO.F f F e⟩
     simp only [Base.extP,Base.purX,h1,h2,h3,cond_false,Option.bind_none]
 L:=fun j B e lin b nt hk=>ZgO.L j B lin b nt e hk
 R:=fun nt ps D e lin a b hk=>ZgO.R nt ps D lin a b e hk
theorem Zmn:(evT (H:=TH) tabX 1000000 (.fn 13) [] TH.empty 0 []).map (fun r=>r.vs)=some [.bool true]:=by kernel_rfl
theorem Ziv:∃ r,Z8a (H:=TH) P bk Base.extP (.fn 13) [] TH.empty 0 []=some r/\r.vs=[.bool true]:=by
 have h:=Zmn
 cases e:evT (H:=TH) tabX 1000000 (.fn 13) [] TH.empty 0 [] with
 | none=>rw [e] at h; cases h
 | some r =>
  rw [e] at h
  simp only [Option.map_some,Option.some.injEq] at h
  exact ⟨r,(ZeS Zmj 1000000 (.fn 13) [] TH.empty 0 [] r trivial (fun i st hst=>by rw [TH.inv_empty TH.empty rfl i] at hst; cases hst) e).1,h⟩
theorem Zf7 (A:FH) (c:Nat) (μ:Mu) (w:World) (args':List Value) (ha:VRs μ [] args') (hR:R μ A w) (hf:Z1C μ c) :
 Calls P 13 args'.toArray w (Z4D μ A c w ⟨.ret,[.bool true],A,c,[]⟩):=by
 obtain ⟨r0,h1,h2⟩:=Ziv
 exact Z7S (args:=[]) (args0:=[]) h2 (fun μ args' h=>by rw [h.nil_left]; exact VRs.nil _) (fun μ μ' v' h=>Zie h)
  (fun μ w args' ha hR hf=>Zf8 Zgy Base.extP_ok Zfg h1 ha hR hf) A c μ w args' ha hR hf
theorem ext_ok:FnOK P ext:=by
 intro f args A c r e
 unfold ext at e
 cases args with
 | cons x xs=>cases e
 | nil =>
  dsimp only at e
  cases hn:Zhb f [13] with
  | false=>rw [hn] at e; cases e
  | true =>
   rw [hn] at e
   simp only [cond_true,Option.some.injEq] at e
   have hf:f=13:=by
    simp only [Zhb] at hn
    cases hb:Nat.beq f 13 with
    | true=>exact Nat.eq_of_beq_eq_true hb
    | false=>rw [hb] at hn; cases hn
   subst hf
   subst e
   exact ⟨fun vs w=>Z2h Try.func13 (by kernel_rfl) rfl vs w,fun μ w args' ha hR hf=>Zf7 A c μ w args' ha hR hf⟩
end Go.Proofs.Ytemkjcpfgmbibaa
