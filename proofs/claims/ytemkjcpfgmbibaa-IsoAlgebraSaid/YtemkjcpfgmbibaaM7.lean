/- Parts of a proof: AbX AbSym AbPerm AbGlue AbRng. Conditions: none. -/
import Derived.Test.YtemkjcpfgmbibaaM6
import Derived.KernelRfl
set_option linter.all false
set_option maxRecDepth 100000
namespace Go.Ab
open Go
variable {H:Type} [HeapC H] {P:Program}
def ZlL (P:Program) (oc:Fo H):Prop :=
 ∀ (f:FuncId) (args:List Value) (A:H) (c:Nat) (r:Rt H),oc f args A c=some r →
  (∀ avs w,(callFunc f avs).run P w = .ok (.enter f avs) w) ∧
  ∀ (μ:Mu) (w:World) (args':List Value),VRs μ args args'->R μ A w->Z1C μ c->Calls P f args'.toArray w (Z4D μ A c w r)
def Z1U (P:Program) (bk:FuncId->Option AFun) (ext:Fo H) (o:Orc H):Orc H
 | .fn f,args,h,c,df =>
  match ext f args h c with
  | some r=>some r
  | none=>Z1t P bk o (.fn f) args h c df
 | k,vs,h,c,df=>Z1t P bk o k vs h c df
theorem OS.stepX {bk:FuncId->Option AFun} {ext:Fo H} (hbk:Z6c P bk) (hext:ZlL P ext) {o:Orc H} {k:Nat} (hO:OS P o) (hL:Z1Y P o k) (hmix:P.follows .mixedOrders=true):OS P (Z1U P bk ext o) where
 fn:=by
  intro f args A c df r e
  simp only [Z1U] at e
  cases he:ext f args A c with
  | some q =>
   rw [he] at e
   cases e
   exact hext f args A c _ he
  | none =>
   rw [he] at e
   exact (OS.step hbk hO hL hmix).fn f args A c df r e
 rnd:=by
  intro nt lin fr params l x y vs A c df r e μ w ts m ro n f hm ht hR hf
  exact (OS.step hbk hO hL hmix).rnd nt lin fr params l x y vs A c df r e μ w ts m ro n f hm ht hR hf
theorem Z1Y.stepX {bk:FuncId->Option AFun} {ext:Fo H} {o:Orc H} {k:Nat} (hO:OS P o) (hL:Z1Y P o k) (hmix:P.follows .mixedOrders=true):Z1Y P (Z1U P bk ext o) (k+1) :=
 fun j lin fr b nt rd vs A c df r e=>Z1Y.step (bk:=bk) hO hL hmix j lin fr b nt rd vs A c df r e
def ZbK (P:Program) (bk:FuncId->Option AFun) (ext:Fo H):Nat->Orc H
 | 0=>fun _ _ _ _ _=>none
 | n+1=>Z1U P bk ext (ZbK P bk ext n)
theorem Z8l {bk:FuncId->Option AFun} {ext:Fo H} (hbk:Z6c P bk) (hext:ZlL P ext) (hmix:P.follows .mixedOrders=true):∀ n,OS P (ZbK P bk ext n)/\Z1Y P (ZbK P bk ext n) n
 | 0=>⟨⟨(fun _ _ _ _ _ _ e=>by cases e),(fun _ _ _ _ _ _ _ _ _ _ _ _ e=>by cases e)⟩,fun _ _ _ _ _ _ _ _ _ _ _ e=>by cases e⟩
 | n+1=>⟨OS.stepX hbk hext (Z8l hbk hext hmix n).1 (Z8l hbk hext hmix n).2 hmix,Z1Y.stepX (Z8l hbk hext hmix n).1 (Z8l hbk hext hmix n).2 hmix⟩
theorem Za8 {bk:FuncId->Option AFun} {ext:Fo H} {ox:Orc H} {os:Nat->Orc H} (hF:Fam ox os):Fam (Z1U P bk ext ox) (fun n=>Z1U P bk ext (os n)):=by
 intro k args h c df r e
 cases k with
 | fn f =>
  simp only [Z1U] at e ⊢
  cases he:ext f args h c with
  | some q=>rw [he] at e; exact Ev.const e
  | none=>rw [he] at e; exact Z4Z hF _ _ _ _ _ _ e
 | rnd nt lin fr params l a b=>exact Z4Z (P:=P) (bk:=bk) hF (.rnd nt lin fr params l a b) args h c df r e
 | lp j lin fr b nt rd=>exact Z4Z (P:=P) (bk:=bk) hF (.lp j lin fr b nt rd) args h c df r e
theorem Z7A {bk:FuncId->Option AFun} {ext:Fo H}:∀ n k args (h:H) c df r,ZbK P bk ext n k args h c df=some r->ZbK P bk ext (n+1) k args h c df=some r
 | 0,k,args,h,c,df,r,e=>by cases e
 | n+1,k,args,h,c,df,r,e=>by
  have hF:Fam (ZbK P bk ext n) (fun _=>ZbK P bk ext (n+1)):=fun k args h c df r e=>Ev.const (Z7A n k args h c df r e)
  obtain ⟨m,hm⟩:=Za8 hF k args h c df r e
  exact hm m (Nat.le_refl _)
theorem Zcs {bk:FuncId->Option AFun} {ext:Fo H} {n m:Nat} (hnm:n<=m) {k:Key} {args:List Value} {h:H} {c:Nat} {df:List Nat} {r:Rt H} (e:ZbK P bk ext n k args h c df=some r):ZbK P bk ext m k args h c df=some r:=by
 induction hnm with
 | refl=>exact e
 | step _ ih=>exact Z7A _ _ _ _ _ _ _ ih
open Classical in
noncomputable def Z8a (P:Program) (bk:FuncId->Option AFun) (ext:Fo H):Orc H:=fun k args h c df =>
 if hx:∃ n r,ZbK P bk ext n k args h c df=some r then ZbK P bk ext (Classical.choose hx) k args h c df else none
theorem Zmq {bk:FuncId->Option AFun} {ext:Fo H} {n:Nat} {k:Key} {args:List Value} {h:H} {c:Nat} {df:List Nat} {r:Rt H} (e:ZbK P bk ext n k args h c df=some r):Z8a P bk ext k args h c df=some r:=by
 have hx:∃ n r,ZbK P bk ext n k args h c df=some r:=⟨n,r,e⟩
 unfold Z8a
 rw [dif_pos hx]
 obtain ⟨r',h'⟩:=Classical.choose_spec hx
 have h1:=Zcs (Nat.le_max_left (Classical.choose hx) n) h'
 have h2:=Zcs (Nat.le_max_right (Classical.choose hx) n) e
 rw [h1] at h2
 rw [h',h2]
theorem Z89 {bk:FuncId->Option AFun} {ext:Fo H} {k:Key} {args:List Value} {h:H} {c:Nat} {df:List Nat} {r:Rt H} (e:Z8a P bk ext k args h c df=some r):∃ n,ZbK P bk ext n k args h c df=some r:=by
 unfold Z8a at e
 split at e
 · exact ⟨_,e⟩
 · cases e
theorem Ziy {bk:FuncId->Option AFun} {ext:Fo H}:Fam (Z8a P bk ext) (ZbK P bk ext):=by
 intro k args h c df r e
 obtain ⟨n,hn⟩:=Z89 e
 exact ⟨n,fun m hm=>Zcs hm hn⟩
theorem Z4I {bk:FuncId->Option AFun} {ext:Fo H} {k:Key} {args:List Value} {h:H} {c:Nat} {df:List Nat} {r:Rt H} (e:Z1U P bk ext (Z8a P bk ext) k args h c df=some r):Z8a P bk ext k args h c df=some r:=by
 obtain ⟨n,hn⟩:=Za8 (Ziy (P:=P) (bk:=bk) (ext:=ext)) k args h c df r e
 exact Zmq (n:=n+1) (hn n (Nat.le_refl _))
theorem Z5o {bk:FuncId->Option AFun} {ext:Fo H}:∀ n j lin fr b nt rd vs (h:H) c df r,ZbK P bk ext n (.lp j lin fr b nt rd) vs h c df=some r->r.vs.length=lin.length
 | 0,_,_,_,_,_,_,_,_,_,_,_,e=>by cases e
 | n+1,j,lin,fr,b,nt,rd,vs,h,c,df,r,e=>by
  simp only [ZbK,Z1U,Z1t,Option.bind_eq_some_iff] at e
  obtain ⟨q,hq,ws,hw,e⟩:=e
  cases hq1:q.1 with
  | normal=>rw [hq1] at e; exact Z5o n j lin fr b nt rd _ _ _ _ r e
  | exit id=>rw [hq1] at e; cases e; exact Z20 hw
  | ret=>rw [hq1] at e; cases e; exact Z20 hw
theorem Z4J {bk:FuncId->Option AFun} {ext:Fo H}:OLen (Z8a P bk ext):=fun _ _ _ _ _ _ _ _ _ _ _ e=>by
 obtain ⟨n,hn⟩:=Z89 e
 exact Z5o _ _ _ _ _ _ _ _ _ _ _ _ hn
theorem Zf8 {bk:FuncId->Option AFun} {ext:Fo H} (hbk:Z6c P bk) (hext:ZlL P ext) (hmix:P.follows .mixedOrders=true) {f:FuncId} {args args':List Value} {A:H} {c:Nat} {r:Rt H} (e:Z8a P bk ext (.fn f) args A c []=some r) {μ:Mu} {w:World}
 (hv:VRs μ args args') (hR:R μ A w) (hfr:Z1C μ c):Calls P f args'.toArray w (Z4D μ A c w r):=by
 obtain ⟨n,hn⟩:=Z89 e
 exact ((Z8l hbk hext hmix n).1.fn f args A c [] r hn).2 μ w args' hv hR hfr
theorem Zmr {bk:FuncId->Option AFun} {ext:Fo H} {f:FuncId} {a:AFun} (ha:bk f=some a) (hfr:a.fr=[]) {args:List Value} {h:H} {c:Nat} (hxt:ext f args h c=none) {df:List Nat} {r:Rt H} (hlen:Nat.ble args.length a.nt=true)
 (e:jx P (Z8a P bk ext) a.nt none a.code (Z0g (List.range args.length) args) h c [] (Kfn P a.res)=some r):Z8a P bk ext (.fn f) args h c df=some r:=by
 refine Z4I ?_
 obtain ⟨e1,tm1,tm1',h1,c1,df1,hx,hl,hk⟩:=Z2e Z4J e (Tm.le_refl _)
 simp only [Z1U,hxt,Z1t,ha,Option.bind_some,hlen,cond_true,hx,hfr,Z1B]
 cases e1 with
 | exit id=>cases hk
 | normal =>
  simp only [Kfn,Z4M,Option.bind_eq_some_iff] at hk ⊢
  obtain ⟨h2,ht,vs,hv,hk⟩:=hk
  exact ⟨h2,ht,vs,Z52 hl hv,hk⟩
 | ret =>
  simp only [Kfn,Z4M,Option.bind_eq_some_iff] at hk ⊢
  obtain ⟨h2,ht,vs,hv,hk⟩:=hk
  exact ⟨h2,ht,vs,Z52 hl hv,hk⟩
theorem ZbD {bk:FuncId->Option AFun} {ext:Fo H} {j nt:Nat} {lin:List Nat} {b:ACode} {rd:Option Nat} {vs:List Value} {h:H} {c:Nat} {df:List Nat} {q r:Rt H}
 (e:jx P (Z8a P bk ext) nt rd b (Z0g lin vs) h c df (Klp lin)=some q) (hq:q.e = .normal) (k:Z8a P bk ext (.lp j lin [] b nt rd) q.vs q.h q.c q.df=some r):Z8a P bk ext (.lp j lin [] b nt rd) vs h c df=some r:=by
 refine Z4I ?_
 obtain ⟨e1,tm1,tm1',h1,c1,df1,hx,hl,hk⟩:=Z2e Z4J e (Tm.le_refl _)
 simp only [Klp,Option.bind_eq_some_iff] at hk
 obtain ⟨ws,hw,hk⟩:=hk
 cases hk
 simp only at hq
 subst hq
 simp only [Z1U,Z1t,hx,Option.bind_some,Z5x hl hw,Z1B]
 exact k
theorem Z7w {bk:FuncId->Option AFun} {ext:Fo H} {j nt:Nat} {lin:List Nat} {b:ACode} {rd:Option Nat} {vs:List Value} {h:H} {c:Nat} {df:List Nat} {q:Rt H}
 (e:jx P (Z8a P bk ext) nt rd b (Z0g lin vs) h c df (Klp lin)=some q) (hq:q.e ≠ .normal):Z8a P bk ext (.lp j lin [] b nt rd) vs h c df=some q:=by
 refine Z4I ?_
 obtain ⟨e1,tm1,tm1',h1,c1,df1,hx,hl,hk⟩:=Z2e Z4J e (Tm.le_refl _)
 simp only [Klp,Option.bind_eq_some_iff] at hk
 obtain ⟨ws,hw,hk⟩:=hk
 cases hk
 simp only at hq
 simp only [Z1U,Z1t,hx,Option.bind_some,Z5x hl hw,Z1B]
theorem Zix {bk:FuncId->Option AFun} {ext:Fo H} {nt l:Nat} {lin params:List Nat} {a b:ACode} {vs:List Value} {h:H} {c:Nat} {df:List Nat} {r:Rt H}
 (e:jx P (Z8a P bk ext) nt (some l) a (Z0g (params++lin) vs) h c [] (fun e tm h c df=>match e with
  | .normal=>(Z2m h l).bind fun h1=>jx P (Z8a P bk ext) nt (some l) b tm h1 c df (Krd l)
  | .exit _=>none
  | .ret=>none)=some r):Z8a P bk ext (.rnd nt lin [] params l a b) vs h c df=some r:=by
 refine Z4I ?_
 obtain ⟨e1,tm1,tm1',h1,c1,df1,hx,hl,hk⟩:=Z2e Z4J e (Tm.le_refl _)
 cases e1 with
 | exit id=>cases hk
 | ret=>cases hk
 | normal =>
  simp only [Option.bind_eq_some_iff] at hk
  obtain ⟨h2,hb,hk⟩:=hk
  obtain ⟨e3,tm3,tm3',h3,c3,df3,hx3,hl3,hk3⟩:=Z2e Z4J hk hl
  simp only [Z1U,Z1t,hx,Option.bind_some,hb,hx3,Z1B]
  exact hk3
theorem Ziz {bk:FuncId->Option AFun} {ext:Fo H} {f:FuncId} {args:List Value} {h:H} {c:Nat} {df:List Nat} {r:Rt H} (e:ext f args h c=some r):Z8a P bk ext (.fn f) args h c df=some r:=by
 refine Z4I ?_
 simp only [Z1U,e]
structure TabX (P:Program) (bk:FuncId->Option AFun) (K:LB) (ext:Fo H) (T:Tab H):Prop where
 F:∀ f F,T.F f=some F->((∀ args h c,ext f args h c=none)/\FE P bk K f F) ∨ (∀ o args h c r,F o args h c=some r->ext f args h c=some r/\r.h=h)
 L:∀ j B,T.L j=some B->LE P K j B
 R:∀ nt ps D,T.R nt ps=some D->RE P K nt ps D
theorem ZeS {bk:FuncId->Option AFun} {K:LB} {ext:Fo H} {T:Tab H} (hT:TabX P bk K ext T):∀ n,Zbs K (evT T n) (Z8a P bk ext)
 | 0=>fun _ _ _ _ _ _ _ _ e=>by cases e
 | n+1=>by
  have ih:=ZeS hT n
  intro key args h c df r hk hi e
  cases key with
  | fn f =>
   simp only [Zbh,Option.bind_eq_some_iff] at e
   obtain ⟨F,hF,e⟩:=e
   rcases hT.F f F hF with ⟨hx,a,ha,hfr,hok,h1⟩ | h1
   · obtain ⟨hlen,h2⟩:=h1 _ _ _ _ _ e
     obtain ⟨e1,tm1,h3,c1,df1,h4,h5,h6⟩:=Zat ih hok hi h2
     exact ⟨Zmr ha hfr (hx _ _ _) hlen (by rw [h6]; exact h4),ZnQ h5 h4⟩
   · obtain ⟨h2,h3⟩:=h1 _ _ _ _ _ e
     exact ⟨Ziz h2,by rw [h3]; exact hi⟩
  | lp j lin fr b nt rd =>
   obtain ⟨rfl,hkl⟩:=hk
   simp only [Zbh,Option.bind_eq_some_iff] at e
   obtain ⟨B,hB,q,hq,e⟩:=e
   obtain ⟨hok,h1⟩:=hT.L j B hB lin b nt hkl
   have h2:=h1 _ _ _ _ _ _ _ hq
   obtain ⟨e1,tm1,h3,c1,df1,h4,h5,h6⟩:=Zat ih hok hi h2
   have h7:jx P (Z8a P bk ext) nt rd b (Z0g lin args) h c df (Klp lin)=some q:=by rw [h6]; exact h4
   have hqe:q.e=e1/\Z6b K q.h:=by
    simp only [Klp,Option.bind_eq_some_iff] at h4
    obtain ⟨ws,_,h4⟩:=h4
    cases h4
    exact ⟨rfl,h5⟩
   cases hx:q.e with
   | normal =>
    rw [hx] at e
    obtain ⟨h8,h9⟩:=ih (.lp j lin [] b nt rd) _ _ _ _ _ ⟨rfl,hkl⟩ hqe.2 e
    exact ⟨ZbD h7 hx h8,h9⟩
   | exit i =>
    rw [hx] at e
    have:r=q:=by obtain ⟨qe,qv,qh,qc,qd⟩:=q; simp only at hx; subst hx; cases e; rfl
    subst this
    exact ⟨Z7w h7 (by rw [hx]; simp),hqe.2⟩
   | ret =>
    rw [hx] at e
    have:r=q:=by obtain ⟨qe,qv,qh,qc,qd⟩:=q; simp only at hx; subst hx; cases e; rfl
    subst this
    exact ⟨Z7w h7 (by rw [hx]; simp),hqe.2⟩
  | rnd nt lin fr params l a b =>
   obtain ⟨rfl,hkr⟩:=hk
   simp only [Zbh,Option.bind_eq_some_iff] at e
   obtain ⟨D,hD,e⟩:=e
   obtain ⟨hoa,hob,h1⟩:=hT.R nt params D hD lin a b hkr
   have h2:=h1 _ _ _ _ _ _ e
   obtain ⟨e1,tm1,h3,c1,df1,h4,h5,h6⟩:=Zat ih hoa hi h2
   cases e1 with
   | exit i=>cases h4
   | ret=>cases h4
   | normal =>
    simp only [ZlO,Option.bind_eq_some_iff] at h4
    obtain ⟨h7,hb,h8⟩:=h4
    obtain ⟨e2,tm2,h9,c2,df2,h10,h11,h12⟩:=Zat ih hob (Zde h5 hb) h8
    refine ⟨Zix (by rw [h6]; simp only [hb,Option.bind_some]; rw [h12]; exact h10), ?_⟩
    simp only [Krd,Option.bind_eq_some_iff] at h10
    obtain ⟨h13,hs,h14⟩:=h10
    obtain ⟨_,h14⟩:=Z02 h14
    cases h14
    exact ZbC h11 hs
theorem Z7S {H':Type} [HeapC H'] {f:FuncId} {args args0:List Value} {v:Value} {A0:H'} {r0:Rt H'} (hv:r0.vs=[v])
 (hargs:∀ (μ:Mu) (args':List Value),VRs μ args args'->VRs (fun _=>none) args args') (hres:∀ (μ μ':Mu) (v':Value),VR μ v v'->VR μ' v v')
 (e:∀ (μ:Mu) (w:World) (args':List Value),VRs μ args args'->R μ A0 w->Z1C μ 0->Calls P f args'.toArray w (Z4D μ A0 0 w r0))
 (A:H) (c:Nat) (μ:Mu) (w:World) (args':List Value) (ha:VRs μ args args') (hR:R μ A w) (hf:Z1C μ c):Calls P f args'.toArray w (Z4D μ A c w { e:=.ret,vs:=[v],h:=A,c:=c,df:=[] }):=by
 have h0:R (fun _=>none:Mu) A0 w:=⟨(fun i m e=>by cases e),(fun i j mi mj ei=>by cases ei),(fun i m e=>by cases e)⟩
 refine (e _ w args' (hargs μ args' ha) h0 (fun i hi=>rfl)).mono ?_
 rintro en w' ⟨u,v',μ',h1,h2,h3,hE⟩
 rw [hv] at h1
 cases h1
 have hfr:∀ b,b<w.heap.size->w'.heap[b]? = w.heap[b]?:=fun b hb=>hE.fr b hb (fun i m e=>(by cases e))
 refine ⟨_,v',μ,rfl,h2,hres μ' μ v' h3, ?_⟩
 refine { mu:=fun i m e=>e,new:=fun i e0 e1=>absurd e0 e1,cle:=Nat.le_refl _,rel:=?_,af:=fun i e0 hi _=>rfl,os:=hE.os,tape:=hE.tape,output:=hE.output,size:=hE.size,fr:=fun b hb _=>hfr b hb,wrm:=fun i m e hw=>hw,newb:=fun i m e0 e1=>(by rw [e0] at e1; cases e1),dd:=fun i m e hd=>hd }
 refine ⟨fun i m em=>?_,hR.inj,fun i m em=>Nat.lt_of_lt_of_le (hR.lt i m em) hE.size⟩
 have hb:=hR.blk i m em
 have hl:=hR.lt i m em
 unfold Z6g at hb ⊢
 rw [hfr m.b hl]
 exact hb
end Go.Ab

namespace Go.Ab
open Go
variable {P:Program}
@[simp] theorem boolK_bool {β:Type} (t:Bool) (a b:Option β):Z09 (.bool t) a b=cond t a b:=rfl
@[simp] theorem gv_bool (b w:Bool):gv (.bool b) w=some (b == w):=rfl
@[simp] theorem ret1_v {H:Type} (h:H) (c:Nat) (v:Value):Z6e h c (some v)=some (v,h,c):=rfl
@[simp] theorem pickV_bool (t:Bool) (a b:Value):Z0v (.bool t) a b=some (cond t a b):=rfl
@[simp] theorem pickR_bool {H:Type} (h:H) (c:Nat) (t:Bool) (a b:Value):Zmy h c (.bool t) a b=some (cond t a b,h,c):=rfl
@[simp] theorem exIs_nn:Z0t .normal .normal=true:=rfl
@[simp] theorem exIs_rr:Z0t .ret .ret=true:=rfl
@[simp] theorem exIs_nr:Z0t .normal .ret=false:=rfl
@[simp] theorem exIs_rn:Z0t .ret .normal=false:=rfl
@[simp] theorem exIs_ne (i:Nat):Z0t .normal (.exit i)=false:=rfl
@[simp] theorem exIs_re (i:Nat):Z0t .ret (.exit i)=false:=rfl
@[simp] theorem exIs_en (i:Nat):Z0t (.exit i) .normal=false:=rfl
@[simp] theorem exIs_er (i:Nat):Z0t (.exit i) .ret=false:=rfl
@[simp] theorem exIs_ee (i j:Nat):Z0t (.exit i) (.exit j)=decide (i=j):=by
 show Nat.beq i j=_
 rw [Bool.eq_iff_iff]; simp
@[simp] theorem v_zero {H:Type} (e:Ex) (v:Value) (vs:List Value) (h:H) (c:Nat) (df:List Nat):Rt.v { e:=e,vs:=v::vs,h:=h,c:=c,df:=df } 0=v:=rfl
@[simp] theorem v_succ {H:Type} (e:Ex) (v:Value) (vs:List Value) (h:H) (c:Nat) (df:List Nat) (i:Nat) :
 Rt.v { e:=e,vs:=v::vs,h:=h,c:=c,df:=df } (i+1)=Rt.v { e:=e,vs:=vs,h:=h,c:=c,df:=df } i:=rfl
@[simp] theorem aBinOp_lss (t:TypeId) (k:IntKind) (a b:Int):Z00 P .lss t (.int k a) (.int k b)=some (.bool (decide (a<b))):=by rw [Z0u]; simp [Z0H,Z1z]
@[simp] theorem aBinOp_leq (t:TypeId) (k:IntKind) (a b:Int):Z00 P .leq t (.int k a) (.int k b)=some (.bool (decide (a<=b))):=by rw [Z0u]; simp [Z0H,Z1z]
@[simp] theorem aBinOp_gtr (t:TypeId) (k:IntKind) (a b:Int):Z00 P .gtr t (.int k a) (.int k b)=some (.bool (decide (b<a))):=by rw [Z0u]; simp [Z0H,Z1z]
@[simp] theorem aBinOp_geq (t:TypeId) (k:IntKind) (a b:Int):Z00 P .geq t (.int k a) (.int k b)=some (.bool (decide (b<=a))):=by rw [Z0u]; simp [Z0H,Z1z]
@[simp] theorem aBinOp_eql (t:TypeId) (k:IntKind) (a b:Int):Z00 P .eql t (.int k a) (.int k b)=some (.bool (decide (a=b))):=by rw [Z0u]; simp only [Z0H,Z1z,decide_true,cond_true]; congr
@[simp] theorem aBinOp_neq (t:TypeId) (k:IntKind) (a b:Int):Z00 P .neq t (.int k a) (.int k b)=some (.bool (!decide (a=b))):=by rw [Z0u]; simp only [Z0H,Z1z,decide_true,cond_true]; congr
theorem Z8Z (t:TypeId) (a b:Int):Z00 P .add t (.int .i64 a) (.int .i64 b)=some (.int .i64 (IntKind.i64.wrap (a+b))):=by rw [Z0u]; simp [Z0H,Z1z]
@[simp] theorem aBinOp_add (t:TypeId) (a b:Int) (h1:-9223372036854775808<=a+b) (h2:a+b<9223372036854775808):Z00 P .add t (.int .i64 a) (.int .i64 b)=some (.int .i64 (a+b)):=by
 rw [Z8Z,Z3x h1 h2]
@[simp] theorem aBinOp_sub (t:TypeId) (a b:Int) (h1:-9223372036854775808<=a-b) (h2:a-b<9223372036854775808):Z00 P .sub t (.int .i64 a) (.int .i64 b)=some (.int .i64 (a-b)):=by
 rw [Z0u]; simp only [Z0H,Z1z,decide_true,cond_true,Z3x h1 h2]
@[simp] theorem aBinOp_mul (t:TypeId) (a b:Int) (h1:-9223372036854775808<=a*b) (h2:a*b<9223372036854775808):Z00 P .mul t (.int .i64 a) (.int .i64 b)=some (.int .i64 (a*b)):=by
 rw [Z0u]; simp only [Z0H,Z1z,decide_true,cond_true,Z3x h1 h2]
@[simp] theorem aBinOp_quo (t:TypeId) (a b:Int) (h:b ≠ 0) (h1:-9223372036854775808<=a.tdiv b) (h2:a.tdiv b<9223372036854775808):Z00 P .quo t (.int .i64 a) (.int .i64 b)=some (.int .i64 (a.tdiv b)):=by
 rw [Z0u]; simp only [Z0H,Z1z,decide_true,cond_true,Z3x h1 h2,h,decide_false,cond_false]
@[simp] theorem aBinOp_rem (t:TypeId) (a b:Int) (h:b ≠ 0):Z00 P .rem t (.int .i64 a) (.int .i64 b)=some (.int .i64 (a.tmod b)):=by
 rw [Z0u]; simp only [Z0H,Z1z,decide_true,cond_true,h,decide_false,cond_false]
@[simp] theorem aUnOp_not (b:Bool):Z10 .not (.bool b)=some (.bool (!b)):=rfl
@[simp] theorem aUnOp_neg (a:Int) (h1:-9223372036854775808 <= -a) (h2:-a<9223372036854775808):Z10 .neg (.int .i64 a)=some (.int .i64 (-a)):=by
 simp only [Z10,Int.zero_sub,Z3x h1 h2]
@[simp] theorem cnvI_i64 (k:IntKind) (a:Int) (h1:-9223372036854775808<=a) (h2:a<9223372036854775808):Zin .i64 (.int k a)=some (.int .i64 a):=by simp only [Zin,Z3x h1 h2]
@[simp] theorem foldV_max (a b:Int):Z6t max2 [.int .i64 a,.int .i64 b]=some (.int .i64 (max a b)):=by
 simp only [Z6t,List.foldlM,max2,decide_true,cond_true]
 show some (Value.int .i64 _)=_
 congr 2
 split <;> omega
@[simp] theorem foldV_min (a b:Int):Z6t min2 [.int .i64 a,.int .i64 b]=some (.int .i64 (min a b)):=by
 simp only [Z6t,List.foldlM,min2,decide_true,cond_true]
 show some (Value.int .i64 _)=_
 congr 2
 split <;> omega
@[simp] theorem lenS_sl (a:Option Addr) (n k:Nat):Z1f (.slice a n k)=some (.int .i64 n):=rfl
@[simp] theorem addOff_ptrTo (i n:Nat):Z01 (ptrTo i) n=some (.pointer (some ⟨i,n,none⟩)):=by simp [Z01,ptrTo,Z2a]
@[simp] theorem addOff_ptr (i o n:Nat):Z01 (.pointer (some ⟨i,o,none⟩)) n=some (.pointer (some ⟨i,o+n,none⟩)):=rfl
@[simp] theorem nilCheck_ptrTo (i:Nat):Z0d (ptrTo i)=some (ptrTo i):=rfl
@[simp] theorem nilCheck_ptr (i o:Nat):Z0d (.pointer (some ⟨i,o,none⟩))=some (.pointer (some ⟨i,o,none⟩)):=rfl
theorem Z6a {len:Nat} {k:IntKind} {i:Int} (h1:0<=i) (h2:i<(len:Int)):ZlJ len (.int k i)=some i.toNat:=by
 unfold ZlJ
 cases i with
 | ofNat m =>
  dsimp only
  have:Nat.blt m len=true:=by rw [Nat.blt_eq]; simpa using h2
  rw [this]; rfl
 | negSucc m=>simp at h1
@[simp] theorem ixA_ptrTo (len sz b:Nat) (k:IntKind) (i:Int) (h1:0<=i) (h2:i<(len:Int)):ixA len sz (ptrTo b) (.int k i)=some (.pointer (some ⟨b,i.toNat*sz,none⟩)):=by
 simp [ixA,Z6a h1 h2]
@[simp] theorem ixA_ptr (len sz b o:Nat) (k:IntKind) (i:Int) (h1:0<=i) (h2:i<(len:Int)):ixA len sz (.pointer (some ⟨b,o,none⟩)) (.int k i)=some (.pointer (some ⟨b,o+i.toNat*sz,none⟩)):=by
 simp [ixA,Z6a h1 h2]
@[simp] theorem ixS_sl (sz b o n cap:Nat) (k:IntKind) (i:Int) (h1:0<=i) (h2:i<(n:Int)):ixS sz (.slice (some ⟨b,o,none⟩) n cap) (.int k i)=some (.pointer (some ⟨b,o+i.toNat*sz,none⟩)):=by
 simp [ixS,Z6a h1 h2]
@[simp] theorem get_newB_same (h:FH) (i:Nat) (cs:List Value):HeapC.get (newB h i cs) i=some (.cells false none cs):=by simp [newB,HeapC.get_set]
@[simp] theorem get_newB_ne (h:FH) (i j:Nat) (cs:List Value) (hne:j ≠ i):HeapC.get (newB h i cs) j=HeapC.get h j:=by simp [newB,HeapC.get_set,hne]
theorem FH.ext {a b:FH} (h:∀ i,a.f i=b.f i):a=b:=by
 cases a; cases b
 congr
 exact funext h
theorem Z0b (h:FH) (i:Nat) (cs:List Value) (j:Nat):(newB h i cs).f j=if j=i then some (.cells false none cs) else h.f j:=HeapC.get_set (H:=FH) h i _ j
@[simp] theorem newB_newB (h:FH) (i:Nat) (a b:List Value):newB (newB h i a) i b=newB h i b:=by
 apply FH.ext
 intro j
 simp only [Z0b]
 split <;> rfl
theorem newB_same (h:FH) (i:Nat) (cs:List Value) (hg:HeapC.get h i=some (.cells false none cs)):newB h i cs=h:=by
 apply FH.ext
 intro k
 rw [Z0b]
 split
 · rename_i e; rw [e]; exact hg.symm
 · rfl
def Z0a (h:FH) (b:Nat) (cs:List Value):Prop:=∃ ro op,HeapC.get h b=some (.cells ro op cs)
theorem Z0a.newB_same (h:FH) (i:Nat) (cs:List Value):Z0a (newB h i cs) i cs:=⟨_,_,get_newB_same h i cs⟩
theorem Z0a.newB_ne {h:FH} {i j:Nat} {cs ds:List Value} (hne:j ≠ i) (hh:Z0a h j ds):Z0a (newB h i cs) j ds:=by
 obtain ⟨ro,op,e⟩:=hh
 exact ⟨ro,op,by rw [get_newB_ne h i j cs hne]; exact e⟩
theorem ld1_holds {h:FH} {b o:Nat} {cs:List Value} {v:Value} (hh:Z0a h b cs) (hv:cs[o]? = some v):ld1 h (.pointer (some ⟨b,o,none⟩))=some v:=by
 obtain ⟨ro,op,e⟩:=hh
 simp [ld1,Z2a,Z5n,Z0r,e,hv]
theorem ldN_holds {h:FH} {n b o:Nat} {cs:List Value} (hh:Z0a h b cs) (hv:o+n<=cs.length):ldN h n (.pointer (some ⟨b,o,none⟩))=some (.agg ((cs.drop o).take n).toArray):=by
 obtain ⟨ro,op,e⟩:=hh
 have:Nat.ble (o+n) cs.length=true:=Nat.ble_eq_true_of_le hv
 simp [ldN,Z2a,Z17,Z0r,e,this]
@[simp] theorem ld1_newB_same (h:FH) (i o:Nat) (cs:List Value):ld1 (newB h i cs) (.pointer (some ⟨i,o,none⟩))=cs[o]?:=by simp [ld1,Z2a,Z5n,Z0r]
@[simp] theorem ld1_newB_ne (h:FH) (i j o:Nat) (cs:List Value) (hne:j ≠ i):ld1 (newB h i cs) (.pointer (some ⟨j,o,none⟩))=ld1 h (.pointer (some ⟨j,o,none⟩)):=by simp [ld1,Z2a,Z5n,Z0r,hne]
@[simp] theorem ld1_ptrTo (h:FH) (i:Nat):ld1 h (ptrTo i)=ld1 h (.pointer (some ⟨i,0,none⟩)):=rfl
@[simp] theorem ldN_ptrTo (h:FH) (n i:Nat):ldN h n (ptrTo i)=ldN h n (.pointer (some ⟨i,0,none⟩)):=rfl
@[simp] theorem ldN_newB_same (h:FH) (n i o:Nat) (cs:List Value) (hl:o+n<=cs.length):ldN (newB h i cs) n (.pointer (some ⟨i,o,none⟩))=some (.agg ((cs.drop o).take n).toArray) :=
 ldN_holds (Z0a.newB_same h i cs) hl
@[simp] theorem ldN_newB_ne (h:FH) (n i j o:Nat) (cs:List Value) (hne:j ≠ i):ldN (newB h i cs) n (.pointer (some ⟨j,o,none⟩))=ldN h n (.pointer (some ⟨j,o,none⟩)):=by simp [ldN,Z2a,Z17,Z0r,hne]
theorem Z0V (h:FH) (n i o:Nat) (cs:List Value) (x:Value) (h1:x.cells.size=n) (h2:o+n<=cs.length) (h3:x.cells.toList.all Z08=true) :
 stN (newB h i cs) n (.pointer (some ⟨i,o,none⟩)) x=some (newB h i (Z0M cs o x.cells.toList)):=by
 have a:Nat.beq x.cells.size n=true:=by rw [h1]; exact Nat.beq_refl n
 have b:Nat.ble (o+x.cells.toList.length) cs.length=true:=Nat.ble_eq_true_of_le (by simpa [h1] using h2)
 simp only [stN,Z2a,Option.bind_some,a,cond_true,Z1N,get_newB_same,b,h3,Bool.and_self]
 have:=newB_newB h i cs (Z0M cs o x.cells.toList)
 simp only [newB] at this ⊢
 rw [this]
@[simp] theorem stN_newB_ne (h:FH) (n i j o:Nat) (cs:List Value) (x:Value) (hne:j ≠ i) :
 stN (newB h i cs) n (.pointer (some ⟨j,o,none⟩)) x=(stN h n (.pointer (some ⟨j,o,none⟩)) x).map fun h'=>newB h' i cs:=by
 simp only [stN,Z2a,Option.bind_some]
 cases Nat.beq x.cells.size n with
 | false=>rfl
 | true =>
  simp only [cond_true,Z1N,get_newB_ne h i j cs hne]
  split
  · rename_i op c _
    cases Nat.ble (o+x.cells.toList.length) c.length && x.cells.toList.all Z08 with
    | false=>rfl
    | true =>
     simp only [cond_true,Option.map_some]
     congr 1
     apply FH.ext
     intro k
     have g:∀ (h:FH) (i:Nat) (b:ABlk) (k:Nat),(HeapC.set h i b).f k=if k=i then some b else h.f k:=fun h i b k=>HeapC.get_set (H:=FH) h i b k
     simp only [Z0b,g]
     by_cases hk:k=j
     · have h2:¬ k=i:=by omega
       rw [if_pos hk,if_neg h2,if_pos hk]
     · rw [if_neg hk,if_neg hk]
  · rfl
@[simp] theorem stN_ptrTo (h:FH) (n i:Nat) (x:Value):stN h n (ptrTo i) x=stN h n (.pointer (some ⟨i,0,none⟩)) x:=rfl
theorem Zff (c:Nat) (h A:FH) (i:Nat):(mrg c h A).f i=if i<256*c then h.f i else A.f i:=rfl
@[simp] theorem mrg_self (c:Nat) (A:FH):mrg c A A=A:=by
 apply FH.ext; intro i; rw [Zff]; split <;> rfl
@[simp] theorem mrg_new (c:Nat) (h A:FH) (i:Nat) (cs:List Value) (hi:256*c<=i):mrg c (newB h i cs) A=mrg c h A:=by
 apply FH.ext; intro j
 rw [Zff,Zff,Z0b]
 split
 · rw [if_neg qO]
 · rfl
@[simp] theorem mrg_old (c:Nat) (h A:FH) (i:Nat) (cs:List Value) (hi:i<256*c):mrg c (newB h i cs) A=newB (mrg c h A) i cs:=by
 apply FH.ext; intro j
 simp only [Zff,Z0b]
 by_cases e:j=i
 · rw [if_pos e,if_pos e,if_pos qO]
 · rw [if_neg e,if_neg e]
theorem GcH.refl (c:Nat) (A:FH):GcH c A A:=fun _ _=>.inl rfl
theorem GcH.new {c i:Nat} {h A:FH} {cs:List Value} (hi:256*c<=i) (hh:GcH c h A):GcH c (newB h i cs) A:=by
 intro j hj
 rw [Z0b,if_neg qO]
 exact hh j hj
theorem GcH.old {c i:Nat} {h A:FH} {cs:List Value} (hc:Z1X c cs) (hh:GcH c h A):GcH c (newB h i cs) A:=by
 intro j hj
 rw [Z0b]
 split
 · exact .inr hc
 · exact hh j hj
def ints (l:List Int):List Value:=l.map (.int .i64)
@[simp] theorem ints_length (l:List Int):(ints l).length=l.length:=by simp [ints]
theorem Z3z (l:List Int) (i:Nat):(ints l)[i]? = l[i]?.map (.int .i64):=by simp [ints]
theorem Z4Q (l:List Int):(ints l).all Z08=true:=by simp [ints,Z08]
theorem Z1X.ints (c:Nat) (l:List Int):Z1X c (ints l):=by
 intro v hv
 obtain ⟨n,_,rfl⟩:=List.mem_map.1 hv
 exact OkV.int c _ n
theorem Z1Q (l:List Int) (n:Nat):(ints l).drop n=ints (l.drop n):=by simp [ints]
theorem Z1y (l:List Int) (n:Nat):(ints l).take n=ints (l.take n):=by simp [ints]
theorem Z4d (l m:List Int):ints l++ints m=ints (l++m):=by simp [ints]
theorem Z57 (l:List Int) (i:Nat) (x:Int):(ints l).set i (.int .i64 x)=ints (l.set i x):=by simp [ints,List.map_set]
theorem Z2q (cs:List Value) (o:Nat) (v:Value) (h:o<cs.length):Z0M cs o [v]=cs.set o v:=by
 unfold Z0M
 rw [List.set_eq_take_append_cons_drop,if_pos h]
 simp
@[simp] theorem ints_getElem (l:List Int) (i:Nat) (h:i<(ints l).length):(ints l)[i] = .int .i64 (l[i]'(by simpa using h)):=by simp [ints]
def av (l:List Int):Value:=.agg (ints l).toArray
theorem ZnL (l:List Int):(av l).cells.toList.all Z08=true:=by simp [av,Value.cells,ints,Z08]
theorem Z4v (l:List Int):(av l).cells.toList=ints l:=by simp [av,Value.cells]
theorem ZnK (l:List Int):(av l).cells.size=l.length:=by simp [av,Value.cells]
theorem OkV.av (c:Nat) (l:List Int):OkV c (av l):=OkV.agg (Z1X.ints c l)
theorem Z7D (l:List Int) (len:Nat) (k:IntKind) (i:Int) (h1:0<=i) (h2:i<(len:Int)) (h3:l.length=len):ixV len false 1 (av l) (.int k i)=some (.int .i64 (l.getD i.toNat 0)):=by
 have h4:i.toNat<l.length:=by omega
 have h5:(ints l)[i.toNat*1]? = some (.int .i64 (l.getD i.toNat 0)):=by rw [Nat.mul_one,Z3z,List.getElem?_eq_getElem h4]; simp [List.getD,List.getElem?_eq_getElem h4]
 simp only [ixV,av,ZnM,Option.bind_some,Z6a h1 h2,ZbJ,cond_false,List.toList_toArray]
 exact h5
theorem ZmJ (l:List Int) (len sz:Nat) (k:IntKind) (i:Int) (h1:0<=i) (h2:i<(len:Int)) (h3:l.length=len*sz):ixV len true sz (av l) (.int k i)=some (av ((l.drop (i.toNat*sz)).take sz)):=by
 have h4:i.toNat<len:=by omega
 have h5:i.toNat*sz+sz<=len*sz:=by have:=Nat.mul_le_mul_right sz (Nat.succ_le_of_lt h4); rw [Nat.succ_mul] at this; exact this
 have h6:Nat.ble (i.toNat*sz+sz) (ints l).length=true:=Nat.ble_eq_true_of_le (by simpa [h3] using h5)
 simp only [ixV,av,ZnM,Option.bind_some,Z6a h1 h2,ZbJ,cond_true,List.toList_toArray,h6,Z1Q,Z1y]
def Z0q (c:Nat) (h h':FH):Prop:=∀ i,i<256*c->h'.f i=h.f i
theorem Z0q.refl (c:Nat) (h:FH):Z0q c h h:=fun _ _=>rfl
theorem Z0q.newB {c i:Nat} {h h':FH} {cs:List Value} (hi:256*c<=i) (hh:Z0q c h h'):Z0q c h (newB h' i cs):=by
 intro j hj
 rw [Z0b,if_neg qO]
 exact hh j hj
theorem Z0m (h:FH) (i:Nat) (b:ABlk) (j:Nat):(HeapC.set h i b).f j=if j=i then some b else h.f j:=HeapC.get_set (H:=FH) h i b j
theorem Zlv (h:FH) (i:Nat) (j:Nat):(HeapC.del h i).f j=if j=i then none else h.f j:=HeapC.get_del (H:=FH) h i j
theorem Z0q.set {c i:Nat} {h h':FH} {b:ABlk} (hi:256*c<=i) (hh:Z0q c h h'):Z0q c h (HeapC.set h' i b):=by
 intro j hj
 rw [Z0m,if_neg qO]
 exact hh j hj
theorem Z0q.mono {c c':Nat} {h h':FH} (hc:c<=c') (hh:Z0q c' h h'):Z0q c h h':=fun i hi=>hh i qO
theorem Z0q.trans {c:Nat} {a b d:FH} (h:Z0q c a b) (k:Z0q c b d):Z0q c a d:=fun i hi=>(k i hi).trans (h i hi)
def SlI (h:FH) (c:Nat) (s:Value) (sz n:Nat) (G:List Int):Prop :=
 G.length=n*sz/\n<=9223372036854775807 /\ ∃ a cap,s = .slice a n cap/\(n=0/\OkV c s ∨ ∃ b o cs,a=some ⟨b,o,none⟩/\b<256*c/\Z0a h b cs/\(cs.drop o).take (n*sz)=ints G)
theorem SlI.same {h h':FH} {c:Nat} {s:Value} {sz n:Nat} {G:List Int} (hs:SlI h c s sz n G) (hh:Z0q c h h'):SlI h' c s sz n G:=by
 obtain ⟨h1,h2,a,cap,h3,h4⟩:=hs
 refine ⟨h1,h2,a,cap,h3,h4.imp id ?_⟩
 rintro ⟨b,o,cs,e1,e2,⟨ro,op,e3⟩,e4⟩
 exact ⟨b,o,cs,e1,e2,⟨ro,op,(hh b e2).trans e3⟩,e4⟩
theorem SlI.mono {h:FH} {c c':Nat} {s:Value} {sz n:Nat} {G:List Int} (hs:SlI h c s sz n G) (hc:c<=c'):SlI h c' s sz n G:=by
 obtain ⟨h1,h2,a,cap,h3,h4⟩:=hs
 refine ⟨h1,h2,a,cap,h3, ?_⟩
 rcases h4 with ⟨e,v',hv⟩ | ⟨b,o,cs,e1,e2,e3,e4⟩
 · refine .inl ⟨e, ?_⟩
   subst h3
   cases a with
   | none=>exact OkV.sl0 _ _ _
   | some a =>
    cases hv with
    | sl h _ _=>exact OkV.sl (by have:=Zaq (c:=c) (i:=_) (by rw [h]; simp); omega)
    | slE h=>exact OkV.sl (by have:=Zaq (c:=c) (i:=_) (by rw [h]; simp); omega)
 · exact .inr ⟨b,o,cs,e1,by omega,e3,e4⟩
theorem SlI.okV {h:FH} {c:Nat} {s:Value} {sz n:Nat} {G:List Int} (hs:SlI h c s sz n G):OkV c s:=by
 obtain ⟨h1,h2,a,cap,rfl,h4⟩:=hs
 rcases h4 with ⟨e,hv⟩ | ⟨b,o,cs,rfl,e2,e3,e4⟩
 · exact hv
 · exact OkV.sl e2
theorem SlI.len {h:FH} {c:Nat} {s:Value} {sz n:Nat} {G:List Int} (hs:SlI h c s sz n G):Z1f s=some (.int .i64 n):=by
 obtain ⟨h1,h2,a,cap,rfl,h4⟩:=hs
 rfl
theorem SlI.ix {h:FH} {c:Nat} {s:Value} {sz n:Nat} {G:List Int} (hs:SlI h c s sz n G) (k:IntKind) (i:Int) (h1:0<=i) (h2:i<(n:Int)) :
 ∃ b o cs,ixS sz s (.int k i)=some (.pointer (some ⟨b,o+i.toNat*sz,none⟩))/\b<256*c/\Z0a h b cs/\(cs.drop o).take (n*sz)=ints G:=by
 obtain ⟨g1,g2,a,cap,rfl,h4⟩:=hs
 rcases h4 with ⟨e,hv⟩ | ⟨b,o,cs,rfl,e2,e3,e4⟩
 · omega
 · exact ⟨b,o,cs,ixS_sl sz b o n cap k i h1 h2,e2,e3,e4⟩
theorem Zmh {cs:List Value} {o m:Nat} {G:List Int} (e:(cs.drop o).take m=ints G) {j:Nat} (hj:j<G.length):cs[o+j]? = some (.int .i64 (G.getD j 0)):=by
 have h1:((cs.drop o).take m)[j]? = some (.int .i64 (G.getD j 0)):=by
  rw [e,Z3z,List.getElem?_eq_getElem hj]; simp [List.getD,List.getElem?_eq_getElem hj]
 have hjm:j<m:=by
  have:=(List.getElem?_eq_some_iff.1 h1).1
  simp at this; omega
 rw [List.getElem?_take_of_lt hjm,List.getElem?_drop] at h1
 exact h1
theorem Zmg {cs:List Value} {o m:Nat} {G:List Int} (e:(cs.drop o).take m=ints G) (h:0<G.length):o+G.length<=cs.length:=by
 have:=congrArg List.length e
 simp at this; omega
theorem ZgJ {cs:List Value} {o m:Nat} {G:List Int} (e:(cs.drop o).take m=ints G) {j q:Nat} (hj:j+q<=G.length):(cs.drop (o+j)).take q=ints ((G.drop j).take q):=by
 rw [← Z1y,← Z1Q,← e,List.drop_take,List.drop_drop,List.take_take]
 have hm:G.length<=m:=by have:=congrArg List.length e; simp at this; omega
 congr 1
 omega
theorem ZmI {h:FH} {b o m:Nat} {cs:List Value} {G:List Int} (hh:Z0a h b cs) (e:(cs.drop o).take m=ints G) {j:Nat} (hj:j<G.length):ld1 h (.pointer (some ⟨b,o+j,none⟩))=some (.int .i64 (G.getD j 0)) :=
 ld1_holds hh (Zmh e hj)
theorem Zas {h:FH} {b o m q:Nat} {cs:List Value} {G:List Int} (hh:Z0a h b cs) (e:(cs.drop o).take m=ints G) {j:Nat} (hj:j+q<=G.length) (hq:0<q):ldN h q (.pointer (some ⟨b,o+j,none⟩))=some (av ((G.drop j).take q)):=by
 have:=Zmg e qO
 rw [ldN_holds hh qO,ZgJ e hj]
 rfl
theorem Z0P {A:FH} {c:Nat} {df:List Nat} {e:Ex} {vs:List Value} {c':Nat} (h1:Z1X c vs):gcR A c df { e:=e,vs:=vs,h:=A,c:=c',df:=df } = { e:=e,vs:=vs,h:=A,c:=c,df:=df }:=by
 rw [Zhv h1 (GcH.refl c A),mrg_self]
theorem Z0j {o:Orc FH} {g:FuncId} {args:List Value} {h h':FH} {c c':Nat} {v:Value} {e:Ex} {df:List Nat} (e1:o (.fn g) args h c []=some { e:=e,vs:=[v],h:=h',c:=c',df:=df }):callF o g args h c=some (v,h',c'):=by
 simp only [callF,e1,Option.bind_some]
attribute [simp] OkV.bool OkV.int OkV.str OkV.ptr0 OkV.sl0 OkV.map0 OkV.nilFunc Z1X.nil Z1X.cons_iff OkV.av Z1X.ints OkV.ptr OkV.ptrTo OkV.sl OkV.map GcH.refl ZnL Z4v ZnK
def Ans {α:Type} (x:Option α) (Q:α->Prop):Prop:=∃ r,x=some r/\Q r
theorem Ans.intro {α:Type} {x:Option α} {Q:α->Prop} {r:α} (h:x=some r) (hq:Q r):Ans x Q:=⟨r,h,hq⟩
theorem Ans.mono {α:Type} {x:Option α} {Q Q':α->Prop} (h:Ans x Q) (hq:∀ r,Q r->Q' r):Ans x Q':=let ⟨r,a,b⟩:=h; ⟨r,a,hq r b⟩
@[simp] theorem Ans_some {α:Type} {r:α} {Q:α->Prop}:Ans (some r) Q ↔ Q r:=⟨fun ⟨_,e,h⟩=>by cases e; exact h,fun h=>⟨r,rfl,h⟩⟩
theorem Ans.eq {α:Type} {x:Option α} {r:α} (h:Ans x (fun q=>q=r)):x=some r:=by
 obtain ⟨q,e,rfl⟩:=h
 exact e
theorem Z58 {A h:FH} {c:Nat} {df:List Nat} {e:Ex} {vs:List Value} {c':Nat} (h1:Z1X c vs) (h2:Z0q c A h):gcR A c df { e:=e,vs:=vs,h:=h,c:=c',df:=df } = { e:=e,vs:=vs,h:=A,c:=c,df:=df }:=by
 rw [Zhv h1 (fun i hi=>.inl (h2 i hi))]
 have:mrg c h A=A:=by
  apply FH.ext
  intro i
  rw [Zff]
  split
  · rename_i hi; exact h2 i hi
  · rfl
 rw [this]
theorem Z1P {X S:Option (Rt FH)} {h:FH} {c:Nat} {v:Value} (hgo:∀ r,S=some r->X=some (gcR h c [] r)) (hv:OkV c v) (hS:Ans S (fun r=>r.e = .ret/\r.vs=[v]/\Z0q c h r.h/\r.df=[])) :
 X=some { e:=.ret,vs:=[v],h:=h,c:=c,df:=[] }:=by
 obtain ⟨⟨re,rv,rh,rc,rd⟩,e,h1,h2,h3,h4⟩:=hS
 simp only at h1 h2 h3 h4
 subst h1 h2 h4
 rw [hgo _ e,Z58 (Z1X.cons hv (Z1X.nil c)) h3]
attribute [simp] Z0q.refl
@[simp] theorem Same_newB {c i:Nat} {h h':FH} {cs:List Value} (hi:256*c<=i):Z0q c h (newB h' i cs) ↔ Z0q c h h':=by
 refine ⟨fun hh j hj=>?_,fun hh=>hh.newB hi⟩
 have:=hh j hj
 rw [Z0b,if_neg qO] at this
 exact this
@[simp] theorem Same_set {c i:Nat} {h h':FH} {b:ABlk} (hi:256*c<=i):Z0q c h (HeapC.set h' i b) ↔ Z0q c h h':=by
 refine ⟨fun hh j hj=>?_,fun hh=>hh.set hi⟩
 have:=hh j hj
 rw [Z0m,if_neg qO] at this
 exact this
attribute [simp] Z4Q Z1y Z1Q
@[simp] theorem agg_ints (l:List Int):Value.agg (ints l).toArray=av l:=rfl
@[simp] theorem takeAll_nil {H:Type} [HeapC H] (h:H):Z07 h []=some h:=rfl
def Z4C (c:Nat) (A B:FH):Prop:=∀ i,(256*c<=i->B.f i=A.f i)/\(i<256*c->B.f i=A.f i ∨ OkB c (B.f i))
@[simp] theorem Z4C.refl (c:Nat) (A:FH):Z4C c A A:=fun _=>⟨fun _=>rfl,fun _=>.inl rfl⟩
theorem Z4C.old {c b:Nat} {A B:FH} {cs:List Value} (hb:b<256*c) (hc:Z1X c cs) (h:Z4C c A B):Z4C c A (newB B b cs):=by
 intro i
 rw [Z0b]
 refine ⟨fun hi=>?_,fun hi=>?_⟩
 · rw [if_neg qO]; exact (h i).1 hi
 · split
   · exact .inr hc
   · exact (h i).2 hi
theorem Z4C.both {c b:Nat} {A B:FH} {ds cs:List Value} (hc:Z1X c cs) (h:Z4C c A B) (hb:b<256*c):Z4C c (newB A b ds) (newB B b cs):=by
 intro i
 rw [Z0b,Z0b]
 refine ⟨fun hi=>?_,fun hi=>?_⟩
 · rw [if_neg qO,if_neg qO]; exact (h i).1 hi
 · by_cases e:i=b
   · rw [if_pos e]; exact .inr hc
   · rw [if_neg e,if_neg e]; exact (h i).2 hi
theorem ZlY {A h B:FH} {c:Nat} {df:List Nat} {e:Ex} {vs:List Value} {c':Nat} (h1:Z1X c vs) (h2:Z0q c B h) (h3:Z4C c A B):gcR A c df { e:=e,vs:=vs,h:=h,c:=c',df:=df } = { e:=e,vs:=vs,h:=B,c:=c,df:=df }:=by
 rw [Zhv h1 (fun i hi=>by rw [h2 i hi]; exact (h3 i).2 hi)]
 have:mrg c h A=B:=by
  apply FH.ext
  intro i
  rw [Zff]
  split
  · rename_i hi; exact h2 i hi
  · exact ((h3 i).1 qO).symm
 rw [this]
theorem Z8D {h:FH} {b c:Nat} {df:List Nat} {e:Ex} {vs cs cs':List Value} {c':Nat} (hb:b<256*c) (h1:Z1X c vs) (h2:Z1X c cs') :
 gcR (newB h b cs) c df { e:=e,vs:=vs,h:=newB h b cs',c:=c',df:=df } = { e:=e,vs:=vs,h:=newB h b cs',c:=c,df:=df } :=
 ZlY h1 (Z0q.refl _ _) (Z4C.both h2 (Z4C.refl _ _) hb)
theorem Z8z (a:Int) (l:List Int):ints (a::l) = .int .i64 a::ints l:=rfl
theorem Zav:ints []=[]:=rfl
@[simp] theorem st1_int (h:FH) (i o:Nat) (cs:List Value) (k:IntKind) (x:Int) (ho:o<cs.length):stN (newB h i cs) 1 (.pointer (some ⟨i,o,none⟩)) (.int k x)=some (newB h i (cs.set o (.int k x))):=by
 rw [Z0V h 1 i o cs (.int k x) rfl qO rfl]
 show some (newB h i (Z0M cs o [.int k x]))=_
 rw [Z2q cs o _ ho]
@[simp] theorem st1_bool (h:FH) (i o:Nat) (cs:List Value) (x:Bool) (ho:o<cs.length):stN (newB h i cs) 1 (.pointer (some ⟨i,o,none⟩)) (.bool x)=some (newB h i (cs.set o (.bool x))):=by
 rw [Z0V h 1 i o cs (.bool x) rfl qO rfl]
 show some (newB h i (Z0M cs o [.bool x]))=_
 rw [Z2q cs o _ ho]
@[simp] theorem ints_set' (l:List Int) (i:Nat) (x:Int):(ints l).set i (.int .i64 x)=ints (l.set i x):=Z57 l i x
@[simp] theorem stN_all (h:FH) (i n:Nat) (cs:List Value) (l:List Int) (h1:l.length=n) (h2:cs.length=n):stN (newB h i cs) n (.pointer (some ⟨i,0,none⟩)) (av l)=some (newB h i (ints l)):=by
 rw [Z0V h n i 0 cs (av l) (by simp [h1]) qO (by simp)]
 simp only [Z4v,Z0M,List.take_zero,List.nil_append,Nat.zero_add,ints_length]
 rw [List.drop_of_length_le qO,List.append_nil]
@[simp] theorem isFlat_int (k:IntKind) (n:Int):Z08 (.int k n)=true:=rfl
@[simp] theorem isFlat_bool (n:Bool):Z08 (.bool n)=true:=rfl
@[simp] theorem isFlat_sl (a:Option Addr) (n k:Nat):Z08 (.slice a n k)=true:=rfl
@[simp] theorem isFlat_ptr (a:Option Addr):Z08 (.pointer a)=true:=rfl
theorem ZdD (h:FH) (i o:Nat) (l:List Int) (ho:o<l.length):ld1 (newB h i (ints l)) (.pointer (some ⟨i,o,none⟩))=some (.int .i64 (l.getD o 0)):=by
 rw [ld1_newB_same,Z3z,List.getElem?_eq_getElem ho]; simp [List.getD,List.getElem?_eq_getElem ho]
theorem bld4 (a b c d:Int):Z1v [(.int .i64 0),(.int .i64 0),(.int .i64 0),(.int .i64 0)] [(0,1,.int .i64 a),(1,1,.int .i64 b),(2,1,.int .i64 c),(3,1,.int .i64 d)]=some (av [a,b,c,d]):=(rfl)
theorem bld2 (a b:Int):Z1v [(.int .i64 0),(.int .i64 0)] [(0,1,.int .i64 a),(1,1,.int .i64 b)]=some (av [a,b]):=(rfl)
theorem Zmc (a:Int) (p:List Int) (hp:p.length=4):Z1v [(.int .i64 0),(.int .i64 0),(.int .i64 0),(.int .i64 0),(.int .i64 0)] [(0,1,.int .i64 a),(1,4,av p)]=some (av (a::p)):=by
 match p,hp with
 | [a,b,c,d],_=>rfl
theorem Ans.step {α β:Type} {x:Option α} {v:α} {f:α->Option β} {Q:β->Prop} (h:x=some v) (k:Ans (f v) Q):Ans (x.bind f) Q:=by rw [h]; exact k
theorem Ans.bt {β:Type} {v:Value} {x y:Option β} {Q:β->Prop} (h:v = .bool true) (k:Ans x Q):Ans (Z09 v x y) Q:=by rw [h]; exact k
theorem Ans.bf {β:Type} {v:Value} {x y:Option β} {Q:β->Prop} (h:v = .bool false) (k:Ans y Q):Ans (Z09 v x y) Q:=by rw [h]; exact k
theorem Ans.ct {β:Type} {b:Bool} {x y:Option β} {Q:β->Prop} (h:b=true) (k:Ans x Q):Ans (cond b x y) Q:=by rw [h]; exact k
theorem Ans.cf {β:Type} {b:Bool} {x y:Option β} {Q:β->Prop} (h:b=false) (k:Ans y Q):Ans (cond b x y) Q:=by rw [h]; exact k
theorem Ans.done {α:Type} {r:α} {Q:α->Prop} (h:Q r):Ans (some r) Q:=⟨r,rfl,h⟩
theorem Ans.head {α β:Type} {x:Option α} {f:α->Option β} {Q:β->Prop} {R:α->Prop} (h:Ans x R) (k:∀ a,R a->Ans (f a) Q):Ans (x.bind f) Q:=by
 obtain ⟨a,e,hr⟩:=h
 exact Ans.step e (k a hr)
@[simp] theorem ints_getD (l:List Int) (o:Nat) (h:o<l.length):(ints l)[o]? = some (.int .i64 (l.getD o 0)):=by
 rw [Z3z,List.getElem?_eq_getElem h]; simp [List.getD,List.getElem?_eq_getElem h]
end Go.Ab

namespace Go.Ab
open Go
def s4 {α β:Type} (a b c d:α) (x:Nat) (k:α->Option β):Option β :=
 cond (Nat.beq x 0) (k a) (cond (Nat.beq x 1) (k b) (cond (Nat.beq x 2) (k c) (cond (Nat.beq x 3) (k d) none)))
theorem Z4G {α β:Type} {a b c d:α} {x:Nat} {k:α->Option β} {r:β} (e:s4 a b c d x k=some r):x<4/\k ([a,b,c,d].getD x a)=some r:=by
 unfold s4 at e
 match x,e with
 | 0,e=>exact ⟨by omega,e⟩
 | 1,e=>exact ⟨by omega,e⟩
 | 2,e=>exact ⟨by omega,e⟩
 | 3,e=>exact ⟨by omega,e⟩
 | n+4,e=>cases e
noncomputable def Zfe {β:Type} (v:Value) (k:Nat->Nat->Nat->Nat->Option β):Option β :=
 match v with
 | .agg ⟨[.int .i64 (.ofNat a),.int .i64 (.ofNat b),.int .i64 (.ofNat c),.int .i64 (.ofNat d)]⟩=>k a b c d
 | _=>none
theorem Z54 {β:Type} {v:Value} {k:Nat->Nat->Nat->Nat->Option β} {r:β} (e:Zfe v k=some r):∃ a b c d:Nat,v=av [(a:Int),(b:Int),(c:Int),(d:Int)]/\k a b c d=some r:=by
 unfold Zfe at e
 split at e
 · exact ⟨_,_,_,_,rfl,e⟩
 · cases e
noncomputable def ZbU (v:Value):Option Value:=Zfe v fun a b c d =>
 s4 1 2 4 8 a fun a=>s4 1 2 4 8 b fun b=>s4 1 2 4 8 c fun c=>s4 1 2 4 8 d fun d=>cond (Nat.beq (a+b+c+d) 15) (some (.bool true)) (some (.bool false))
def Zac {β:Type} (a b c d j:Nat) (k:Int->Option β):Option β :=
 cond (Nat.beq a j) (k 0) (cond (Nat.beq b j) (k 1) (cond (Nat.beq c j) (k 2) (cond (Nat.beq d j) (k 3) none)))
noncomputable def invN (a b c d:Nat):Option (List Int):=Zac a b c d 0 fun i=>Zac a b c d 1 fun j=>Zac a b c d 2 fun k=>Zac a b c d 3 fun l=>some [i,j,k,l]
noncomputable def Zc7 {β:Type} (a:Nat) (k:Option β):Option β:=cond (Nat.blt a 4) k none
theorem Z4u {β:Type} {a:Nat} {k:Option β} {r:β} (e:Zc7 a k=some r):a<4/\k=some r:=by
 obtain ⟨h1,h2⟩:=Z02 e
 exact ⟨Nat.le_of_ble_eq_true h1,h2⟩
def ZiV:List Int->List Value
 | []=>[]
 | x::xs=>.int .i64 x::ZiV xs
theorem ZiU (l:List Int):ZiV l=ints l:=by
 induction l with
 | nil=>rfl
 | cons x l ih=>rw [ZiV,ih]; rfl
noncomputable def Zhx (v:Value):Option Value:=Zfe v fun a b c d=>Zc7 a <| Zc7 b <| Zc7 c <| Zc7 d <| (invN a b c d).bind fun l=>some (.agg ⟨ZiV l⟩)
noncomputable def Zey (v w:Value):Option Value:=Zfe v fun a b c d=>Zfe w fun x y z u =>
 s4 a b c d x fun i=>s4 a b c d y fun j=>s4 a b c d z fun k=>s4 a b c d u fun l =>
  some (.agg ⟨[.int .i64 (.ofNat i),.int .i64 (.ofNat j),.int .i64 (.ofNat k),.int .i64 (.ofNat l)]⟩)
theorem ZlF {μ μ':Mu} {l:List Int} {v':Value} (h:VR μ (av l) v'):VR μ' (av l) v':=by
 obtain ⟨cs',rfl,h2⟩:=h.agg_left
 refine VR.agg_iff.2 ?_
 have:∀ (l:List Int) (ys:List Value),VRs μ (ints l) ys->VRs μ' (ints l) ys:=by
  intro l
  induction l with
  | nil=>intro ys h; rw [h.nil_left]; exact VRs.nil _
  | cons x l ih =>
   intro ys h
   obtain ⟨y,zs,rfl,h1,h2⟩:=h.left
   obtain rfl:=h1.int_left
   exact VRs.cons (.int _ _) (ih _ h2)
 exact this l _ h2
theorem Zdf {μ μ':Mu} {l:List Int} {ys:List Value} (h:VRs μ [av l] ys):VRs μ' [av l] ys:=by
 obtain ⟨y,zs,rfl,h1,h2⟩:=h.left
 rw [h2.nil_left]
 exact VRs.cons (ZlF h1) (VRs.nil _)
theorem ZnJ {μ μ':Mu} {l m:List Int} {ys:List Value} (h:VRs μ [av l,av m] ys):VRs μ' [av l,av m] ys:=by
 obtain ⟨y,zs,rfl,h1,h2⟩:=h.left
 exact VRs.cons (ZlF h1) (Zdf h2)
theorem Zie {μ μ':Mu} {b:Bool} {v':Value} (h:VR μ (.bool b) v'):VR μ' (.bool b) v':=by
 rw [h.bool_left]; exact .bool _
theorem ZeW {Q:Nat->Nat->Nat->Nat->Bool} (h:((List.range 256).all fun n=>Q (n / 64) (n / 16 % 4) (n / 4 % 4) (n % 4))=true) {a b c d:Nat} (ha:a<4) (hb:b<4) (hc:c<4) (hd:d<4):Q a b c d=true:=by
 have:=List.all_eq_true.1 h (64*a+16*b+4*c+d) (by simp; omega)
 have e1:(64*a+16*b+4*c+d) / 64=a:=by omega
 have e2:(64*a+16*b+4*c+d) / 16 % 4=b:=by omega
 have e3:(64*a+16*b+4*c+d) / 4 % 4=c:=by omega
 have e4:(64*a+16*b+4*c+d) % 4=d:=by omega
 simpa only [e1,e2,e3,e4] using this
theorem Z97 {v r:Value} (e:ZbU v=some r):∃ a b c d:Nat,v=av [(a:Int),(b:Int),(c:Int),(d:Int)]/\a<4/\b<4/\c<4/\d<4/\r = .bool (Nat.beq (2 ^ a+2 ^ b+2 ^ c+2 ^ d) 15):=by
 obtain ⟨a,b,c,d,hv,e0⟩:=Z54 e
 clear e
 subst hv
 have e:=e0
 clear e0
 obtain ⟨h1,e⟩:=Z4G (α:=Nat) (β:=Value) e
 obtain ⟨h2,e⟩:=Z4G (α:=Nat) (β:=Value) e
 obtain ⟨h3,e⟩:=Z4G (α:=Nat) (β:=Value) e
 obtain ⟨h4,e⟩:=Z4G (α:=Nat) (β:=Value) e
 have p:∀ x:Nat,x<4->[1,2,4,8].getD x 1=2 ^ x:=by
  intro x hx
  match x,hx with
  | 0,_=>rfl
  | 1,_=>rfl
  | 2,_=>rfl
  | 3,_=>rfl
  | n+4,h=>omega
 rw [p a h1,p b h2,p c h3,p d h4] at e
 refine ⟨a,b,c,d,rfl,h1,h2,h3,h4, ?_⟩
 cases hh:Nat.beq (2 ^ a+2 ^ b+2 ^ c+2 ^ d) 15 with
 | true=>rw [hh] at e; cases e; rfl
 | false=>rw [hh] at e; cases e; rfl
theorem ZbV {v r:Value} (e:Zhx v=some r):∃ (a b c d:Nat) (l:List Int),v=av [(a:Int),(b:Int),(c:Int),(d:Int)]/\a<4/\b<4/\c<4/\d<4/\invN a b c d=some l/\r=av l:=by
 obtain ⟨a,b,c,d,hv,e0⟩:=Z54 e
 clear e
 subst hv
 obtain ⟨h1,e⟩:=Z4u e0
 obtain ⟨h2,e⟩:=Z4u e
 obtain ⟨h3,e⟩:=Z4u e
 obtain ⟨h4,e⟩:=Z4u e
 simp only [Option.bind_eq_some_iff] at e
 obtain ⟨l,hl,e⟩:=e
 rw [ZiU] at e
 cases e
 exact ⟨a,b,c,d,l,rfl,h1,h2,h3,h4,hl,rfl⟩
theorem Zaz {v w r:Value} (e:Zey v w=some r):∃ a b c d x y z u:Nat,v=av [(a:Int),(b:Int),(c:Int),(d:Int)]/\w=av [(x:Int),(y:Int),(z:Int),(u:Int)]/\x<4/\y<4/\z<4/\u<4 ∧
 r=av ([(x:Int),(y:Int),(z:Int),(u:Int)].map fun t=>[(a:Int),(b:Int),(c:Int),(d:Int)].getD t.toNat 0):=by
 obtain ⟨a,b,c,d,hv,e0⟩:=Z54 e
 obtain ⟨x,y,z,u,hw,e1⟩:=Z54 e0
 clear e e0
 subst hv hw
 have e:=e1
 clear e1
 obtain ⟨h1,e⟩:=Z4G (α:=Nat) (β:=Value) e
 obtain ⟨h2,e⟩:=Z4G (α:=Nat) (β:=Value) e
 obtain ⟨h3,e⟩:=Z4G (α:=Nat) (β:=Value) e
 obtain ⟨h4,e⟩:=Z4G (α:=Nat) (β:=Value) e
 cases e
 refine ⟨a,b,c,d,x,y,z,u,rfl,rfl,h1,h2,h3,h4, ?_⟩
 have p:∀ t:Nat,t<4->[(a:Int),(b:Int),(c:Int),(d:Int)].getD (t:Int).toNat 0=(([a,b,c,d].getD t a:Nat):Int):=by
  intro t ht
  match t,ht with
  | 0,_=>rfl
  | 1,_=>rfl
  | 2,_=>rfl
  | 3,_=>rfl
  | n+4,h=>omega
 simp only [List.map_cons,List.map_nil]
 rw [p x h1,p y h2,p z h3,p u h4]
 rfl
end Go.Ab

namespace Go.Ab
open Go
def orB (a b:Int):Int:=IntKind.i64.wrap ((BitVec.ofInt 64 a ||| BitVec.ofInt 64 b).toNat)
def shB (x:Int):Int:=IntKind.i64.wrap (1*2 ^ (min x.toNat 64))
def Z3y:List Int->Int->Option Int
 | [],m=>some m
 | x::xs,m=>if x<0 ∨ 3<x then none else Z3y xs (orB m (shB x))
def Z0n (p:List Int):Bool:=decide (Z3y p 0=some 15)
def ZbR:List Int->Nat->List Int->List Int
 | [],_,out=>out
 | x::xs,i,out=>ZbR xs (i+1) (out.set x.toNat i)
theorem Z24:∀ (p:List Int) (i:Nat) (out:List Int),(ZbR p i out).length=out.length
 | [],_,_=>rfl
 | x::xs,i,out=>by rw [ZbR,Z24]; simp
def inv (p:List Int):List Int:=ZbR p 0 [0,0,0,0]
def InR (p:List Int):Prop:=∀ x ∈ p,0<=x/\x<4
def comp (p q:List Int):List Int:=q.map fun x=>p.getD x.toNat 0
def Z06 (Gl:List Int) (t f:Nat):List Int:=(Gl.drop (20*t+5*f)).take 5
def Z91 (Gl:List Int) (t:Nat):List Int:=(Gl.drop (20*t)).take 20
theorem Z0G {Gl:List Int} {n t f:Nat} (hG:Gl.length=n*20) (ht:t<n) (hf:f<4):(Z06 Gl t f).length=5:=by
 simp [Z06]; omega
theorem Z5C {Gl:List Int} {n t:Nat} (hG:Gl.length=n*20) (ht:t<n):(Z91 Gl t).length=20:=by
 simp [Z91]; omega
theorem ZiG {Gl:List Int} {t f:Nat} (hf:f<4):((Z91 Gl t).drop (f*5)).take 5=Z06 Gl t f:=by
 unfold Z91 Z06
 rw [List.drop_take,List.drop_drop,List.take_take]
 congr 1
 · omega
 · congr 1; omega
theorem Ans.bind {α β:Type} {x:Option α} {f:α->Option β} {Q:β->Prop} (h:Ans x (fun a=>Ans (f a) Q)):Ans (x.bind f) Q:=by
 obtain ⟨a,e,b,e2,hq⟩:=h
 exact ⟨b,by rw [e]; exact e2,hq⟩
theorem Z7r:∀ (p:List Int) (m m':Int),Z3y p m=some m'->InR p
 | [],_,_,_=>fun x hx=>by cases hx
 | x::xs,m,m',e=>by
  simp only [Z3y] at e
  by_cases h:x<0 ∨ 3<x
  · rw [if_pos h] at e; cases e
  · rw [if_neg h] at e
    intro y hy
    rcases List.mem_cons.1 hy with rfl | hy
    · omega
    · exact Z7r xs _ _ e y hy
theorem Z1h {p:List Int} (h:Z0n p=true):InR p:=by
 unfold Z0n at h
 exact Z7r p 0 15 (by simpa using h)
def Z1d (x:List Int):Int:=x.getD 0 0
def Z0D (x:List Int):List Int:=(x.drop 1).take 4
theorem Z1j {x:List Int} (h:x.length=5):(Z0D x).length=4:=by simp [Z0D,h]
def Z4O:List Int:=[-1,0,0,0,0]
def Z0i (Gl:List Int) (n t f:Nat):Bool :=
 decide (Z06 Gl t f=Z4O) ||
 (decide (0<=Z1d (Z06 Gl t f)) && decide (Z1d (Z06 Gl t f)<n) && Z0n (Z0D (Z06 Gl t f)) &&
  !(decide (Z1d (Z06 Gl t f)=t) && decide ((Z0D (Z06 Gl t f)).getD f 0=f)) &&
  decide (Z06 Gl (Z1d (Z06 Gl t f)).toNat ((Z0D (Z06 Gl t f)).getD f 0).toNat=(t:Int)::inv (Z0D (Z06 Gl t f))))
def Zh9 (Gl:List Int) (n:Nat) (k:Nat):Prop:=∀ j,j<k->Z0i Gl n (j / 4) (j % 4)=true
def Z0Y (Gl:List Int) (n:Nat):Bool:=(List.range (4*n)).all fun j=>Z0i Gl n (j / 4) (j % 4)
theorem Z3L (Gl:List Int) (n:Nat):Z0Y Gl n=true ↔ Zh9 Gl n (4*n):=by simp [Z0Y,Zh9]
theorem ZgL {a b c d:Nat} (ha:a<4) (hb:b<4) (hc:c<4) (hd:d<4):Z0n [(a:Int),(b:Int),(c:Int),(d:Int)]=Nat.beq (2 ^ a+2 ^ b+2 ^ c+2 ^ d) 15:=by
 have h:=ZeW (Q:=fun a b c d=>Z0n [(a:Int),(b:Int),(c:Int),(d:Int)] == Nat.beq (2 ^ a+2 ^ b+2 ^ c+2 ^ d) 15) (by kernel_rfl) ha hb hc hd
 simpa using h
theorem inv_eq {a b c d:Nat} {l:List Int} (ha:a<4) (hb:b<4) (hc:c<4) (hd:d<4) (h:invN a b c d=some l):inv [(a:Int),(b:Int),(c:Int),(d:Int)]=l:=by
 have h1:=ZeW (Q:=fun a b c d=>match invN a b c d with | some l=>inv [(a:Int),(b:Int),(c:Int),(d:Int)] == l | none=>true) (by kernel_rfl) ha hb hc hd
 rw [h] at h1
 simpa using h1
theorem inR4 {a b c d:Nat} (ha:a<4) (hb:b<4) (hc:c<4) (hd:d<4):InR [(a:Int),(b:Int),(c:Int),(d:Int)]:=by
 intro t ht
 simp only [List.mem_cons,List.not_mem_nil,or_false] at ht
 omega
def bools (l:List Bool):List Value:=l.map .bool
theorem Z4Y (l:List Bool):(bools l).length=l.length:=by simp [bools]
theorem Z1X.bools (c:Nat) (l:List Bool):Z1X c (bools l):=by
 intro v hv
 simp only [Go.Ab.bools,List.mem_map] at hv
 obtain ⟨b,_,rfl⟩:=hv
 exact OkV.bool c b
theorem Z8R (l:List Bool) (i:Nat) (x:Bool):(bools l).set i (.bool x)=bools (l.set i x):=by simp [bools,List.map_set]
theorem Z8S (l:List Bool) (o:Nat) (h:o<l.length):(bools l)[o]? = some (.bool (l.getD o false)):=by
 simp [bools,List.getD,List.getElem?_eq_getElem h]
def ZiK:List Int->List Bool->Bool
 | [],_=>true
 | x::xs,met=>if x<0 ∨ 3<x then false else if met.getD x.toNat false=true then false else ZiK xs (met.set x.toNat true)
theorem Zdw:∀ (p:List Int) (m:List Bool),(∃ x ∈ p,x<0 ∨ 3<x)->ZiK p m=false
 | [],m,h=>by obtain ⟨x,hx,_⟩:=h; cases hx
 | y::p,m,h=>by
  unfold ZiK
  by_cases h1:y<0 ∨ 3<y
  · rw [if_pos h1]
  · rw [if_neg h1]
    split
    · rfl
    · refine Zdw p _ ?_
      obtain ⟨x,hx,h2⟩:=h
      rcases List.mem_cons.1 hx with rfl | hx
      · exact absurd h2 h1
      · exact ⟨x,hx,h2⟩
theorem Zf2 {p:List Int} (h:∃ x ∈ p,x<0 ∨ 3<x):Z0n p=false:=by
 cases hv:Z0n p with
 | false=>rfl
 | true =>
  obtain ⟨x,hx,h2⟩:=h
  have:=Z1h hv x hx
  omega
theorem Zmx (p:List Int) (hp:p.length=4):ZiK p [false,false,false,false]=Z0n p:=by
 by_cases h:∃ x ∈ p,x<0 ∨ 3<x
 · rw [Zdw p _ h,Zf2 h]
 · match p,hp with
   | [a,b,c,d],_ =>
    have hh:∀ x ∈ [a,b,c,d],0<=x/\x<4:=fun x hx=>by
     by_cases h2:x<0 ∨ 3<x
     · exact absurd ⟨x,hx,h2⟩ h
     · omega
    have ha:=hh a (by simp)
    have hb:=hh b (by simp)
    have hc:=hh c (by simp)
    have hd:=hh d (by simp)
    have:=ZeW (Q:=fun a b c d=>ZiK [(a:Int),(b:Int),(c:Int),(d:Int)] [false,false,false,false] == Z0n [(a:Int),(b:Int),(c:Int),(d:Int)]) (by kernel_rfl)
     (a:=a.toNat) (b:=b.toNat) (c:=c.toNat) (d:=d.toNat) qO qO qO qO
    simp only [beq_iff_eq] at this
    have ea:((a.toNat:Nat):Int)=a:=by omega
    have eb:((b.toNat:Nat):Int)=b:=by omega
    have ec:((c.toNat:Nat):Int)=c:=by omega
    have ed:((d.toNat:Nat):Int)=d:=by omega
    rw [ea,eb,ec,ed] at this
    exact this
end Go.Ab

namespace Go.Ab
open Go
variable {P:Program}
theorem Zdc {o:Orc FH} {h:FH} {c l:Nat} {st:ALoop} {args:List Value} {Q:Value × FH × Nat->Prop} (hg:HeapC.get h l=some (.loop st)) (hs:st.state = .ready)
 (hok:(Nat.beq args.length st.params.length && Z7C st.params && st.params.all (Nat.blt · st.nt))=true)
 (hr:Ans (o (.rnd st.nt st.lin st.fr st.params l st.assign st.body) (args++st.vals) h c []) fun r=>∃ v,r.vs=[v]/\Q (v,r.h,r.c)):Ans (Z1S o h c (.func (.yield l) #[] #[]) args) Q:=by
 obtain ⟨r,e,v,hv,hq⟩:=hr
 have h1:(decide (st.state=LoopState.ready) && Nat.beq args.length st.params.length && Z7C st.params && st.params.all (Nat.blt · st.nt))=true:=by
  simp only [Bool.and_eq_true] at hok ⊢
  exact ⟨⟨⟨by simp [hs],hok.1.1⟩,hok.1.2⟩,hok.2⟩
 refine ⟨(v,r.h,r.c), ?_,hq⟩
 simp only [Z1S,Array.size_empty,Nat.beq_refl,Bool.and_self,cond_true,hg,h1,e,Option.bind_some,hv]
def ZbY (nt:Nat) (lin:List Nat) (ps:Array Tmp) (a b:ACode) (vs:List Value) (d:Nat):ALoop :=
 { state:=.ready,pending:=none,nt:=nt,vals:=vs,lin:=lin,fr:=[],params:=ps.toList,assign:=a,body:=b,dfr:=d }
noncomputable def ZbZ (h:FH) (c nt:Nat) (lin:List Nat) (ps:Array Tmp) (a b:ACode) (vs:List Value):FH :=
 HeapC.set (HeapC.set h (256*c+1) .dfr) (256*c) (.loop (ZbY nt lin ps a b vs (256*c+1)))
theorem Zbi (h:FH) (c nt:Nat) (lin:List Nat) (ps:Array Tmp) (a b:ACode) (vs:List Value) (i:Nat) :
 (ZbZ h c nt lin ps a b vs).f i=if i=256*c then some (.loop (ZbY nt lin ps a b vs (256*c+1))) else if i=256*c+1 then some .dfr else h.f i:=by
 simp only [ZbZ,Z0m]
theorem ZbH {o:Orc FH} {nt:Nat} {lin:List Nat} {ps:Array Tmp} {a b:ACode} {g:FuncId} {cap:Array Value} {vs:List Value} {h:FH} {c:Nat} {df:List Nat} {Q:Ex × FH × Nat × List Nat->Prop}
 (hr:Ans (o (.fn g) (.func (.yield (256*c)) #[] #[]::cap.toList) (ZbZ h c nt lin ps a b vs) (c+1) []) fun r =>
  ∃ st e,HeapC.get r.h (256*c)=some (.loop st)/\st.state ≠ .busy/\exOf st.pending=some e/\Q (e,HeapC.del r.h (256*c),r.c,(256*c+1)::df)) :
 Ans (Z4N o nt none lin [] ps a b (.func (.func g) [].toArray cap) vs h c df) Q:=by
 obtain ⟨r,e1,st,e,hg,hs,he,hq⟩:=hr
 refine ⟨_, ?_,hq⟩
 simp only [ZbZ,ZbY] at e1
 have hs':decide (st.state=LoopState.busy)=false:=decide_eq_false hs
 simp only [Z4N,Z2p,Option.bind_some,List.nil_append,List.singleton_append,e1,hg,hs',cond_false,he]
theorem Zgz {h:FH} {l:Nat} {st:ALoop} (hg:HeapC.get h l=some (.loop st)) (hs:st.state = .ready):Z2m h l=some (HeapC.set h l (.loop { st with state:=.busy })):=by
 simp [Z2m,hg,hs]
theorem Zch {h:FH} {l:Nat} {st:ALoop} (hg:HeapC.get h l=some (.loop st)) (s:LoopState) (pd:Option Code):Z0I h l s pd=some (HeapC.set h l (.loop { st with state:=s,pending:=pd })):=by
 simp [Z0I,hg]
@[simp] theorem get_set_same (h:FH) (i:Nat) (b:ABlk):HeapC.get (HeapC.set h i b) i=some b:=by simp [HeapC.get_set]
@[simp] theorem get_set_ne (h:FH) (i j:Nat) (b:ABlk) (hne:j ≠ i):HeapC.get (HeapC.set h i b) j=HeapC.get h j:=by simp [HeapC.get_set,hne]
@[simp] theorem get_del_ne (h:FH) (i j:Nat) (hne:j ≠ i):HeapC.get (HeapC.del h i) j=HeapC.get h j:=by simp [HeapC.get_del,hne]
@[simp] theorem ld1_set_ne (h:FH) (i j o:Nat) (b:ABlk) (hne:j ≠ i):ld1 (HeapC.set h i b) (.pointer (some ⟨j,o,none⟩))=ld1 h (.pointer (some ⟨j,o,none⟩)):=by simp [ld1,Z2a,Z5n,Z0r,hne]
@[simp] theorem ldN_set_ne (h:FH) (n i j o:Nat) (b:ABlk) (hne:j ≠ i):ldN (HeapC.set h i b) n (.pointer (some ⟨j,o,none⟩))=ldN h n (.pointer (some ⟨j,o,none⟩)):=by simp [ldN,Z2a,Z17,Z0r,hne]
@[simp] theorem ld1_del_ne (h:FH) (i j o:Nat) (hne:j ≠ i):ld1 (HeapC.del h i) (.pointer (some ⟨j,o,none⟩))=ld1 h (.pointer (some ⟨j,o,none⟩)):=by simp [ld1,Z2a,Z5n,Z0r,hne]
@[simp] theorem ldN_del_ne (h:FH) (n i j o:Nat) (hne:j ≠ i):ldN (HeapC.del h i) n (.pointer (some ⟨j,o,none⟩))=ldN h n (.pointer (some ⟨j,o,none⟩)):=by simp [ldN,Z2a,Z17,Z0r,hne]
theorem Z0a.set_ne {h:FH} {i j:Nat} {b:ABlk} {ds:List Value} (hne:j ≠ i) (hh:Z0a h j ds):Z0a (HeapC.set h i b) j ds:=by
 obtain ⟨ro,op,e⟩:=hh
 exact ⟨ro,op,by rw [get_set_ne h i j b hne]; exact e⟩
theorem Z0a.same {h h':FH} {c j:Nat} {ds:List Value} (hj:j<256*c) (hs:Z0q c h h') (hh:Z0a h j ds):Z0a h' j ds:=by
 obtain ⟨ro,op,e⟩:=hh
 exact ⟨ro,op,(hs j hj).trans e⟩
theorem Z03 {h:FH} {b o:Nat} {cs:List Value} (hh:Z0a h b cs):ld1 h (.pointer (some ⟨b,o,none⟩))=cs[o]?:=by
 obtain ⟨ro,op,e⟩:=hh
 simp [ld1,Z2a,Z5n,Z0r,e]
theorem Z4F {h:FH} {b o:Nat} {op:Option Nat} {cs:List Value} {v:Value} (hg:HeapC.get h b=some (.cells false op cs)) (ho:o<cs.length) (hv:v.cells = #[v]) (hf:Z08 v=true) :
 stN h 1 (.pointer (some ⟨b,o,none⟩)) v=some (HeapC.set h b (.cells false op (cs.set o v))):=by
 have h1:Nat.ble (o+1) cs.length=true:=Nat.ble_eq_true_of_le qO
 simp [stN,Z2a,hv,Z1N,hg,h1,hf,Z2q cs o v ho]
@[simp] theorem sameB_self (x:Option Nat) (h:FH):Z14 x h h=true:=by
 unfold Z14
 split
 · show @decide _ (Classical.propDecidable _)=true
   simp
 · rfl
theorem Z4S (l:List Int) (i j:Nat):(l.drop i).getD j 0=l.getD (i+j) 0:=by simp [List.getD]
theorem Z4R (l:List Int) (i j:Nat) (h:j<i):(l.take i).getD j 0=l.getD j 0:=by simp [List.getD,List.getElem?_take,h]
@[simp] theorem set_set (h:FH) (i:Nat) (a b:ABlk):HeapC.set (HeapC.set h i a) i b=HeapC.set h i b:=by
 apply FH.ext; intro j; simp only [Z0m]; split <;> rfl
@[simp] theorem setState_set (h:FH) (l:Nat) (st:ALoop) (s:LoopState) (pd:Option Code):Z0I (HeapC.set h l (.loop st)) l s pd=some (HeapC.set h l (.loop { st with state:=s,pending:=pd })):=by
 rw [Zch (get_set_same h l (.loop st)),set_set]
theorem Zdu (h:FH) (i j:Nat) (a b:ABlk) (hne:i ≠ j):HeapC.set (HeapC.set h i a) j b=HeapC.set (HeapC.set h j b) i a:=by
 apply FH.ext; intro k; simp only [Z0m]
 by_cases h1:k=j
 · have:¬ k=i:=by omega
   rw [if_pos h1,if_neg this,if_pos h1]
 · rw [if_neg h1,if_neg h1]
@[simp] theorem setState_newB (h:FH) (l i:Nat) (cs:List Value) (s:LoopState) (pd:Option Code) (hne:l ≠ i):Z0I (newB h i cs) l s pd=(Z0I h l s pd).map fun h'=>newB h' i cs:=by
 unfold Z0I
 rw [get_newB_ne _ _ _ _ hne]
 split
 · simp only [Option.map_some,newB]
   rw [Zdu _ _ _ _ _ (Ne.symm hne)]
 · rfl
@[simp] theorem setState_set_ne (h:FH) (l i:Nat) (b:ABlk) (s:LoopState) (pd:Option Code) (hne:l ≠ i):Z0I (HeapC.set h i b) l s pd=(Z0I h l s pd).map fun h'=>HeapC.set h' i b:=by
 unfold Z0I
 rw [get_set_ne _ _ _ _ hne]
 split
 · simp only [Option.map_some]
   rw [Zdu _ _ _ _ _ (Ne.symm hne)]
 · rfl
@[simp] theorem gv_undef (w:Bool):gv undef w=some false:=rfl
end Go.Ab
