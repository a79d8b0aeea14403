/- Parts of a proof: AbAuto AbMin K. Conditions: none. -/
import Derived.Test.YtdodippbpdechaaM7
import Derived.Test.YtdodippbpdechaaChecked
import Derived.KernelRfl
import Derived.Test.YtdodippbpdechaaM6
set_option linter.all false
set_option maxRecDepth 100000
namespace Go.Ab
open Go
variable {P:Program}
theorem Ans.dt {β:Type} {p:Prop} [Decidable p] {x y:Option β} {Q:β->Prop} (h:p) (k:Ans x Q):Ans (Z0b (.bool (decide p)) x y) Q:=by rw [decide_eq_true h]; exact k
theorem Ans.df {β:Type} {p:Prop} [Decidable p] {x y:Option β} {Q:β->Prop} (h:¬p) (k:Ans y Q):Ans (Z0b (.bool (decide p)) x y) Q:=by rw [decide_eq_false h]; exact k
theorem Ans.nt {β:Type} {p:Prop} [Decidable p] {x y:Option β} {Q:β->Prop} (h:¬p) (k:Ans x Q):Ans (Z0b (.bool (!decide p)) x y) Q:=by rw [decide_eq_false h]; exact k
theorem Ans.nf {β:Type} {p:Prop} [Decidable p] {x y:Option β} {Q:β->Prop} (h:p) (k:Ans y Q):Ans (Z0b (.bool (!decide p)) x y) Q:=by rw [decide_eq_true h]; exact k
theorem Ans.ds {β:Type} {p:Prop} [Decidable p] {x y:Option β} {Q:β->Prop} (h1:p->Ans x Q) (h2:¬p->Ans y Q):Ans (Z0b (.bool (decide p)) x y) Q:=by
 by_cases h:p
 · exact .dt h (h1 h)
 · exact .df h (h2 h)
theorem Ans.ns {β:Type} {p:Prop} [Decidable p] {x y:Option β} {Q:β->Prop} (h1:¬p->Ans x Q) (h2:p->Ans y Q):Ans (Z0b (.bool (!decide p)) x y) Q:=by
 by_cases h:p
 · exact .nf h (h2 h)
 · exact .nt h (h1 h)
theorem Ans.gt {β:Type} {b:Bool} {x y:Option β} {Q:β->Prop} (h:b=true) (k:Ans x Q):Ans (Z0b (.bool b) x y) Q:=by rw [h]; exact k
theorem Ans.hs {β:Type} {b:Bool} {x y:Option β} {Q:β->Prop} (h1:b=true->Ans x Q) (h2:b=false->Ans y Q):Ans (Z0b (.bool b) x y) Q:=by
 cases h:b with
 | true=>exact h1 h
 | false=>exact h2 h
theorem Ans.mt {β:Type} {b:Bool} {x y:Option β} {Q:β->Prop} (h:b=false) (k:Ans x Q):Ans (Z0b (.bool (!b)) x y) Q:=by rw [h]; exact k
theorem Ans.ms {β:Type} {b:Bool} {x y:Option β} {Q:β->Prop} (h1:b=false->Ans x Q) (h2:b=true->Ans y Q):Ans (Z0b (.bool (!b)) x y) Q:=by
 cases h:b with
 | true=>exact h2 h
 | false=>exact h1 h
theorem Ans.bb {α β:Type} {v:Value} {x y:Option α} {f:α->Option β} {Q:β->Prop} (h:Ans (Z0b v (x.bind f) (y.bind f)) Q):Ans ((Z0b v x y).bind f) Q:=by
 cases v <;> first | exact h | skip
 rename_i b
 cases b <;> exact h
theorem Ans.bc {α β:Type} {v:Bool} {x y:Option α} {f:α->Option β} {Q:β->Prop} (h:Ans (cond v (x.bind f) (y.bind f)) Q):Ans ((cond v x y).bind f) Q:=by cases v <;> exact h
theorem Ans.ba {α β γ:Type} {x:Option α} {g:α->Option β} {f:β->Option γ} {Q:γ->Prop} (h:Ans (x.bind fun a=>(g a).bind f) Q):Ans ((x.bind g).bind f) Q:=by
 cases x <;> exact h
theorem Ans.bz {α β:Type} {a:α} {f:α->Option β} {Q:β->Prop} (h:Ans (f a) Q):Ans ((some a).bind f) Q:=h
theorem Ans.lsT {β:Type} {k:IntKind} {ty:TypeId} {a b:Int} {f:Value->Option β} {Q:β->Prop} (h:a<b) (x:Ans (f (.bool true)) Q):Ans ((Z00 P .lss ty (.int k a) (.int k b)).bind f) Q:=Ans.step (by rw [aBinOp_lss,decide_eq_true h]) x
theorem Ans.lsF {β:Type} {k:IntKind} {ty:TypeId} {a b:Int} {f:Value->Option β} {Q:β->Prop} (h:¬(a<b)) (x:Ans (f (.bool false)) Q):Ans ((Z00 P .lss ty (.int k a) (.int k b)).bind f) Q:=Ans.step (by rw [aBinOp_lss,decide_eq_false h]) x
theorem Ans.lsS {β:Type} {k:IntKind} {ty:TypeId} {a b:Int} {f:Value->Option β} {Q:β->Prop} (h1:a<b->Ans (f (.bool true)) Q) (h2:¬(a<b)->Ans (f (.bool false)) Q):Ans ((Z00 P .lss ty (.int k a) (.int k b)).bind f) Q:=if h:a<b then Ans.lsT h (h1 h) else Ans.lsF h (h2 h)
theorem Ans.leT {β:Type} {k:IntKind} {ty:TypeId} {a b:Int} {f:Value->Option β} {Q:β->Prop} (h:a<=b) (x:Ans (f (.bool true)) Q):Ans ((Z00 P .leq ty (.int k a) (.int k b)).bind f) Q:=Ans.step (by rw [aBinOp_leq,decide_eq_true h]) x
theorem Ans.leF {β:Type} {k:IntKind} {ty:TypeId} {a b:Int} {f:Value->Option β} {Q:β->Prop} (h:¬(a<=b)) (x:Ans (f (.bool false)) Q):Ans ((Z00 P .leq ty (.int k a) (.int k b)).bind f) Q:=Ans.step (by rw [aBinOp_leq,decide_eq_false h]) x
theorem Ans.leS {β:Type} {k:IntKind} {ty:TypeId} {a b:Int} {f:Value->Option β} {Q:β->Prop} (h1:a<=b->Ans (f (.bool true)) Q) (h2:¬(a<=b)->Ans (f (.bool false)) Q):Ans ((Z00 P .leq ty (.int k a) (.int k b)).bind f) Q:=if h:a<=b then Ans.leT h (h1 h) else Ans.leF h (h2 h)
theorem Ans.grT {β:Type} {k:IntKind} {ty:TypeId} {a b:Int} {f:Value->Option β} {Q:β->Prop} (h:b<a) (x:Ans (f (.bool true)) Q):Ans ((Z00 P .gtr ty (.int k a) (.int k b)).bind f) Q:=Ans.step (by rw [aBinOp_gtr,decide_eq_true h]) x
theorem Ans.grF {β:Type} {k:IntKind} {ty:TypeId} {a b:Int} {f:Value->Option β} {Q:β->Prop} (h:¬(b<a)) (x:Ans (f (.bool false)) Q):Ans ((Z00 P .gtr ty (.int k a) (.int k b)).bind f) Q:=Ans.step (by rw [aBinOp_gtr,decide_eq_false h]) x
theorem Ans.grS {β:Type} {k:IntKind} {ty:TypeId} {a b:Int} {f:Value->Option β} {Q:β->Prop} (h1:b<a->Ans (f (.bool true)) Q) (h2:¬(b<a)->Ans (f (.bool false)) Q):Ans ((Z00 P .gtr ty (.int k a) (.int k b)).bind f) Q:=if h:b<a then Ans.grT h (h1 h) else Ans.grF h (h2 h)
theorem Ans.geT {β:Type} {k:IntKind} {ty:TypeId} {a b:Int} {f:Value->Option β} {Q:β->Prop} (h:b<=a) (x:Ans (f (.bool true)) Q):Ans ((Z00 P .geq ty (.int k a) (.int k b)).bind f) Q:=Ans.step (by rw [aBinOp_geq,decide_eq_true h]) x
theorem Ans.geF {β:Type} {k:IntKind} {ty:TypeId} {a b:Int} {f:Value->Option β} {Q:β->Prop} (h:¬(b<=a)) (x:Ans (f (.bool false)) Q):Ans ((Z00 P .geq ty (.int k a) (.int k b)).bind f) Q:=Ans.step (by rw [aBinOp_geq,decide_eq_false h]) x
theorem Ans.geS {β:Type} {k:IntKind} {ty:TypeId} {a b:Int} {f:Value->Option β} {Q:β->Prop} (h1:b<=a->Ans (f (.bool true)) Q) (h2:¬(b<=a)->Ans (f (.bool false)) Q):Ans ((Z00 P .geq ty (.int k a) (.int k b)).bind f) Q:=if h:b<=a then Ans.geT h (h1 h) else Ans.geF h (h2 h)
theorem Ans.eqT {β:Type} {k:IntKind} {ty:TypeId} {a b:Int} {f:Value->Option β} {Q:β->Prop} (h:a=b) (x:Ans (f (.bool true)) Q):Ans ((Z00 P .eql ty (.int k a) (.int k b)).bind f) Q:=Ans.step (by rw [aBinOp_eql,decide_eq_true h]) x
theorem Ans.eqF {β:Type} {k:IntKind} {ty:TypeId} {a b:Int} {f:Value->Option β} {Q:β->Prop} (h:¬(a=b)) (x:Ans (f (.bool false)) Q):Ans ((Z00 P .eql ty (.int k a) (.int k b)).bind f) Q:=Ans.step (by rw [aBinOp_eql,decide_eq_false h]) x
theorem Ans.eqS {β:Type} {k:IntKind} {ty:TypeId} {a b:Int} {f:Value->Option β} {Q:β->Prop} (h1:a=b->Ans (f (.bool true)) Q) (h2:¬(a=b)->Ans (f (.bool false)) Q):Ans ((Z00 P .eql ty (.int k a) (.int k b)).bind f) Q:=if h:a=b then Ans.eqT h (h1 h) else Ans.eqF h (h2 h)
theorem Ans.neT {β:Type} {k:IntKind} {ty:TypeId} {a b:Int} {f:Value->Option β} {Q:β->Prop} (h:¬(a=b)) (x:Ans (f (.bool true)) Q):Ans ((Z00 P .neq ty (.int k a) (.int k b)).bind f) Q:=Ans.step (by rw [aBinOp_neq,decide_eq_false h]; rfl) x
theorem Ans.neF {β:Type} {k:IntKind} {ty:TypeId} {a b:Int} {f:Value->Option β} {Q:β->Prop} (h:a=b) (x:Ans (f (.bool false)) Q):Ans ((Z00 P .neq ty (.int k a) (.int k b)).bind f) Q:=Ans.step (by rw [aBinOp_neq,decide_eq_true h]; rfl) x
theorem Ans.neS {β:Type} {k:IntKind} {ty:TypeId} {a b:Int} {f:Value->Option β} {Q:β->Prop} (h1:¬(a=b)->Ans (f (.bool true)) Q) (h2:a=b->Ans (f (.bool false)) Q):Ans ((Z00 P .neq ty (.int k a) (.int k b)).bind f) Q:=if h:a=b then Ans.neF h (h2 h) else Ans.neT h (h1 h)
theorem Ans.add {β:Type} {ty:TypeId} {a b:Int} {f:Value->Option β} {Q:β->Prop} (h:-9223372036854775808<=a+b/\a+b<9223372036854775808) (x:Ans (f (.int .i64 (a+b))) Q):Ans ((Z00 P .add ty (.int .i64 a) (.int .i64 b)).bind f) Q:=Ans.step (aBinOp_add ty a b h.1 h.2) x
theorem Ans.sub {β:Type} {ty:TypeId} {a b:Int} {f:Value->Option β} {Q:β->Prop} (h:-9223372036854775808<=a-b/\a-b<9223372036854775808) (x:Ans (f (.int .i64 (a-b))) Q):Ans ((Z00 P .sub ty (.int .i64 a) (.int .i64 b)).bind f) Q:=Ans.step (aBinOp_sub ty a b h.1 h.2) x
theorem Ans.mul {β:Type} {ty:TypeId} {a b:Int} {f:Value->Option β} {Q:β->Prop} (h:-9223372036854775808<=a*b/\a*b<9223372036854775808) (x:Ans (f (.int .i64 (a*b))) Q):Ans ((Z00 P .mul ty (.int .i64 a) (.int .i64 b)).bind f) Q:=Ans.step (aBinOp_mul ty a b h.1 h.2) x
theorem Ans.addN {β:Type} {ty:TypeId} {a:Nat} {f:Value->Option β} {Q:β->Prop} (h:(a:Int)<9223372036854775807) (x:Ans (f (.int .i64 ((a+1:Nat):Int))) Q):Ans ((Z00 P .add ty (.int .i64 (a:Int)) (.int .i64 1)).bind f) Q:=Ans.step (aBinOp_add ty a 1 (by omega) (by omega)) x
theorem Ans.oT {β:Type} {op:BinOp} {ty:TypeId} {a b:Value} {t:Bool} {f:Value->Option β} {Q:β->Prop} (e:Z00 P op ty a b=some (.bool t)) (ht:t=true) (x:Ans (f (.bool true)) Q):Ans ((Z00 P op ty a b).bind f) Q:=Ans.step (by rw [e,ht]) x
theorem Ans.oF {β:Type} {op:BinOp} {ty:TypeId} {a b:Value} {t:Bool} {f:Value->Option β} {Q:β->Prop} (e:Z00 P op ty a b=some (.bool t)) (ht:t=false) (x:Ans (f (.bool false)) Q):Ans ((Z00 P op ty a b).bind f) Q:=Ans.step (by rw [e,ht]) x
theorem Ans.oS {β:Type} {op:BinOp} {ty:TypeId} {a b:Value} {t:Bool} {f:Value->Option β} {Q:β->Prop} (e:Z00 P op ty a b=some (.bool t)) (h1:t=true->Ans (f (.bool true)) Q) (h2:t=false->Ans (f (.bool false)) Q):Ans ((Z00 P op ty a b).bind f) Q:=by
 cases ht:t with
 | true=>exact Ans.oT e ht (h1 ht)
 | false=>exact Ans.oF e ht (h2 ht)
theorem Ans.gyT {α β:Type} {b:Bool} {X Y:Option α} {f:α->Option β} {Q:β->Prop} (h:Ans (X.bind f) Q):Ans (((gv (.bool b) b).bind fun w=>cond w X Y).bind f) Q:=by
 cases b <;> exact h
theorem Ans.gyF {α β:Type} {X Y:Option α} {f:α->Option β} {Q:β->Prop} (h:Ans (Y.bind f) Q):Ans (((gv (.bool true) false).bind fun w=>cond w X Y).bind f) Q:=h
theorem Ans.gyG {α β:Type} {X Y:Option α} {f:α->Option β} {Q:β->Prop} (h:Ans (Y.bind f) Q):Ans (((gv (.bool false) true).bind fun w=>cond w X Y).bind f) Q:=h
theorem Ans.r1 {β:Type} {h:FH} {c:Nat} {x:Option Value} {f:Value × FH × Nat->Option β} {Q:β->Prop} (e:Ans (x.bind fun v=>f (v,h,c)) Q):Ans ((Z62 h c x).bind f) Q:=by
 cases x <;> exact e
theorem Ans.pkT {β:Type} {a b:Value} {f:Value->Option β} {Q:β->Prop} (e:Ans (f a) Q):Ans ((Z10 (.bool true) a b).bind f) Q:=e
theorem Ans.pkF {β:Type} {a b:Value} {f:Value->Option β} {Q:β->Prop} (e:Ans (f b) Q):Ans ((Z10 (.bool false) a b).bind f) Q:=e
theorem Ans.btL {β:Type} {x y:Option β} {Q:β->Prop} (k:Ans x Q):Ans (Z0b (.bool true) x y) Q:=k
theorem Ans.bfL {β:Type} {x y:Option β} {Q:β->Prop} (k:Ans y Q):Ans (Z0b (.bool false) x y) Q:=k
def Lk (o:Orc FH) (k:Key) (Q:Rt FH->Prop) (q:Rt FH):Prop:=if q.e = .normal then Ans (o k q.vs q.h q.c q.df) Q else Q q
theorem Ans.loop {o:Orc FH} {k:Key} {L X:Option (Rt FH)} {h:FH} {c:Nat} {df:List Nat} {Q:Rt FH->Prop}
 (N:∀ q r,L=some q->q.e = .normal->o k q.vs (gcR h c df q).h (gcR h c df q).c q.df=some r->X=some r)
 (Z:∀ q,L=some q->q.e ≠ .normal->X=some (gcR h c df q))
 (e:Ans L (fun q=>Lk o k Q (gcR h c df q))):Ans X Q:=by
 obtain ⟨q,hq,hl⟩:=e
 unfold Lk at hl
 rw [Zky,Zfx,ZjA] at hl
 by_cases hn:q.e = .normal
 · rw [if_pos hn] at hl
   obtain ⟨r,hr,h2⟩:=hl
   exact ⟨r,N q r hq hn hr,h2⟩
 · rw [if_neg hn] at hl
   exact ⟨_,Z q hq hn,hl⟩
theorem Ans.loop' {o:Orc FH} {k:Key} {L X:Option (Rt FH)} {Q:Rt FH->Prop}
 (N:∀ q r,L=some q->q.e = .normal->o k q.vs q.h q.c q.df=some r->X=some r)
 (Z:∀ q,L=some q->q.e ≠ .normal->X=some q)
 (e:Ans L (fun q=>Lk o k Q q)):Ans X Q:=by
 obtain ⟨q,hq,hl⟩:=e
 unfold Lk at hl
 by_cases hn:q.e = .normal
 · rw [if_pos hn] at hl
   obtain ⟨r,hr,h2⟩:=hl
   exact ⟨r,N q r hq hn hr,h2⟩
 · rw [if_neg hn] at hl
   exact ⟨_,Z q hq hn,hl⟩
theorem Lk.next {o:Orc FH} {k:Key} {Q:Rt FH->Prop} {vs:List Value} {h:FH} {c:Nat} {df:List Nat} (e:Ans (o k vs h c df) Q):Lk o k Q { e:=.normal,vs:=vs,h:=h,c:=c,df:=df }:=by
 unfold Lk; rw [if_pos rfl]; exact e
theorem Lk.exit {o:Orc FH} {k:Key} {Q:Rt FH->Prop} {i:Nat} {vs:List Value} {h:FH} {c:Nat} {df:List Nat} (e:Q { e:=.exit i,vs:=vs,h:=h,c:=c,df:=df }):Lk o k Q { e:=.exit i,vs:=vs,h:=h,c:=c,df:=df }:=by
 unfold Lk; rw [if_neg (by simp)]; exact e
theorem Lk.ret {o:Orc FH} {k:Key} {Q:Rt FH->Prop} {vs:List Value} {h:FH} {c:Nat} {df:List Nat} (e:Q { e:=.ret,vs:=vs,h:=h,c:=c,df:=df }):Lk o k Q { e:=.ret,vs:=vs,h:=h,c:=c,df:=df }:=by
 unfold Lk; rw [if_neg (by simp)]; exact e
theorem Ans.next0 {o:Orc FH} {k:Key} {Q:Rt FH->Prop} {A h:FH} {c c':Nat} {vs:List Value} {df:List Nat} (h1:Z1i c vs) (h2:Z0l c A h) (e:Ans (o k vs A c df) Q) :
 Ans (some { e:=.normal,vs:=vs,h:=h,c:=c',df:=df }) (fun q=>Lk o k Q (gcR A c df q)):=.done (by rw [Z7a h1 h2]; exact .next e)
theorem Ans.exit0 {o:Orc FH} {k:Key} {Q:Rt FH->Prop} {A h:FH} {c c':Nat} {vs:List Value} {df:List Nat} {i:Nat} (h1:Z1i c vs) (h2:Z0l c A h) (e:Q { e:=.exit i,vs:=vs,h:=A,c:=c,df:=df }) :
 Ans (some { e:=.exit i,vs:=vs,h:=h,c:=c',df:=df }) (fun q=>Lk o k Q (gcR A c df q)):=.done (by rw [Z7a h1 h2]; exact .exit e)
theorem Ans.ret0 {o:Orc FH} {k:Key} {Q:Rt FH->Prop} {A h:FH} {c c':Nat} {vs:List Value} {df:List Nat} (h1:Z1i c vs) (h2:Z0l c A h) (e:Q { e:=.ret,vs:=vs,h:=A,c:=c,df:=df }) :
 Ans (some { e:=.ret,vs:=vs,h:=h,c:=c',df:=df }) (fun q=>Lk o k Q (gcR A c df q)):=.done (by rw [Z7a h1 h2]; exact .ret e)
theorem Ans.nextB {o:Orc FH} {k:Key} {Q:Rt FH->Prop} {A B h:FH} {c c':Nat} {vs:List Value} {df:List Nat} (e:Ans (o k vs B c df) Q) (h1:Z1i c vs) (h2:Z0l c B h) (h3:Z2k c A B) :
 Ans (some { e:=.normal,vs:=vs,h:=h,c:=c',df:=df }) (fun q=>Lk o k Q (gcR A c df q)):=.done (by rw [ZcT h1 h2 h3]; exact .next e)
theorem Ans.nextN {o:Orc FH} {k:Key} {Q:Rt FH->Prop} {h:FH} {c:Nat} {vs:List Value} {df:List Nat} (e:Ans (o k vs h c df) Q) :
 Ans (some { e:=.normal,vs:=vs,h:=h,c:=c,df:=df }) (fun q=>Lk o k Q q):=.done (.next e)
theorem Ans.exitN {o:Orc FH} {k:Key} {Q:Rt FH->Prop} {h:FH} {c:Nat} {vs:List Value} {df:List Nat} {i:Nat} (e:Q { e:=.exit i,vs:=vs,h:=h,c:=c,df:=df }) :
 Ans (some { e:=.exit i,vs:=vs,h:=h,c:=c,df:=df }) (fun q=>Lk o k Q q):=.done (.exit e)
theorem Ans.retN {o:Orc FH} {k:Key} {Q:Rt FH->Prop} {h:FH} {c:Nat} {vs:List Value} {df:List Nat} (e:Q { e:=.ret,vs:=vs,h:=h,c:=c,df:=df }) :
 Ans (some { e:=.ret,vs:=vs,h:=h,c:=c,df:=df }) (fun q=>Lk o k Q q):=.done (.ret e)
theorem OkV.mono {c c':Nat} {v:Value} (hc:c<=c') (h:OkV c v):OkV c' v:=by
 obtain ⟨v',hv⟩:=h
 exact ⟨_,VR.mono (μ':=nuD c') (fun i m e=>by
  have:=Z6c (c:=c) (i:=i) (by rw [e]; simp)
  rw [Z7F this] at e
  rw [Z7F (by omega)]; exact e) hv⟩
theorem OkV.fn (c:Nat) (g:FuncId):OkV c (.func (.func g) #[] #[]):=⟨.func (.func g) #[] #[],.fnc g rfl rfl (fun k x y h=>by simp at h) (fun k x y h=>by simp at h)⟩
@[simp] theorem extV_20 (a b:Value):Z4z (.tuple #[a,b]) 0=some a:=rfl
@[simp] theorem extV_21 (a b:Value):Z4z (.tuple #[a,b]) 1=some b:=rfl
@[simp] theorem extV_30 (a b c:Value):Z4z (.tuple #[a,b,c]) 0=some a:=rfl
@[simp] theorem extV_31 (a b c:Value):Z4z (.tuple #[a,b,c]) 1=some b:=rfl
@[simp] theorem extV_32 (a b c:Value):Z4z (.tuple #[a,b,c]) 2=some c:=rfl
def Z0s:Value->Nat
 | .slice (some a) _ _=>a.block
 | _=>0
def Z3z:Value->Nat
 | .slice (some a) _ _=>a.off
 | _=>0
def capOf:Value->Nat
 | .slice _ _ k=>k
 | _=>0
@[simp] theorem blkOf_sl (b o n k:Nat):Z0s (.slice (some ⟨b,o,none⟩) n k)=b:=rfl
@[simp] theorem offOf_sl (b o n k:Nat):Z3z (.slice (some ⟨b,o,none⟩) n k)=o:=rfl
def gi (L:List Int) (i:Int):Int:=L.getD i.toNat 0
theorem SlI.blk {h:FH} {c:Nat} {s:Value} {sz n:Nat} {L:List Int} (hs:SlI h c s sz n L):0<n->Z0s s<256*c:=by
 obtain ⟨g1,g2,a,cap,rfl,h4⟩:=hs
 intro hn
 rcases h4 with ⟨e,hv⟩ | ⟨b,o,cs,rfl,e2,e3,e4⟩
 · omega
 · exact e2
theorem SlI.ixs {h:FH} {c:Nat} {s:Value} {sz n:Nat} {L:List Int} (hs:SlI h c s sz n L) (k:IntKind) (i:Int) (h1:0<=i) (h2:i<(n:Int)) :
 ixS sz s (.int k i)=some (.pointer (some ⟨Z0s s,Z3z s+i.toNat*sz,none⟩)):=by
 obtain ⟨g1,g2,a,cap,rfl,h4⟩:=hs
 rcases h4 with ⟨e,hv⟩ | ⟨b,o,cs,rfl,e2,e3,e4⟩
 · omega
 · exact ixS_sl sz b o n cap k i h1 h2
theorem SlI.rd {h:FH} {c:Nat} {s:Value} {sz n:Nat} {L:List Int} (hs:SlI h c s sz n L) (j:Nat) (hj:j<n*sz) :
 ld1 h (.pointer (some ⟨Z0s s,Z3z s+j,none⟩))=some (.int .i64 (L.getD j 0)):=by
 obtain ⟨g1,g2,a,cap,rfl,h4⟩:=hs
 rcases h4 with ⟨e,hv⟩ | ⟨b,o,cs,rfl,e2,e3,e4⟩
 · rw [e,Nat.zero_mul] at hj; omega
 · exact Zkl e3 e4 (by omega)
theorem SlI.rd2 {h:FH} {c:Nat} {s:Value} {sz n:Nat} {L:List Int} (hs:SlI h c s sz n L) (j k:Nat) (hj:j+k<n*sz) :
 ld1 h (.pointer (some ⟨Z0s s,Z3z s+j+k,none⟩))=some (.int .i64 (L.getD (j+k) 0)):=by rw [Nat.add_assoc]; exact hs.rd _ hj
theorem SlI.ixs1 {h:FH} {c:Nat} {s:Value} {n:Nat} {L:List Int} (hs:SlI h c s 1 n L) (k:IntKind) (i:Int) (h1:0<=i) (h2:i<(n:Int)) :
 ixS 1 s (.int k i)=some (.pointer (some ⟨Z0s s,Z3z s+i.toNat,none⟩)):=by rw [hs.ixs k i h1 h2,Nat.mul_one]
theorem SlI.rdN {h:FH} {c:Nat} {s:Value} {sz n:Nat} {L:List Int} (hs:SlI h c s sz n L) (q j:Nat) (hq:0<q) (hj:j+q<=n*sz) :
 ldN h q (.pointer (some ⟨Z0s s,Z3z s+j,none⟩))=some (av ((L.drop j).take q)):=by
 obtain ⟨g1,g2,a,cap,rfl,h4⟩:=hs
 rcases h4 with ⟨e,hv⟩ | ⟨b,o,cs,rfl,e2,e3,e4⟩
 · rw [e,Nat.zero_mul] at hj; omega
 · exact Zbc e3 e4 (by omega) hq
theorem SlI.rdN2 {h:FH} {c:Nat} {s:Value} {sz n:Nat} {L:List Int} (hs:SlI h c s sz n L) (q j k:Nat) (hq:0<q) (hj:j+k+q<=n*sz) :
 ldN h q (.pointer (some ⟨Z0s s,Z3z s+j+k,none⟩))=some (av ((L.drop (j+k)).take q)):=by rw [Nat.add_assoc]; exact hs.rdN q _ hq (by omega)
theorem SlI.face {h:FH} {c:Nat} {s:Value} {n:Nat} {L:List Int} (hs:SlI h c s 20 n L) (t f:Int) (h1:0<=t) (h2:t<(n:Int)) (h3:0<=f) (h4:f<4) :
 ldN h 5 (.pointer (some ⟨Z0s s,Z3z s+t.toNat*20+f.toNat*5,none⟩))=some (av (Z05 L t.toNat f.toNat)):=by
 rw [hs.rdN2 5 _ _ (by omega) (by omega)]
 unfold Z05
 rw [Nat.mul_comm 20,Nat.mul_comm 5]
theorem SlI.row {h:FH} {c:Nat} {s:Value} {n:Nat} {L:List Int} (hs:SlI h c s 20 n L) (t:Int) (h1:0<=t) (h2:t<(n:Int)) :
 ldN h 20 (.pointer (some ⟨Z0s s,Z3z s+t.toNat*20,none⟩))=some (av (Z1R L t.toNat)):=by
 rw [hs.rdN 20 _ (by omega) (by omega)]
 unfold Z1R
 rw [Nat.mul_comm 20]
def Z3u (Pm:List Int) (i:Nat):List Int:=(Pm.drop (4*i)).take 4
theorem Z9t {Pm:List Int} {n i:Nat} (h:Pm.length=n*4) (hi:i<n):(Z3u Pm i).length=4:=by simp [Z3u]; omega
theorem SlI.perm {h:FH} {c:Nat} {s:Value} {n:Nat} {L:List Int} (hs:SlI h c s 4 n L) (t:Int) (h1:0<=t) (h2:t<(n:Int)) :
 ldN h 4 (.pointer (some ⟨Z0s s,Z3z s+t.toNat*4,none⟩))=some (av (Z3u L t.toNat)):=by
 rw [hs.rdN 4 _ (by omega) (by omega)]
 unfold Z3u
 rw [Nat.mul_comm 4]
theorem SlI.keep {h h':FH} {c:Nat} {s:Value} {sz n:Nat} {L:List Int} (hs:SlI h c s sz n L) (hh:0<n->h'.f (Z0s s)=h.f (Z0s s)):SlI h' c s sz n L:=by
 by_cases hn:0<n
 · obtain ⟨h1,h2,a,cap,rfl,h4⟩:=hs
   refine ⟨h1,h2,a,cap,rfl, ?_⟩
   rcases h4 with ⟨e,hv⟩ | ⟨b,o,cs,rfl,e2,⟨ro,op,e3⟩,e4⟩
   · omega
   · exact .inr ⟨b,o,cs,rfl,e2,⟨ro,op,(hh hn).trans e3⟩,e4⟩
 · have ho:=hs.okV
   obtain ⟨h1,h2,a,cap,rfl,h4⟩:=hs
   exact ⟨h1,h2,a,cap,rfl,.inl ⟨by omega,ho⟩⟩
theorem SlI.nil (h:FH) (c sz:Nat):SlI h c (.slice none 0 0) sz 0 []:=⟨by simp,by omega,none,0,rfl,.inl ⟨rfl,OkV.sl0 _ _ _⟩⟩
theorem SlI.flat {h:FH} {c:Nat} {s:Value} {sz n:Nat} {L:List Int} (hs:SlI h c s sz n L):Z06 s=true:=by
 obtain ⟨_,_,a,cap,rfl,_⟩:=hs
 rfl
theorem Z7d (v:Value):∀ n:Nat,Z17 [v] n=List.replicate n v
 | 0=>rfl
 | n+1=>by rw [Z17,Z7d v n]; rfl
theorem Zfg (sz by':Nat) (z:List Value) (k k':IntKind) (n:Nat) (h:by'*n<=281474976710656) (h2:n<=281474976710656):mkS sz by' z (.int k (n:Int)) (.int k' (n:Int))=some (Z17 z n,n,n):=by
 have h3:(by':Int)*(n:Int)<=281474976710656:=by rw [← Int.natCast_mul]; omega
 have h4:(n:Int)<=281474976710656:=by omega
 have h5:(0:Int)<=n:=by omega
 simp only [mkS,Zjm,Option.bind_some,decide_eq_true h3,decide_eq_true h4,decide_eq_true h5,decide_eq_true (Int.le_refl (n:Int)),Bool.and_self,cond_true,Int.toNat_natCast]
theorem Z9w (sz by':Nat) (k k':IntKind) (n:Nat) (h:by'*n<=281474976710656) (h2:n<=281474976710656):mkS sz by' [.int .i64 0] (.int k (n:Int)) (.int k' (n:Int))=some (ints (List.replicate n 0),n,n):=by
 rw [Zfg sz by' _ k k' n h h2,Z7d,ints,List.map_replicate]
theorem Zh1 (sz by':Nat) (k k':IntKind) (n:Nat) (h:by'*n<=281474976710656) (h2:n<=281474976710656):mkS sz by' [.bool false] (.int k (n:Int)) (.int k' (n:Int))=some (bools (List.replicate n false),n,n):=by
 rw [Zfg sz by' _ k k' n h h2,Z7d,bools,List.map_replicate]
def Own (h:FH) (b:Nat) (op:Option Nat) (cs:List Value):Prop:=HeapC.get h b=some (.cells false op cs)
theorem Own.same {h h':FH} {c b:Nat} {op:Option Nat} {cs:List Value} (hb:b<256*c) (hs:Z0l c h h') (e:Own h b op cs):Own h' b op cs:=(hs b hb).trans e
theorem Own.new (h:FH) (b:Nat) (cs:List Value):Own (newB h b cs) b none cs:=get_newB_same h b cs
theorem Own.set (h:FH) (b:Nat) (op:Option Nat) (cs:List Value):Own (HeapC.set h b (.cells false op cs)) b op cs:=get_set_same h b _
theorem Z2k.set {c b:Nat} {A B:FH} {op:Option Nat} {ro:Bool} {cs:List Value} (hb:b<256*c) (hc:Z1i c cs) (h:Z2k c A B):Z2k c A (HeapC.set B b (.cells ro op cs)):=by
 intro i
 rw [Z0c]
 refine ⟨fun hi=>?_,fun hi=>?_⟩
 · rw [if_neg (by omega)]; exact (h i).1 hi
 · split
   · exact .inr hc
   · exact (h i).2 hi
theorem Ans.call {S X:Option (Rt FH)} {h:FH} {c:Nat} {Q:Rt FH->Prop} (hgo:∀ r,S=some r->X=some (gcR h c [] r)) (hS:Ans S (fun r=>Q (gcR h c [] r))):Ans X Q:=by
 obtain ⟨r,e,hq⟩:=hS
 exact ⟨_,hgo r e,hq⟩
theorem Ans.call' {S X:Option (Rt FH)} {Q:Rt FH->Prop} (hgo:∀ r,S=some r->X=some r) (hS:Ans S Q):Ans X Q:=by
 obtain ⟨r,e,hq⟩:=hS
 exact ⟨_,hgo r e,hq⟩
def Zlp (h:FH) (c:Nat) (v:Value) (r:Rt FH):Prop:=r.e = .ret/\r.vs=[v]/\Z0l c h r.h/\r.df=[]
theorem Z0K {X S:Option (Rt FH)} {h:FH} {c:Nat} {v:Value} (hgo:∀ r,S=some r->X=some (gcR h c [] r)) (hv:OkV c v) (hS:Ans S (Zlp h c v)) :
 X=some { e:=.ret,vs:=[v],h:=h,c:=c,df:=[] }:=Z9s hgo hv hS
theorem Ans.pure {h h':FH} {c c':Nat} {v w:Value} (hv:w=v) (hs:Z0l c h h'):Ans (some { e:=.ret,vs:=[w],h:=h',c:=c',df:=[] }) (Zlp h c v):=.done ⟨rfl,by rw [hv],hs,rfl⟩
theorem Zc5 {x:Option Nat} {h1 h2:FH} (e:∀ i,x=some i->h1.f i=h2.f i):Z1a x h1 h2=true:=by
 cases x with
 | none=>rfl
 | some i =>
  show @decide (h1.f i=h2.f i) (Classical.propDecidable _)=true
  exact @decide_eq_true _ (Classical.propDecidable _) (e i rfl)
end Go.Ab

namespace Go.Ab
open Go
@[simp,reducible] def gg {H:Type} (g:Value) (b:Bool) (h:H) (c:Nat) (x:Option (Value × H × Nat)):Option (Value × H × Nat):=(gv g b).bind fun w=>cond w x (some (undef,h,c))
@[simp,reducible] def gd {H:Type} (g:Value) (b:Bool) (h:H) (c:Nat) (x:Option Value):Option (Value × H × Nat):=(gv g b).bind fun w=>cond w (Z62 h c x) (some (undef,h,c))
def pd:Nat->Nat->List Nat
 | 0,_=>[]
 | k+1,n=>cond (Nat.ble n 1) [] ((n % 2)::pd k (n / 2))
@[reducible] def rg (i:Nat) (b:Code) (p:Nat) (d:Bool):ACode:=.region i (opsAt b (pd 100 p)) d
theorem ai {a b:Prop} (h:a) (k:b):a/\b:=And.intro h k
theorem tt:True:=trivial
theorem Ans.lpG {P:Program} {bk:FuncId->Option AFun} {sel:Key->Bool} {ext:Fo FH} {key:Key} {j nt:Nat} {lin:List Nat} {b:ACode} {rd:Option Nat} {vs:List Value} {h:FH} {c:Nat} {df:List Nat} {L:Option (Rt FH)} {Q:Rt FH->Prop}
 (hk:key = .lp j lin [] b nt rd) (hs:sel key=true) (e:jx P (Z6a P bk sel ext) nt rd b (Z0m lin vs) h c df (Klp lin)=L) (k:Ans L (fun q=>Lk (Z6a P bk sel ext) key Q (gcR h c df q))):Ans (Z6a P bk sel ext key vs h c df) Q:=by
 subst hk
 have hg:∀ q,gcS sel (.lp j lin [] b nt rd) h c df q=gcR h c df q:=fun q=>by unfold gcS; rw [hs]; rfl
 refine Ans.loop (L:=L) (fun q r hq hn k=>Z1t (e.trans hq) hn (by rw [hg]; exact k)) (fun q hq hn=>?_) k
 rw [← hg]
 exact Z1u (e.trans hq) hn
theorem Ans.lpN {P:Program} {bk:FuncId->Option AFun} {sel:Key->Bool} {ext:Fo FH} {key:Key} {j nt:Nat} {lin:List Nat} {b:ACode} {rd:Option Nat} {vs:List Value} {h:FH} {c:Nat} {df:List Nat} {L:Option (Rt FH)} {Q:Rt FH->Prop}
 (hk:key = .lp j lin [] b nt rd) (hs:sel key=false) (e:jx P (Z6a P bk sel ext) nt rd b (Z0m lin vs) h c df (Klp lin)=L) (k:Ans L (fun q=>Lk (Z6a P bk sel ext) key Q q)):Ans (Z6a P bk sel ext key vs h c df) Q:=by
 subst hk
 have hg:∀ q,gcS sel (.lp j lin [] b nt rd) h c df q=q:=fun q=>by unfold gcS; rw [hs]; rfl
 refine Ans.loop' (L:=L) (fun q r hq hn k=>Z1t (e.trans hq) hn (by rw [hg]; exact k)) (fun q hq hn=>?_) k
 have:=Z1u (ext:=ext) (sel:=sel) (bk:=bk) (j:=j) (e.trans hq) hn
 rw [hg] at this
 exact this
end Go.Ab

namespace Go.Proofs.Ytdodippbpdechaa
open Go Go.Ab Go.Proofs
variable {H:Type} [HeapC H]
noncomputable abbrev P:=Try.prog
noncomputable def ZeF:Code:=Z0o Try.f9
noncomputable def f9_c:ACode:=(.seq (rg 0 ZeF 2 false) (.seq (.seq (rg 1 ZeF 9 false) (.cond (.tmp 13) (.seq (rg 2 ZeF 37 false) .ret) .skip)) (.seq (rg 3 ZeF 11 false) (.seq (rg 4 ZeF 23 false) (.seq (rg 5 ZeF 47 false) (.seq (rg 6 ZeF 95 false) (.seq (rg 7 ZeF 191 false) (.seq (rg 8 ZeF 383 false) (.seq (rg 9 ZeF 767 false) (.seq (rg 10 ZeF 1535 false) .ret))))))))))
noncomputable def f9_f:AFun:={ code:=f9_c,nt:=40,res:=Try.f9.results.toList,fr:=[] }
noncomputable def Zg6:Code:=Z0o Try.f10
noncomputable def f10_c:ACode:=(.seq (rg 0 Zg6 2 false) (.seq (rg 1 Zg6 5 false) (.seq (rg 2 Zg6 11 false) (.seq (rg 3 Zg6 23 false) .ret))))
noncomputable def Zep:AFun:={ code:=f10_c,nt:=31,res:=Try.f10.results.toList,fr:=[] }
noncomputable def Zg5:Code:=Z0o Try.f11
noncomputable def f11_c:ACode:=(.seq (rg 0 Zg5 2 false) (.seq (.seq (rg 1 Zg5 9 false) (.cond (.tmp 6) (.seq (rg 2 Zg5 37 false) .ret) .skip)) (.seq (rg 3 Zg5 11 false) .ret)))
noncomputable def ZbH:AFun:={ code:=f11_c,nt:=10,res:=Try.f11.results.toList,fr:=[] }
noncomputable def Z9V:Code:=Z0o Try.f12
noncomputable def f12_c:ACode:=(.seq (rg 0 Z9V 2 false) (.seq (.seq (rg 1 Z9V 9 false) (.cond (.tmp 13) (.seq (rg 2 Z9V 37 false) .ret) .skip)) (.seq (rg 3 Z9V 11 false) (.seq (rg 4 Z9V 23 false) (.seq (rg 5 Z9V 47 false) (.seq (rg 6 Z9V 95 false) (.seq (rg 7 Z9V 191 false) .ret)))))))
noncomputable def Zj2:AFun:={ code:=f12_c,nt:=49,res:=Try.f12.results.toList,fr:=[] }
noncomputable def Z72:Code:=Z0o Try.f13
noncomputable def Z3i:ACode:=(.seq (rg 5 Z72 279 false) (.seq (.cond (.tmp 14) .skip (.exit 0)) (.seq (.block 1 (.seq (rg 6 Z72 4503 false) (.seq (rg 7 Z72 10647 false) (.cond (.tmp 19) (.seq (rg 8 Z72 39319 false) .ret) .skip)))) (rg 9 Z72 1943 false))))
noncomputable def Z3Z (rd:Option Nat):Key:=.lp 13000 [2,3,4,12,13] [] Z3i 23 rd
noncomputable def f13_c:ACode:=(.seq (rg 0 Z72 2 false) (.seq (.seq (rg 1 Z72 9 false) (.cond (.tmp 9) (.seq (rg 2 Z72 37 false) .ret) .skip)) (.seq (rg 3 Z72 11 false) (.seq (.seq (rg 4 Z72 39 false) (.block 0 (.loop 13000 [2,3,4,12,13] [] [(.exit 0),.ret] Z3i))) (.seq (rg 10 Z72 47 false) .ret)))))
noncomputable def ZbG:AFun:={ code:=f13_c,nt:=23,res:=Try.f13.results.toList,fr:=[] }
noncomputable def Z4G:Code:=Z0o Try.f14
noncomputable def Z3g:ACode:=(.seq (.seq (rg 8 Z4G 33943 false) (.cond (.tmp 18) .skip (.exit 2))) (.seq (.join [(.normal,[1,2,3,4,5]),(.ret,[1,2,3,4,5])] (.block 3 (.seq (rg 10 Z4G 140439 false) (.seq (.seq (rg 11 Z4G 599191 false) (.cond (.tmp 36) (.exit 3) .skip)) (.seq (.seq (rg 12 Z4G 1254551 false) (.cond (.tmp 65) (.seq (rg 13 Z4G 4924567 false) .ret) .skip)) (.seq (rg 14 Z4G 1516695 true) (.cond (.tmp 82) (.seq (rg 15 Z4G 5186711 false) .ret) .skip))))))) (rg 9 Z4G 58519 false)))
noncomputable def Zel (rd:Option Nat):Key:=.lp 14001 [1,2,3,4,5] [] Z3g 83 rd
noncomputable def Z3h:ACode:=(.seq (.seq (rg 5 Z4G 535 false) (.cond (.tmp 14) .skip (.exit 0))) (.seq (.block 1 (.seq (rg 7 Z4G 2199 false) (.block 2 (.loop 14001 [1,2,3,4,5] [] [(.exit 2),.ret] Z3g)))) (rg 6 Z4G 919 false)))
noncomputable def Zem (rd:Option Nat):Key:=.lp 14000 [1,2,3,4] [] Z3h 83 rd
noncomputable def f14_c:ACode:=(.seq (rg 0 Z4G 2 false) (.seq (rg 1 Z4G 5 false) (.seq (.seq (rg 2 Z4G 19 false) (.cond (.tmp 11) (.seq (rg 3 Z4G 75 false) .ret) .skip)) (.seq (.seq (rg 4 Z4G 39 false) (.block 0 (.loop 14000 [1,2,3,4] [] [(.exit 0),.ret] Z3h))) (.seq (rg 16 Z4G 47 false) .ret)))))
noncomputable def Zen:AFun:={ code:=f14_c,nt:=83,res:=Try.f14.results.toList,fr:=[] }
noncomputable def Z8i:Code:=Z0o Try.f16
noncomputable def Z3f:ACode:=(.seq (.seq (rg 4 Z8i 267 false) (.cond (.tmp 14) .skip (.exit 0))) (.seq (.block 1 (.seq (rg 6 Z8i 1099 true) (.cond (.tmp 25) (.seq (rg 7 Z8i 4683 false) .ret) .skip))) (rg 5 Z8i 459 false)))
noncomputable def Zej (rd:Option Nat):Key:=.lp 16000 [0,1,4,5] [] Z3f 26 rd
noncomputable def f16_c:ACode:=(.seq (rg 0 Z8i 2 false) (.seq (.seq (rg 1 Z8i 9 false) (.cond (.tmp 10) (.seq (rg 2 Z8i 37 false) .ret) .skip)) (.seq (.seq (rg 3 Z8i 19 false) (.block 0 (.loop 16000 [0,1,4,5] [] [(.exit 0),.ret] Z3f))) (.seq (rg 8 Z8i 23 false) .ret))))
noncomputable def Zek:AFun:={ code:=f16_c,nt:=26,res:=Try.f16.results.toList,fr:=[] }
noncomputable def Z9R:Code:=Z0o Try.f27
noncomputable def Z3e:ACode:=(.seq (rg 2 Z9R 69 false) (.seq (.cond (.tmp 9) .skip (.exit 0)) (.seq (.block 1 (.seq (rg 3 Z9R 1125 false) (.seq (rg 4 Z9R 2661 false) (.cond (.tmp 23) (.seq (rg 5 Z9R 9829 false) .ret) .skip)))) (rg 6 Z9R 485 false))))
noncomputable def Z97 (rd:Option Nat):Key:=.lp 27000 [0,1,4,7,8] [] Z3e 26 rd
noncomputable def f27_c:ACode:=(.seq (rg 0 Z9R 2 false) (.seq (.seq (rg 1 Z9R 9 false) (.block 0 (.loop 27000 [0,1,4,7,8] [] [(.exit 0),.ret] Z3e))) (.seq (rg 7 Z9R 11 false) .ret)))
noncomputable def ZbF:AFun:={ code:=f27_c,nt:=26,res:=Try.f27.results.toList,fr:=[] }
noncomputable def Z3A:Code:=Z0o Try.f29
noncomputable def Z21:ACode:=(rg 7 Z3A 303 false)
noncomputable def Z1Y:ACode:=(.block 1 (.seq (.seq (rg 8 Z3A 2223 false) (.cond (.tmp 45) (.seq (rg 9 Z3A 9391 false) .ret) .skip)) (rg 10 Z3A 1711 false)))
noncomputable def Z20:ACode:=(rg 13 Z3A 1215 false)
noncomputable def Z1X:ACode:=(.block 3 (rg 14 Z3A 2751 false))
noncomputable def Z1Z:ACode:=(rg 17 Z3A 4863 false)
noncomputable def Z1W:ACode:=(.block 5 (rg 18 Z3A 11007 false))
noncomputable def f29_c:ACode:=(.seq (rg 0 Z3A 2 false) (.seq (.seq (rg 1 Z3A 9 false) (.cond (.tmp 16) (.seq (rg 2 Z3A 37 false) .ret) .skip)) (.seq (.seq (rg 3 Z3A 19 false) (.cond (.tmp 30) (.seq (rg 4 Z3A 75 false) .ret) .skip)) (.seq (rg 5 Z3A 23 false) (.seq (.seq (rg 6 Z3A 79 false) (.block 0 (.rangeFunc 29000 [6,7,8,9] [] [.normal,.ret] (.tmp 36) #[37] Z21 Z1Y))) (.seq (rg 11 Z3A 95 false) (.seq (.seq (rg 12 Z3A 319 false) (.block 2 (.rangeFunc 29001 [11] [] [.normal] (.tmp 54) #[55] Z20 Z1X))) (.seq (rg 15 Z3A 383 false) (.seq (.seq (rg 16 Z3A 1279 false) (.block 4 (.rangeFunc 29002 [6] [] [.normal] (.tmp 59) #[60] Z1Z Z1W))) (.seq (rg 19 Z3A 1535 false) .ret))))))))))
noncomputable def ZiY:AFun:={ code:=f29_c,nt:=66,res:=Try.f29.results.toList,fr:=[] }
noncomputable def Z5b:Code:=Z0o Try.f35
noncomputable def Z6t:ACode:=(.seq (rg 10 Z5b 4479 false) (.seq (.cond (.tmp 43) .skip (.exit 0)) (.seq (.block 1 (.seq (rg 11 Z5b 72063 false) (rg 12 Z5b 104831 true))) (rg 13 Z5b 31103 false))))
noncomputable def Z96 (rd:Option Nat):Key:=.lp 35000 [9,10,40,41,42] [] Z6t 59 rd
noncomputable def f35_c:ACode:=(.seq (rg 0 Z5b 2 false) (.seq (.seq (rg 1 Z5b 9 false) (.cond (.tmp 15) (.seq (rg 2 Z5b 37 false) .ret) .skip)) (.seq (rg 3 Z5b 11 false) (.seq (rg 4 Z5b 23 false) (.seq (.seq (rg 5 Z5b 79 false) (.cond (.tmp 32) (.seq (rg 6 Z5b 303 false) .ret) .skip)) (.seq (rg 7 Z5b 95 false) (.seq (rg 8 Z5b 191 false) (.seq (.seq (rg 9 Z5b 639 false) (.block 0 (.loop 35000 [9,10,40,41,42] [] [(.exit 0)] Z6t))) (.seq (rg 14 Z5b 767 false) .ret)))))))))
noncomputable def ZiW:AFun:={ code:=f35_c,nt:=59,res:=Try.f35.results.toList,fr:=[] }
noncomputable def Z8h:Code:=Z0o Try.f36
noncomputable def Z6r:ACode:=(.seq (.seq (rg 4 Z8h 267 false) (.cond (.tmp 17) .skip (.exit 0))) (.seq (.block 1 (.seq (rg 6 Z8h 1099 true) (.cond (.tmp 30) (.seq (rg 7 Z8h 4683 false) .ret) .skip))) (rg 5 Z8h 459 false)))
noncomputable def Z95 (rd:Option Nat):Key:=.lp 36000 [2,3,4,5] [] Z6r 31 rd
noncomputable def f36_c:ACode:=(.seq (rg 0 Z8h 2 false) (.seq (.seq (rg 1 Z8h 9 false) (.cond (.tmp 12) (.seq (rg 2 Z8h 37 false) .ret) .skip)) (.seq (.seq (rg 3 Z8h 19 false) (.block 0 (.loop 36000 [2,3,4,5] [] [(.exit 0),.ret] Z6r))) (.seq (rg 8 Z8h 23 false) .ret))))
noncomputable def ZiU:AFun:={ code:=f36_c,nt:=31,res:=Try.f36.results.toList,fr:=[] }
noncomputable def ZiS:Code:=Z0o Try.f37
noncomputable def f37_c:ACode:=(.seq (rg 0 ZiS 2 false) (.seq (rg 1 ZiS 5 false) (.seq (rg 2 ZiS 11 false) .ret)))
noncomputable def Zef:AFun:={ code:=f37_c,nt:=8,res:=Try.f37.results.toList,fr:=[] }
noncomputable def Z5R:Code:=Z0o Try.f38
noncomputable def Z1g:ACode:=(.seq (rg 5 Z5R 279 false) (rg 6 Z5R 407 false))
noncomputable def Z1f:ACode:=(.join [(.normal,[]),(.ret,[])] (.block 1 (.seq (.seq (rg 7 Z5R 1111 false) (.cond (.tmp 17) (.exit 1) .skip)) (.seq (.seq (rg 8 Z5R 2391 true) (.cond (.tmp 51) (.seq (rg 9 Z5R 9559 false) .ret) .skip)) (.seq (rg 10 Z5R 2903 true) (.cond (.tmp 70) (.seq (rg 11 Z5R 10071 false) .ret) .skip))))))
noncomputable def f38_c:ACode:=(.seq (rg 0 Z5R 2 false) (.seq (.seq (rg 1 Z5R 9 false) (.cond (.tmp 9) (.seq (rg 2 Z5R 37 false) .ret) .skip)) (.seq (rg 3 Z5R 11 false) (.seq (.seq (rg 4 Z5R 39 false) (.block 0 (.rangeFunc 38000 [1,2,3] [] [.normal,.ret] (.tmp 12) #[13,14] Z1g Z1f))) (.seq (rg 12 Z5R 47 false) .ret)))))
noncomputable def ZbE:AFun:={ code:=f38_c,nt:=71,res:=Try.f38.results.toList,fr:=[] }
noncomputable def Z1K:Code:=Z0o Try.f39
noncomputable def Z3a:ACode:=(.seq (rg 14 Z1K 9410943 false) (.seq (.cond (.tmp 107) .skip (.exit 2)) (.seq (.block 3 (.seq (rg 15 Z1K 147822975 false) (.seq (rg 16 Z1K 349149567 false) (.seq (rg 17 Z1K 751802751 false) (.seq (rg 18 Z1K 1557109119 true) (.join [(.normal,[2,3,4,5,6,8,10,12,13,59,60,105,106])] (.cond (.tmp 148) (rg 19 Z1K 3167721855 false) .skip))))))) (rg 20 Z1K 63936895 false))))
noncomputable def Z93 (rd:Option Nat):Key:=.lp 39001 [2,3,4,5,6,8,10,12,13,59,60,105,106] [] Z3a 172 rd
noncomputable def Z3b:ACode:=(.seq (rg 8 Z1K 4479 false) (.seq (.cond (.tmp 61) .skip (.exit 0)) (.seq (.block 1 (.seq (rg 9 Z1K 72063 false) (.seq (rg 10 Z1K 170367 true) (.seq (rg 11 Z1K 366975 true) (.seq (rg 12 Z1K 760191 true) (.seq (rg 13 Z1K 1546623 false) (.block 2 (.loop 39001 [2,3,4,5,6,8,10,12,13,59,60,105,106] [] [(.exit 2)] Z3a)))))))) (rg 21 Z1K 31103 false))))
noncomputable def Z94 (rd:Option Nat):Key:=.lp 39000 [2,3,4,5,6,8,10,12,59,60] [] Z3b 172 rd
noncomputable def Z39:ACode:=(.seq (rg 23 Z1K 8959 false) (.seq (.cond (.tmp 157) .skip (.exit 4)) (.seq (.block 5 (.seq (rg 24 Z1K 144127 false) (rg 25 Z1K 209663 true))) (rg 26 Z1K 62207 false))))
noncomputable def Z92 (rd:Option Nat):Key:=.lp 39002 [2,3,4,6,12,155,156] [] Z39 172 rd
noncomputable def f39_c:ACode:=(.seq (rg 0 Z1K 2 false) (.seq (rg 1 Z1K 5 false) (.seq (rg 2 Z1K 11 false) (.seq (rg 3 Z1K 23 false) (.seq (rg 4 Z1K 47 false) (.seq (rg 5 Z1K 95 false) (.seq (rg 6 Z1K 191 true) (.seq (.seq (rg 7 Z1K 639 false) (.block 0 (.loop 39000 [2,3,4,5,6,8,10,12,59,60] [] [(.exit 0)] Z3b))) (.seq (.seq (rg 22 Z1K 1279 false) (.block 4 (.loop 39002 [2,3,4,6,12,155,156] [] [(.exit 4)] Z39))) (.seq (rg 27 Z1K 1535 false) .ret))))))))))
noncomputable def ZbD:AFun:={ code:=f39_c,nt:=172,res:=Try.f39.results.toList,fr:=[] }
noncomputable def Z1J:Code:=Z0o Try.f40
noncomputable def Z32:ACode:=(.seq (rg 18 Z1J 153762765207 false) (.seq (.cond (.tmp 91) .skip (.exit 6)) (.seq (.block 7 (.seq (rg 19 Z1J 2421505497495 false) (.seq (rg 20 Z1J 5720040380823 false) (.join [(.normal,[4,5,7,8,9,10,35,36,37,42,43,68,90])] (.cond (.tmp 100) (.seq (rg 21 Z1J 21113203169687 true) (rg 22 Z1J 29909296191895 true)) .skip))))) (rg 23 Z1J 1047115962775 false))))
noncomputable def Z8Y (rd:Option Nat):Key:=.lp 40003 [4,5,7,8,9,10,35,36,37,42,43,68,90] [] Z32 152 rd
noncomputable def Z33:ACode:=(.seq (rg 13 Z1J 150575511 false) (.seq (.cond (.tmp 69) .skip (.exit 4)) (.seq (.join [(.normal,[4,5,7,8,9,35,36,37,42,43,68])] (.block 5 (.seq (rg 14 Z1J 2365168023 false) (.seq (.seq (rg 15 Z1J 9881360791 false) (.cond (.tmp 73) (.exit 5) .skip)) (.seq (rg 16 Z1J 12028844439 true) (.seq (rg 17 Z1J 24913746327 false) (.block 6 (.loop 40003 [4,5,7,8,9,10,35,36,37,42,43,68,90] [] [(.exit 6)] Z32)))))))) (rg 24 Z1J 1022990743 false))))
noncomputable def Z8Z (rd:Option Nat):Key:=.lp 40002 [4,5,7,8,9,35,36,37,42,43,68] [] Z33 152 rd
noncomputable def Z34:ACode:=(.seq (rg 7 Z1J 72087 false) (.seq (.cond (.tmp 44) .skip (.exit 2)) (.seq (.join [(.normal,[4,5,35,36,37,42,43])] (.block 3 (.seq (rg 8 Z1J 1153431 false) (.seq (.seq (rg 9 Z1J 4823447 false) (.cond (.tmp 49) (.exit 3) .skip)) (.seq (rg 10 Z1J 5872023 false) (.seq (rg 11 Z1J 12163479 true) (.seq (rg 12 Z1J 24746391 false) (.block 4 (.loop 40002 [4,5,7,8,9,35,36,37,42,43,68] [] [(.exit 4)] Z33))))))))) (rg 25 Z1J 498071 false))))
noncomputable def Z90 (rd:Option Nat):Key:=.lp 40001 [4,5,35,36,37,42,43] [] Z34 152 rd
noncomputable def Z35:ACode:=(.seq (rg 4 Z1J 279 false) (.seq (.cond (.tmp 38) .skip (.exit 0)) (.seq (.block 1 (.seq (rg 5 Z1J 4503 false) (.seq (rg 6 Z1J 10647 false) (.block 2 (.loop 40001 [4,5,35,36,37,42,43] [] [(.exit 2)] Z34))))) (rg 26 Z1J 1943 false))))
noncomputable def Z91 (rd:Option Nat):Key:=.lp 40000 [4,35,36,37] [] Z35 152 rd
noncomputable def f40_c:ACode:=(.seq (rg 0 Z1J 2 false) (.seq (rg 1 Z1J 5 false) (.seq (rg 2 Z1J 11 true) (.seq (.seq (rg 3 Z1J 39 false) (.block 0 (.loop 40000 [4,35,36,37] [] [(.exit 0)] Z35))) (.seq (rg 27 Z1J 47 false) .ret)))))
noncomputable def ZbC:AFun:={ code:=f40_c,nt:=152,res:=Try.f40.results.toList,fr:=[] }
noncomputable def Z5Q:Code:=Z0o Try.f41
noncomputable def Z31:ACode:=(.seq (rg 4 Z5Q 279 false) (.seq (.cond (.tmp 17) .skip (.exit 0)) (.seq (.block 1 (.seq (rg 5 Z5Q 4503 false) (.seq (rg 6 Z5Q 10647 false) (.seq (rg 7 Z5Q 22935 false) (.join [(.normal,[0,4,5,15,16])] (.cond (.tmp 24) (.seq (rg 8 Z5Q 80279 false) (rg 9 Z5Q 113047 false)) (rg 10 Z5Q 63895 false))))))) (rg 11 Z5Q 1943 false))))
noncomputable def Z8X (rd:Option Nat):Key:=.lp 41000 [0,4,5,15,16] [] Z31 41 rd
noncomputable def f41_c:ACode:=(.seq (rg 0 Z5Q 2 false) (.seq (rg 1 Z5Q 5 false) (.seq (rg 2 Z5Q 11 false) (.seq (.seq (rg 3 Z5Q 39 false) (.block 0 (.loop 41000 [0,4,5,15,16] [] [(.exit 0)] Z31))) (.seq (rg 12 Z5Q 47 false) .ret)))))
noncomputable def ZbB:AFun:={ code:=f41_c,nt:=41,res:=Try.f41.results.toList,fr:=[] }
noncomputable def Z2d:Code:=Z0o Try.f42
noncomputable def Z2Z:ACode:=(.seq (rg 7 Z2d 72087 false) (.seq (.cond (.tmp 26) .skip (.exit 2)) (.seq (.block 3 (.seq (rg 8 Z2d 1153431 false) (rg 9 Z2d 1677719 false))) (rg 10 Z2d 498071 false))))
noncomputable def Z8V (rd:Option Nat):Key:=.lp 42001 [2,3,4,18,19,20,24,25] [] Z2Z 90 rd
noncomputable def Z30:ACode:=(.seq (rg 4 Z2d 279 false) (.seq (.cond (.tmp 21) .skip (.exit 0)) (.seq (.block 1 (.seq (rg 5 Z2d 4503 false) (.seq (rg 6 Z2d 10647 false) (.block 2 (.loop 42001 [2,3,4,18,19,20,24,25] [] [(.exit 2)] Z2Z))))) (rg 11 Z2d 1943 false))))
noncomputable def Z8W (rd:Option Nat):Key:=.lp 42000 [2,3,4,18,19,20] [] Z30 90 rd
noncomputable def Z2Y:ACode:=(.seq (rg 13 Z2d 559 false) (.seq (.cond (.tmp 42) .skip (.exit 4)) (.seq (.block 5 (.seq (rg 14 Z2d 9007 false) (rg 15 Z2d 13103 false))) (rg 16 Z2d 3887 false))))
noncomputable def Z8U (rd:Option Nat):Key:=.lp 42002 [2,3,4,39,40,41] [] Z2Y 90 rd
noncomputable def Z2X:ACode:=(.seq (rg 18 Z2d 1119 false) (.seq (.cond (.tmp 56) .skip (.exit 6)) (.seq (.block 7 (.seq (rg 19 Z2d 18015 false) (.seq (rg 20 Z2d 42591 false) (.seq (rg 21 Z2d 91743 false) (rg 22 Z2d 124511 false))))) (rg 23 Z2d 7775 false))))
noncomputable def Z6q (rd:Option Nat):Key:=.lp 42003 [2,4,53,54,55] [] Z2X 90 rd
noncomputable def f42_c:ACode:=(.seq (rg 0 Z2d 2 false) (.seq (rg 1 Z2d 5 false) (.seq (rg 2 Z2d 11 false) (.seq (.seq (rg 3 Z2d 39 false) (.block 0 (.loop 42000 [2,3,4,18,19,20] [] [(.exit 0)] Z30))) (.seq (.seq (rg 12 Z2d 79 false) (.block 4 (.loop 42002 [2,3,4,39,40,41] [] [(.exit 4)] Z2Y))) (.seq (.seq (rg 17 Z2d 159 false) (.block 6 (.loop 42003 [2,4,53,54,55] [] [(.exit 6)] Z2X))) (.seq (rg 24 Z2d 191 false) .ret)))))))
noncomputable def ZbA:AFun:={ code:=f42_c,nt:=90,res:=Try.f42.results.toList,fr:=[] }
noncomputable def ZkW:Code:=Z0o Try.f43
noncomputable def f43_c:ACode:=(.seq (rg 0 ZkW 2 false) (.seq (rg 1 ZkW 5 false) .ret))
noncomputable def Zbz:AFun:={ code:=f43_c,nt:=6,res:=Try.f43.results.toList,fr:=[] }
noncomputable def Z8g:Code:=Z0o Try.f44
noncomputable def Z2W:ACode:=(.seq (.seq (rg 3 Z8g 267 false) (.cond (.tmp 6) .skip (.exit 0))) (.seq (.block 1 (.seq (.seq (rg 5 Z8g 2123 false) (.cond (.tmp 25) (.seq (rg 6 Z8g 9291 false) .ret) .skip)) (rg 7 Z8g 1611 false))) (rg 4 Z8g 459 false)))
noncomputable def Zec (rd:Option Nat):Key:=.lp 44000 [1,2,3,4] [] Z2W 30 rd
noncomputable def f44_c:ACode:=(.seq (rg 0 Z8g 2 false) (.seq (rg 1 Z8g 5 false) (.seq (.seq (rg 2 Z8g 19 false) (.block 0 (.loop 44000 [1,2,3,4] [] [(.exit 0),.ret] Z2W))) (.seq (rg 8 Z8g 23 false) .ret))))
noncomputable def Zed:AFun:={ code:=f44_c,nt:=30,res:=Try.f44.results.toList,fr:=[] }
noncomputable def Z8f:Code:=Z0o Try.f45
noncomputable def Z2V:ACode:=(.seq (.seq (rg 5 Z8f 535 false) (.cond (.tmp 10) .skip (.exit 0))) (.seq (.block 1 (rg 7 Z8f 1175 false)) (rg 6 Z8f 919 false)))
noncomputable def Zea (rd:Option Nat):Key:=.lp 45000 [1,2,3,4] [] Z2V 19 rd
noncomputable def f45_c:ACode:=(.seq (rg 0 Z8f 2 false) (.seq (rg 1 Z8f 5 false) (.seq (.seq (rg 2 Z8f 19 false) (.cond (.tmp 7) (.seq (rg 3 Z8f 75 false) .ret) .skip)) (.seq (.seq (rg 4 Z8f 39 false) (.block 0 (.loop 45000 [1,2,3,4] [] [(.exit 0)] Z2V))) (.seq (rg 8 Z8f 47 false) .ret)))))
noncomputable def Zeb:AFun:={ code:=f45_c,nt:=19,res:=Try.f45.results.toList,fr:=[] }
noncomputable def ZkT:Code:=Z0o Try.f54
noncomputable def f54_c:ACode:=(.seq (rg 0 ZkT 2 false) (.seq (rg 1 ZkT 5 false) .ret))
noncomputable def Zby:AFun:={ code:=f54_c,nt:=8,res:=Try.f54.results.toList,fr:=[] }
noncomputable def Z7T:Code:=Z0o Try.f56
noncomputable def Z2U:ACode:=(.seq (rg 3 Z7T 139 false) (.seq (.cond (.tmp 8) .skip (.exit 0)) (.seq (.block 1 (.seq (rg 4 Z7T 2251 false) (.seq (.seq (rg 5 Z7T 9419 false) (.cond (.tmp 15) (.seq (rg 6 Z7T 38091 false) .ret) .skip)) (rg 7 Z7T 7371 false)))) (rg 8 Z7T 971 false))))
noncomputable def Z3P (rd:Option Nat):Key:=.lp 56000 [2,3,6,7] [] Z2U 23 rd
noncomputable def f56_c:ACode:=(.seq (rg 0 Z7T 2 false) (.seq (rg 1 Z7T 5 false) (.seq (.seq (rg 2 Z7T 19 false) (.block 0 (.loop 56000 [2,3,6,7] [] [(.exit 0),.ret] Z2U))) (.seq (rg 9 Z7T 23 false) .ret))))
noncomputable def Zbx:AFun:={ code:=f56_c,nt:=23,res:=Try.f56.results.toList,fr:=[] }
noncomputable def ZkR:Code:=Z0o Try.f57
noncomputable def f57_c:ACode:=(.seq (rg 0 ZkR 2 false) (.seq (rg 1 ZkR 5 false) .ret))
noncomputable def ZiO:AFun:={ code:=f57_c,nt:=8,res:=Try.f57.results.toList,fr:=[] }
noncomputable def Z5x:Code:=Z0o Try.f60
noncomputable def Z2S:ACode:=(.seq (rg 6 Z5x 36043 false) (.seq (.cond (.tmp 27) .skip (.exit 2)) (.seq (.block 3 (.seq (rg 7 Z5x 576715 false) (.seq (rg 8 Z5x 1363147 false) (.join [(.normal,[1,2,7,8,22,23,26])] (.cond (.tmp 37) (.seq (rg 9 Z5x 5033163 true) (rg 10 Z5x 7130315 false)) .skip))))) (rg 11 Z5x 249035 false))))
noncomputable def Z8R (rd:Option Nat):Key:=.lp 60001 [1,2,7,8,22,23,26] [] Z2S 65 rd
noncomputable def Z2T:ACode:=(.seq (rg 3 Z5x 139 false) (.seq (.cond (.tmp 24) .skip (.exit 0)) (.seq (.block 1 (.seq (rg 4 Z5x 2251 false) (.seq (rg 5 Z5x 5323 false) (.block 2 (.loop 60001 [1,2,7,8,22,23,26] [] [(.exit 2)] Z2S))))) (rg 12 Z5x 971 false))))
noncomputable def Z8S (rd:Option Nat):Key:=.lp 60000 [1,2,7,22,23] [] Z2T 65 rd
noncomputable def f60_c:ACode:=(.seq (rg 0 Z5x 2 false) (.seq (rg 1 Z5x 5 false) (.seq (.seq (rg 2 Z5x 19 false) (.block 0 (.loop 60000 [1,2,7,22,23] [] [(.exit 0)] Z2T))) (.seq (rg 13 Z5x 23 false) .ret))))
noncomputable def Zbw:AFun:={ code:=f60_c,nt:=65,res:=Try.f60.results.toList,fr:=[] }
noncomputable def Z8e:Code:=Z0o Try.f61
noncomputable def Z2Q:ACode:=(.seq (rg 3 Z8e 139 false) (.seq (.cond (.tmp 19) .skip (.exit 0)) (.seq (.block 1 (.seq (rg 4 Z8e 2251 false) (.seq (rg 5 Z8e 5323 false) (.join [(.normal,[0,3,4,5,17,18])] (.cond (.tmp 30) (rg 6 Z8e 11467 true) .skip))))) (rg 7 Z8e 971 false))))
noncomputable def Z8Q (rd:Option Nat):Key:=.lp 61000 [0,3,4,5,17,18] [] Z2Q 48 rd
noncomputable def f61_c:ACode:=(.seq (rg 0 Z8e 2 false) (.seq (rg 1 Z8e 5 false) (.seq (.seq (rg 2 Z8e 19 true) (.block 0 (.loop 61000 [0,3,4,5,17,18] [] [(.exit 0)] Z2Q))) (.seq (rg 8 Z8e 23 false) .ret))))
noncomputable def Zbv:AFun:={ code:=f61_c,nt:=48,res:=Try.f61.results.toList,fr:=[] }
noncomputable def Z0W:Code:=Z0o Try.f62
noncomputable def Z2N:ACode:=(.seq (.seq (rg 28 Z0W 17978004223 false) (.cond (.tmp 92) .skip (.exit 4))) (.seq (.block 5 (.seq (rg 30 Z0W 73812579071 false) (.seq (.seq (rg 31 Z0W 314330747647 false) (.cond (.tmp 107) (.seq (rg 32 Z0W 1276403421951 false) .ret) .skip)) (rg 33 Z0W 245611270911 false)))) (rg 29 Z0W 30862906111 false)))
noncomputable def Ze5 (rd:Option Nat):Key:=.lp 62002 [2,3,4,5,7,8,9,10,11,14] [] Z2N 135 rd
noncomputable def Z2O:ACode:=(.seq (.seq (rg 16 Z0W 4363007 false) (.cond (.tmp 42) .skip (.exit 2))) (.seq (.join [(.ret,[2,3,4,5,7,8,9,10,11]),(.normal,[2,3,4,5,7,8,9,10,11])] (.block 3 (.seq (.seq (rg 18 Z0W 34771711 false) (.cond (.tmp 48) (.seq (rg 19 Z0W 152212223 false) .ret) .skip)) (.seq (.seq (rg 20 Z0W 76714751 false) (.cond (.tmp 54) (.seq (rg 21 Z0W 311595775 false) (.seq (rg 22 Z0W 714248959 false) (.exit 3))) .skip)) (.seq (rg 23 Z0W 93491967 false) (.seq (.seq (rg 24 Z0W 328372991 false) (.cond (.tmp 85) (.seq (rg 25 Z0W 1267897087 false) .ret) .skip)) (.seq (rg 26 Z0W 395481855 false) (.seq (.seq (rg 27 Z0W 1335005951 false) (.block 4 (.loop 62002 [2,3,4,5,7,8,9,10,11,14] [] [(.exit 4),.ret] Z2N))) (rg 34 Z0W 1066570495 false))))))))) (rg 17 Z0W 7508735 false)))
noncomputable def Ze6 (rd:Option Nat):Key:=.lp 62001 [2,3,4,5,7,8,9,10,11] [] Z2O 135 rd
noncomputable def Z2P:ACode:=(.seq (.seq (rg 12 Z0W 17151 false) (.cond (.tmp 38) .skip (.exit 0))) (.seq (.block 1 (.seq (rg 14 Z0W 70399 false) (.seq (.seq (rg 15 Z0W 299775 false) (.block 2 (.loop 62001 [2,3,4,5,7,8,9,10,11] [] [(.exit 2),.ret] Z2O))) (rg 35 Z0W 234239 false)))) (rg 13 Z0W 29439 false)))
noncomputable def Ze7 (rd:Option Nat):Key:=.lp 62000 [2,3,4,5,7,8,9] [] Z2P 135 rd
noncomputable def f62_c:ACode:=(.seq (rg 0 Z0W 2 false) (.seq (.seq (rg 1 Z0W 9 false) (.cond (.tmp 18) (.seq (rg 2 Z0W 37 false) .ret) .skip)) (.seq (rg 3 Z0W 11 false) (.seq (.seq (rg 4 Z0W 39 false) (.cond (.tmp 24) (.seq (rg 5 Z0W 151 false) .ret) .skip)) (.seq (rg 6 Z0W 47 false) (.seq (.seq (rg 7 Z0W 159 false) (.cond (.tmp 34) (.seq (rg 8 Z0W 607 false) .ret) .skip)) (.seq (rg 9 Z0W 191 false) (.seq (rg 10 Z0W 383 false) (.seq (.seq (rg 11 Z0W 1279 false) (.block 0 (.loop 62000 [2,3,4,5,7,8,9] [] [(.exit 0),.ret] Z2P))) (.seq (.seq (rg 36 Z0W 2559 false) (.cond (.tmp 128) (.seq (rg 37 Z0W 9727 false) .ret) .skip)) (.seq (.seq (rg 38 Z0W 5119 false) (.cond (.tmp 132) (.seq (rg 39 Z0W 19455 false) .ret) .skip)) (.seq (rg 40 Z0W 6143 false) .ret))))))))))))
noncomputable def Ze8:AFun:={ code:=f62_c,nt:=135,res:=Try.f62.results.toList,fr:=[] }
noncomputable def ZkP:Code:=Z0o Try.f63
noncomputable def f63_c:ACode:=(.seq (rg 0 ZkP 2 false) (.seq (rg 1 ZkP 5 false) .ret))
noncomputable def Zbu:AFun:={ code:=f63_c,nt:=4,res:=Try.f63.results.toList,fr:=[] }
noncomputable def Z9I:Code:=Z0o Try.f64
noncomputable def Z2M:ACode:=(.seq (rg 3 Z9I 139 false) (.seq (.cond (.tmp 8) .skip (.exit 0)) (.seq (.block 1 (.seq (rg 4 Z9I 2251 false) (rg 5 Z9I 3275 false))) (rg 6 Z9I 971 false))))
noncomputable def Z3M (rd:Option Nat):Key:=.lp 64000 [2,3,6,7] [] Z2M 16 rd
noncomputable def f64_c:ACode:=(.seq (rg 0 Z9I 2 false) (.seq (rg 1 Z9I 5 false) (.seq (.seq (rg 2 Z9I 19 false) (.block 0 (.loop 64000 [2,3,6,7] [] [(.exit 0)] Z2M))) (.seq (rg 7 Z9I 23 false) .ret))))
noncomputable def Zbt:AFun:={ code:=f64_c,nt:=16,res:=Try.f64.results.toList,fr:=[] }
noncomputable def Z3q:Code:=Z0o Try.f65
noncomputable def Z2K:ACode:=(.seq (rg 8 Z3q 144175 false) (.seq (.cond (.tmp 30) .skip (.exit 2)) (.seq (.join [(.normal,[0,1,4,5,6,7,9,23,24,25,29])] (.block 3 (.seq (rg 9 Z3q 2306863 false) (.seq (.seq (rg 10 Z3q 9646895 false) (.cond (.tmp 35) (.exit 3) .skip)) (.seq (rg 11 Z3q 11744047 false) (.seq (rg 12 Z3q 24326959 true) (.join [(.normal,[0,1,4,5,6,7,9,23,24,25,29])] (.cond (.tmp 61) (.seq (rg 13 Z3q 83047215 false) (rg 14 Z3q 116601647 false)) (rg 15 Z3q 66269999 false))))))))) (rg 16 Z3q 996143 false))))
noncomputable def Z8O (rd:Option Nat):Key:=.lp 65001 [0,1,4,5,6,7,9,23,24,25,29] [] Z2K 90 rd
noncomputable def Z2L:ACode:=(.seq (rg 5 Z3q 559 false) (.seq (.cond (.tmp 26) .skip (.exit 0)) (.seq (.block 1 (.seq (rg 6 Z3q 9007 false) (.seq (rg 7 Z3q 21295 false) (.block 2 (.loop 65001 [0,1,4,5,6,7,9,23,24,25,29] [] [(.exit 2)] Z2K))))) (rg 17 Z3q 3887 false))))
noncomputable def Z8P (rd:Option Nat):Key:=.lp 65000 [0,1,4,5,6,7,23,24,25] [] Z2L 90 rd
noncomputable def f65_c:ACode:=(.seq (rg 0 Z3q 2 false) (.seq (rg 1 Z3q 5 true) (.seq (rg 2 Z3q 11 false) (.seq (rg 3 Z3q 23 false) (.seq (.seq (rg 4 Z3q 79 false) (.block 0 (.loop 65000 [0,1,4,5,6,7,23,24,25] [] [(.exit 0)] Z2L))) (.seq (rg 18 Z3q 95 false) (.seq (rg 19 Z3q 191 false) (.seq (rg 20 Z3q 383 false) (.seq (rg 21 Z3q 767 false) .ret)))))))))
noncomputable def Zbs:AFun:={ code:=f65_c,nt:=90,res:=Try.f65.results.toList,fr:=[] }
noncomputable def Z9H:Code:=Z0o Try.f66
noncomputable def Z2J:ACode:=(.seq (rg 3 Z9H 139 false) (.seq (.cond (.tmp 12) .skip (.exit 0)) (.seq (.block 1 (.seq (rg 4 Z9H 2251 false) (rg 5 Z9H 3275 false))) (rg 6 Z9H 971 false))))
noncomputable def Z8N (rd:Option Nat):Key:=.lp 66000 [2,3,10,11] [] Z2J 21 rd
noncomputable def f66_c:ACode:=(.seq (rg 0 Z9H 2 false) (.seq (rg 1 Z9H 5 false) (.seq (.seq (rg 2 Z9H 19 false) (.block 0 (.loop 66000 [2,3,10,11] [] [(.exit 0)] Z2J))) (.seq (rg 7 Z9H 23 false) .ret))))
noncomputable def Zbr:AFun:={ code:=f66_c,nt:=21,res:=Try.f66.results.toList,fr:=[] }
noncomputable def ZkO:Code:=Z0o Try.f67
noncomputable def f67_c:ACode:=(.seq (rg 0 ZkO 2 false) (rg 1 ZkO 3 false))
noncomputable def Zbq:AFun:={ code:=f67_c,nt:=23,res:=Try.f67.results.toList,fr:=[] }
noncomputable def Ze0:Code:=Z0o Try.f68
noncomputable def Z2I:ACode:=(.seq (.seq (rg 1 Ze0 65 false) (.cond (.tmp 13) .skip (.exit 0))) (.block 1 (.seq (rg 2 Ze0 145 true) (rg 3 Ze0 209 false))))
noncomputable def Z8M (rd:Option Nat):Key:=.lp 68000 [0,1] [] Z2I 41 rd
noncomputable def f68_c:ACode:=(.seq (rg 0 Ze0 2 false) (.seq (.block 0 (.loop 68000 [0,1] [] [(.exit 0)] Z2I)) (.seq (rg 4 Ze0 11 false) .ret)))
noncomputable def Zbp:AFun:={ code:=f68_c,nt:=41,res:=Try.f68.results.toList,fr:=[] }
noncomputable def ZkN:Code:=Z0o Try.f69
noncomputable def f69_c:ACode:=(.seq (rg 0 ZkN 2 false) (.seq (rg 1 ZkN 5 false) .ret))
noncomputable def Zbo:AFun:={ code:=f69_c,nt:=5,res:=Try.f69.results.toList,fr:=[] }
noncomputable def ZkM:Code:=Z0o Try.f70
noncomputable def f70_c:ACode:=(.seq (rg 0 ZkM 2 false) (.seq (rg 1 ZkM 5 false) .ret))
noncomputable def Zbn:AFun:={ code:=f70_c,nt:=10,res:=Try.f70.results.toList,fr:=[] }
noncomputable def ZkL:Code:=Z0o Try.f71
noncomputable def f71_c:ACode:=(.seq (rg 0 ZkL 2 false) (.seq (rg 1 ZkL 5 false) .ret))
noncomputable def Zbm:AFun:={ code:=f71_c,nt:=6,res:=Try.f71.results.toList,fr:=[] }
noncomputable def ZkK:Code:=Z0o Try.f72
noncomputable def f72_c:ACode:=(.seq (rg 0 ZkK 2 false) (.seq (rg 1 ZkK 5 false) .ret))
noncomputable def Zbl:AFun:={ code:=f72_c,nt:=5,res:=Try.f72.results.toList,fr:=[] }
noncomputable def Zat:Code:=Z0o Try.f78
noncomputable def Z6k:ACode:=(.seq (.seq (rg 1 Zat 33 false) (.cond (.tmp 10) .skip (.exit 0))) (.seq (.block 1 (.seq (rg 2 Zat 137 true) (.seq (.seq (rg 3 Zat 585 false) (.cond (.tmp 24) .ret .skip)) (rg 4 Zat 457 true)))) (.seq (rg 5 Zat 89 false) (rg 6 Zat 121 false))))
noncomputable def Z8L (rd:Option Nat):Key:=.lp 78000 [0,2,3,5] [] Z6k 36 rd
noncomputable def f78_c:ACode:=(.seq (rg 0 Zat 2 false) (.block 0 (.loop 78000 [0,2,3,5] [] [(.exit 0),.ret] Z6k)))
noncomputable def ZiL:AFun:={ code:=f78_c,nt:=36,res:=Try.f78.results.toList,fr:=[] }
noncomputable def ZfK:Code:=Z0o Try.f79
noncomputable def f79_c:ACode:=(.seq (rg 0 ZfK 2 false) (.seq (.seq (rg 1 ZfK 9 false) (.cond (.tmp 12) (.seq (rg 2 ZfK 37 false) .ret) .skip)) (.seq (rg 3 ZfK 11 false) .ret)))
noncomputable def ZiJ:AFun:={ code:=f79_c,nt:=17,res:=Try.f79.results.toList,fr:=[] }
noncomputable def Z5O:Code:=Z0o Try.f83
noncomputable def Z2H:ACode:=(.seq (.seq (rg 4 Z5O 535 false) (.cond (.tmp 10) .skip (.exit 0))) (.seq (.block 1 (.seq (rg 6 Z5O 2199 false) (.seq (.seq (rg 7 Z5O 9367 false) (.join [(.normal,[0,3,4,5,6])] (.cond (.tmp 28) (rg 8 Z5O 21655 false) .skip))) (.seq (rg 9 Z5O 11415 false) (.join [(.normal,[0,3,4,5])] (.cond (.tmp 34) (.seq (rg 10 Z5O 40087 false) (rg 11 Z5O 56471 false)) .skip)))))) (rg 5 Z5O 919 false)))
noncomputable def ZdY (rd:Option Nat):Key:=.lp 83000 [0,3,4,5] [] Z2H 43 rd
noncomputable def f83_c:ACode:=(.seq (rg 0 Z5O 2 false) (.seq (rg 1 Z5O 5 false) (.seq (rg 2 Z5O 11 false) (.seq (.seq (rg 3 Z5O 39 false) (.block 0 (.loop 83000 [0,3,4,5] [] [(.exit 0)] Z2H))) (.seq (rg 12 Z5O 47 false) .ret)))))
noncomputable def ZdZ:AFun:={ code:=f83_c,nt:=43,res:=Try.f83.results.toList,fr:=[] }
noncomputable def Z71:Code:=Z0o Try.f84
noncomputable def Z2G:ACode:=(.seq (.seq (rg 5 Z71 535 false) (.cond (.tmp 27) .skip (.exit 0))) (.seq (.block 1 (.seq (.seq (rg 7 Z71 4247 false) (.cond (.tmp 39) (.seq (rg 8 Z71 18583 false) .ret) .skip)) (rg 9 Z71 3223 false))) (rg 6 Z71 919 false)))
noncomputable def ZdW (rd:Option Nat):Key:=.lp 84000 [0,2,3,4,5] [] Z2G 51 rd
noncomputable def f84_c:ACode:=(.seq (rg 0 Z71 2 false) (.seq (.seq (rg 1 Z71 9 false) (.cond (.tmp 23) (.seq (rg 2 Z71 37 false) .ret) .skip)) (.seq (rg 3 Z71 11 false) (.seq (.seq (rg 4 Z71 39 false) (.block 0 (.loop 84000 [0,2,3,4,5] [] [(.exit 0),.ret] Z2G))) (.seq (rg 10 Z71 47 false) .ret)))))
noncomputable def ZdX:AFun:={ code:=f84_c,nt:=51,res:=Try.f84.results.toList,fr:=[] }
noncomputable def Z8d:Code:=Z0o Try.f85
noncomputable def Z2E:ACode:=(.seq (rg 4 Z8d 4505 false) (.seq (.cond (.tmp 18) .skip (.exit 2)) (.seq (.block 3 (.seq (rg 5 Z8d 72089 false) (.seq (rg 6 Z8d 170393 false) (.cond (.tmp 27) .ret .skip)))) (rg 7 Z8d 31129 false))))
noncomputable def Z3I (rd:Option Nat):Key:=.lp 85001 [0,1,3,8,9,16,17] [] Z2E 30 rd
noncomputable def Z2F:ACode:=(.seq (rg 1 Z8d 17 false) (.seq (.cond (.tmp 10) .skip (.exit 0)) (.seq (.block 1 (.seq (rg 2 Z8d 281 false) (.seq (rg 3 Z8d 665 false) (.block 2 (.loop 85001 [0,1,3,8,9,16,17] [] [(.exit 2),.ret] Z2E))))) (rg 8 Z8d 121 false))))
noncomputable def Z3J (rd:Option Nat):Key:=.lp 85000 [0,1,8,9] [] Z2F 30 rd
noncomputable def f85_c:ACode:=(.seq (rg 0 Z8d 2 false) (.block 0 (.loop 85000 [0,1,8,9] [] [(.exit 0),.ret] Z2F)))
noncomputable def Zbk:AFun:={ code:=f85_c,nt:=30,res:=Try.f85.results.toList,fr:=[] }
noncomputable def Z2c:Code:=Z0o Try.f86
noncomputable def Z2A:ACode:=(.seq (rg 13 Z2c 36863179 false) (.seq (.cond (.tmp 52) .skip (.exit 4)) (.seq (.join [(.normal,[0,2,3,5,6,7,18,19,50,51]),(.ret,[0,2,3,5,6,7,18,19,50,51])] (.block 5 (.seq (rg 14 Z2c 590511307 false) (.seq (.seq (rg 15 Z2c 2469559499 false) (.cond (.tmp 56) (.exit 5) .skip)) (.seq (rg 16 Z2c 3006430411 true) (.seq (rg 17 Z2c 6227655883 false) (.join [(.normal,[0,2,3,5,6,7,18,19,50,51]),(.ret,[0,2,3,5,6,7,18,19,50,51])] (.cond (.tmp 83) (.seq (rg 18 Z2c 21260041419 false) (rg 19 Z2c 29849976011 false)) (.seq (rg 20 Z2c 25555008715 false) (.cond (.tmp 97) (.seq (rg 21 Z2c 85684550859 false) .ret) .skip)))))))))) (rg 22 Z2c 254966987 false))))
noncomputable def Z8G (rd:Option Nat):Key:=.lp 86002 [0,2,3,5,6,7,18,19,50,51] [] Z2A 100 rd
noncomputable def Z2B:ACode:=(.seq (.seq (rg 9 Z2c 556235 false) (.cond (.tmp 35) .skip (.exit 2))) (.seq (.block 3 (.seq (rg 11 Z2c 2260171 true) (.seq (rg 12 Z2c 5405899 false) (.block 4 (.loop 86002 [0,2,3,5,6,7,18,19,50,51] [] [(.exit 4),.ret] Z2A))))) (rg 10 Z2c 949451 false)))
noncomputable def Z8H (rd:Option Nat):Key:=.lp 86001 [0,2,3,5,6,18,19] [] Z2B 100 rd
noncomputable def Z2C:ACode:=(.seq (rg 3 Z2c 139 false) (.seq (.cond (.tmp 20) .skip (.exit 0)) (.seq (.join [(.normal,[0,2,3,18,19]),(.ret,[0,2,3,18,19])] (.block 1 (.seq (rg 4 Z2c 2251 false) (.seq (.seq (rg 5 Z2c 9419 false) (.cond (.tmp 26) (.exit 1) .skip)) (.seq (rg 6 Z2c 11467 false) (.seq (rg 7 Z2c 23755 false) (.seq (rg 8 Z2c 48331 false) (.block 2 (.loop 86001 [0,2,3,5,6,18,19] [] [(.exit 2),.ret] Z2B))))))))) (rg 23 Z2c 971 false))))
noncomputable def Z8I (rd:Option Nat):Key:=.lp 86000 [0,2,3,18,19] [] Z2C 100 rd
noncomputable def f86_c:ACode:=(.seq (rg 0 Z2c 2 false) (.seq (rg 1 Z2c 5 false) (.seq (.seq (rg 2 Z2c 19 false) (.block 0 (.loop 86000 [0,2,3,18,19] [] [(.exit 0),.ret] Z2C))) (.seq (rg 24 Z2c 23 false) .ret))))
noncomputable def Zbj:AFun:={ code:=f86_c,nt:=100,res:=Try.f86.results.toList,fr:=[] }
noncomputable def ZkE:Code:=Z0o Try.f90
noncomputable def f90_c:ACode:=(.seq (rg 0 ZkE 2 false) (.seq (rg 1 ZkE 5 true) .ret))
noncomputable def ZiF:AFun:={ code:=f90_c,nt:=22,res:=Try.f90.results.toList,fr:=[] }
noncomputable def ZfH:Code:=Z0o Try.f91
noncomputable def f91_c:ACode:=(.seq (rg 0 ZfH 2 false) (.seq (.seq (rg 1 ZfH 9 false) (.cond (.tmp 5) (.seq (rg 2 ZfH 37 false) .ret) .skip)) (.seq (rg 3 ZfH 11 false) .ret)))
noncomputable def Zbi:AFun:={ code:=f91_c,nt:=8,res:=Try.f91.results.toList,fr:=[] }
noncomputable def Z5N:Code:=Z0o Try.f92
noncomputable def Z2y:ACode:=(.seq (rg 6 Z5N 36043 false) (.seq (.cond (.tmp 11) .skip (.exit 2)) (.seq (.block 3 (.seq (rg 7 Z5N 576715 false) (.seq (rg 8 Z5N 1363147 true) (.join [(.normal,[1,3,4,6,9,10])] (.cond (.tmp 19) (rg 9 Z5N 2936011 false) .skip))))) (rg 10 Z5N 249035 false))))
noncomputable def Z8E (rd:Option Nat):Key:=.lp 92001 [1,3,4,6,9,10] [] Z2y 25 rd
noncomputable def Z2z:ACode:=(.seq (rg 3 Z5N 139 false) (.seq (.cond (.tmp 7) .skip (.exit 0)) (.seq (.block 1 (.seq (rg 4 Z5N 2251 false) (.seq (rg 5 Z5N 5323 false) (.block 2 (.loop 92001 [1,3,4,6,9,10] [] [(.exit 2)] Z2y))))) (rg 11 Z5N 971 false))))
noncomputable def Z8F (rd:Option Nat):Key:=.lp 92000 [1,3,6] [] Z2z 25 rd
noncomputable def f92_c:ACode:=(.seq (rg 0 Z5N 2 false) (.seq (rg 1 Z5N 5 false) (.seq (.seq (rg 2 Z5N 19 false) (.block 0 (.loop 92000 [1,3,6] [] [(.exit 0)] Z2z))) (.seq (rg 12 Z5N 23 false) .ret))))
noncomputable def Zbh:AFun:={ code:=f92_c,nt:=25,res:=Try.f92.results.toList,fr:=[] }
noncomputable def bkT:BT AFun:=(.node 57 ZiO (.node 37 Zef (.node 14 Zen (.node 11 ZbH (.node 10 Zep (.node 9 f9_f .leaf .leaf) .leaf) (.node 13 ZbG (.node 12 Zj2 .leaf .leaf) .leaf)) (.node 29 ZiY (.node 27 ZbF (.node 16 Zek .leaf .leaf) .leaf) (.node 36 ZiU (.node 35 ZiW .leaf .leaf) .leaf))) (.node 43 Zbz (.node 40 ZbC (.node 39 ZbD (.node 38 ZbE .leaf .leaf) .leaf) (.node 42 ZbA (.node 41 ZbB .leaf .leaf) .leaf)) (.node 54 Zby (.node 45 Zeb (.node 44 Zed .leaf .leaf) .leaf) (.node 56 Zbx .leaf .leaf)))) (.node 71 Zbm (.node 65 Zbs (.node 62 Ze8 (.node 61 Zbv (.node 60 Zbw .leaf .leaf) .leaf) (.node 64 Zbt (.node 63 Zbu .leaf .leaf) .leaf)) (.node 68 Zbp (.node 67 Zbq (.node 66 Zbr .leaf .leaf) .leaf) (.node 70 Zbn (.node 69 Zbo .leaf .leaf) .leaf))) (.node 85 Zbk (.node 79 ZiJ (.node 78 ZiL (.node 72 Zbl .leaf .leaf) .leaf) (.node 84 ZdX (.node 83 ZdZ .leaf .leaf) .leaf)) (.node 91 Zbi (.node 90 ZiF (.node 86 Zbj .leaf .leaf) .leaf) (.node 92 Zbh .leaf .leaf)))))
noncomputable def bk (f:FuncId):Option AFun:=bkT.look f
theorem bk_9:bk 9=some f9_f:=by kernel_rfl
theorem ok_9:Z0L P 9 f9_f:=⟨Try.f9,ZeF,Try.func9,rfl,by kernel_rfl,by kernel_rfl,rfl,rfl⟩
theorem bk_10:bk 10=some Zep:=by kernel_rfl
theorem ok_10:Z0L P 10 Zep:=⟨Try.f10,Zg6,Try.func10,rfl,by kernel_rfl,by kernel_rfl,rfl,rfl⟩
theorem bk_11:bk 11=some ZbH:=by kernel_rfl
theorem ok_11:Z0L P 11 ZbH:=⟨Try.f11,Zg5,Try.func11,rfl,by kernel_rfl,by kernel_rfl,rfl,rfl⟩
theorem bk_12:bk 12=some Zj2:=by kernel_rfl
theorem ok_12:Z0L P 12 Zj2:=⟨Try.f12,Z9V,Try.func12,rfl,by kernel_rfl,by kernel_rfl,rfl,rfl⟩
theorem bk_13:bk 13=some ZbG:=by kernel_rfl
theorem ok_13:Z0L P 13 ZbG:=⟨Try.f13,Z72,Try.func13,rfl,by kernel_rfl,by kernel_rfl,rfl,rfl⟩
theorem bk_14:bk 14=some Zen:=by kernel_rfl
theorem ok_14:Z0L P 14 Zen:=⟨Try.f14,Z4G,Try.func14,rfl,by kernel_rfl,by kernel_rfl,rfl,rfl⟩
theorem bk_16:bk 16=some Zek:=by kernel_rfl
theorem ok_16:Z0L P 16 Zek:=⟨Try.f16,Z8i,Try.func16,rfl,by kernel_rfl,by kernel_rfl,rfl,rfl⟩
theorem bk_27:bk 27=some ZbF:=by kernel_rfl
theorem ok_27:Z0L P 27 ZbF:=⟨Try.f27,Z9R,Try.func27,rfl,by kernel_rfl,by kernel_rfl,rfl,rfl⟩
theorem bk_29:bk 29=some ZiY:=by kernel_rfl
theorem ok_29:Z0L P 29 ZiY:=⟨Try.f29,Z3A,Try.func29,rfl,by kernel_rfl,by kernel_rfl,rfl,rfl⟩
theorem bk_35:bk 35=some ZiW:=by kernel_rfl
theorem ok_35:Z0L P 35 ZiW:=⟨Try.f35,Z5b,Try.func35,rfl,by kernel_rfl,by kernel_rfl,rfl,rfl⟩
theorem bk_36:bk 36=some ZiU:=by kernel_rfl
theorem ok_36:Z0L P 36 ZiU:=⟨Try.f36,Z8h,Try.func36,rfl,by kernel_rfl,by kernel_rfl,rfl,rfl⟩
theorem bk_37:bk 37=some Zef:=by kernel_rfl
theorem ok_37:Z0L P 37 Zef:=⟨Try.f37,ZiS,Try.func37,rfl,by kernel_rfl,by kernel_rfl,rfl,rfl⟩
theorem bk_38:bk 38=some ZbE:=by kernel_rfl
theorem ok_38:Z0L P 38 ZbE:=⟨Try.f38,Z5R,Try.func38,rfl,by kernel_rfl,by kernel_rfl,rfl,rfl⟩
theorem bk_39:bk 39=some ZbD:=by kernel_rfl
theorem ok_39:Z0L P 39 ZbD:=⟨Try.f39,Z1K,Try.func39,rfl,by kernel_rfl,by kernel_rfl,rfl,rfl⟩
theorem bk_40:bk 40=some ZbC:=by kernel_rfl
theorem ok_40:Z0L P 40 ZbC:=⟨Try.f40,Z1J,Try.func40,rfl,by kernel_rfl,by kernel_rfl,rfl,rfl⟩
theorem bk_41:bk 41=some ZbB:=by kernel_rfl
theorem ok_41:Z0L P 41 ZbB:=⟨Try.f41,Z5Q,Try.func41,rfl,by kernel_rfl,by kernel_rfl,rfl,rfl⟩
theorem bk_42:bk 42=some ZbA:=by kernel_rfl
theorem ok_42:Z0L P 42 ZbA:=⟨Try.f42,Z2d,Try.func42,rfl,by kernel_rfl,by kernel_rfl,rfl,rfl⟩
theorem bk_43:bk 43=some Zbz:=by kernel_rfl
theorem ok_43:Z0L P 43 Zbz:=⟨Try.f43,ZkW,Try.func43,rfl,by kernel_rfl,by kernel_rfl,rfl,rfl⟩
theorem bk_44:bk 44=some Zed:=by kernel_rfl
theorem ok_44:Z0L P 44 Zed:=⟨Try.f44,Z8g,Try.func44,rfl,by kernel_rfl,by kernel_rfl,rfl,rfl⟩
theorem bk_45:bk 45=some Zeb:=by kernel_rfl
theorem ok_45:Z0L P 45 Zeb:=⟨Try.f45,Z8f,Try.func45,rfl,by kernel_rfl,by kernel_rfl,rfl,rfl⟩
theorem bk_54:bk 54=some Zby:=by kernel_rfl
theorem ok_54:Z0L P 54 Zby:=⟨Try.f54,ZkT,Try.func54,rfl,by kernel_rfl,by kernel_rfl,rfl,rfl⟩
theorem bk_56:bk 56=some Zbx:=by kernel_rfl
theorem ok_56:Z0L P 56 Zbx:=⟨Try.f56,Z7T,Try.func56,rfl,by kernel_rfl,by kernel_rfl,rfl,rfl⟩
theorem bk_57:bk 57=some ZiO:=by kernel_rfl
theorem ok_57:Z0L P 57 ZiO:=⟨Try.f57,ZkR,Try.func57,rfl,by kernel_rfl,by kernel_rfl,rfl,rfl⟩
theorem bk_60:bk 60=some Zbw:=by kernel_rfl
theorem ok_60:Z0L P 60 Zbw:=⟨Try.f60,Z5x,Try.func60,rfl,by kernel_rfl,by kernel_rfl,rfl,rfl⟩
theorem bk_61:bk 61=some Zbv:=by kernel_rfl
theorem ok_61:Z0L P 61 Zbv:=⟨Try.f61,Z8e,Try.func61,rfl,by kernel_rfl,by kernel_rfl,rfl,rfl⟩
theorem bk_62:bk 62=some Ze8:=by kernel_rfl
theorem ok_62:Z0L P 62 Ze8:=⟨Try.f62,Z0W,Try.func62,rfl,by kernel_rfl,by kernel_rfl,rfl,rfl⟩
theorem bk_63:bk 63=some Zbu:=by kernel_rfl
theorem ok_63:Z0L P 63 Zbu:=⟨Try.f63,ZkP,Try.func63,rfl,by kernel_rfl,by kernel_rfl,rfl,rfl⟩
theorem bk_64:bk 64=some Zbt:=by kernel_rfl
theorem ok_64:Z0L P 64 Zbt:=⟨Try.f64,Z9I,Try.func64,rfl,by kernel_rfl,by kernel_rfl,rfl,rfl⟩
theorem bk_65:bk 65=some Zbs:=by kernel_rfl
theorem ok_65:Z0L P 65 Zbs:=⟨Try.f65,Z3q,Try.func65,rfl,by kernel_rfl,by kernel_rfl,rfl,rfl⟩
theorem bk_66:bk 66=some Zbr:=by kernel_rfl
theorem ok_66:Z0L P 66 Zbr:=⟨Try.f66,Z9H,Try.func66,rfl,by kernel_rfl,by kernel_rfl,rfl,rfl⟩
theorem bk_67:bk 67=some Zbq:=by kernel_rfl
theorem ok_67:Z0L P 67 Zbq:=⟨Try.f67,ZkO,Try.func67,rfl,by kernel_rfl,by kernel_rfl,rfl,rfl⟩
theorem bk_68:bk 68=some Zbp:=by kernel_rfl
theorem ok_68:Z0L P 68 Zbp:=⟨Try.f68,Ze0,Try.func68,rfl,by kernel_rfl,by kernel_rfl,rfl,rfl⟩
theorem bk_69:bk 69=some Zbo:=by kernel_rfl
theorem ok_69:Z0L P 69 Zbo:=⟨Try.f69,ZkN,Try.func69,rfl,by kernel_rfl,by kernel_rfl,rfl,rfl⟩
theorem bk_70:bk 70=some Zbn:=by kernel_rfl
theorem ok_70:Z0L P 70 Zbn:=⟨Try.f70,ZkM,Try.func70,rfl,by kernel_rfl,by kernel_rfl,rfl,rfl⟩
theorem bk_71:bk 71=some Zbm:=by kernel_rfl
theorem ok_71:Z0L P 71 Zbm:=⟨Try.f71,ZkL,Try.func71,rfl,by kernel_rfl,by kernel_rfl,rfl,rfl⟩
theorem bk_72:bk 72=some Zbl:=by kernel_rfl
theorem ok_72:Z0L P 72 Zbl:=⟨Try.f72,ZkK,Try.func72,rfl,by kernel_rfl,by kernel_rfl,rfl,rfl⟩
theorem bk_78:bk 78=some ZiL:=by kernel_rfl
theorem ok_78:Z0L P 78 ZiL:=⟨Try.f78,Zat,Try.func78,rfl,by kernel_rfl,by kernel_rfl,rfl,rfl⟩
theorem bk_79:bk 79=some ZiJ:=by kernel_rfl
theorem ok_79:Z0L P 79 ZiJ:=⟨Try.f79,ZfK,Try.func79,rfl,by kernel_rfl,by kernel_rfl,rfl,rfl⟩
theorem bk_83:bk 83=some ZdZ:=by kernel_rfl
theorem ok_83:Z0L P 83 ZdZ:=⟨Try.f83,Z5O,Try.func83,rfl,by kernel_rfl,by kernel_rfl,rfl,rfl⟩
theorem bk_84:bk 84=some ZdX:=by kernel_rfl
theorem ok_84:Z0L P 84 ZdX:=⟨Try.f84,Z71,Try.func84,rfl,by kernel_rfl,by kernel_rfl,rfl,rfl⟩
theorem bk_85:bk 85=some Zbk:=by kernel_rfl
theorem ok_85:Z0L P 85 Zbk:=⟨Try.f85,Z8d,Try.func85,rfl,by kernel_rfl,by kernel_rfl,rfl,rfl⟩
theorem bk_86:bk 86=some Zbj:=by kernel_rfl
theorem ok_86:Z0L P 86 Zbj:=⟨Try.f86,Z2c,Try.func86,rfl,by kernel_rfl,by kernel_rfl,rfl,rfl⟩
theorem bk_90:bk 90=some ZiF:=by kernel_rfl
theorem ok_90:Z0L P 90 ZiF:=⟨Try.f90,ZkE,Try.func90,rfl,by kernel_rfl,by kernel_rfl,rfl,rfl⟩
theorem bk_91:bk 91=some Zbi:=by kernel_rfl
theorem ok_91:Z0L P 91 Zbi:=⟨Try.f91,ZfH,Try.func91,rfl,by kernel_rfl,by kernel_rfl,rfl,rfl⟩
theorem bk_92:bk 92=some Zbh:=by kernel_rfl
theorem ok_92:Z0L P 92 Zbh:=⟨Try.f92,Z5N,Try.func92,rfl,by kernel_rfl,by kernel_rfl,rfl,rfl⟩
theorem bk_ok:Z61 P bk:=fun f a e=>BT.look_all (Q:=Z0L P) (t:=bkT) (ai ok_57 (ai (ai ok_37 (ai (ai ok_14 (ai (ai ok_11 (ai (ai ok_10 (ai (ai ok_9 (ai tt tt)) tt)) (ai ok_13 (ai (ai ok_12 (ai tt tt)) tt)))) (ai ok_29 (ai (ai ok_27 (ai (ai ok_16 (ai tt tt)) tt)) (ai ok_36 (ai (ai ok_35 (ai tt tt)) tt)))))) (ai ok_43 (ai (ai ok_40 (ai (ai ok_39 (ai (ai ok_38 (ai tt tt)) tt)) (ai ok_42 (ai (ai ok_41 (ai tt tt)) tt)))) (ai ok_54 (ai (ai ok_45 (ai (ai ok_44 (ai tt tt)) tt)) (ai ok_56 (ai tt tt)))))))) (ai ok_71 (ai (ai ok_65 (ai (ai ok_62 (ai (ai ok_61 (ai (ai ok_60 (ai tt tt)) tt)) (ai ok_64 (ai (ai ok_63 (ai tt tt)) tt)))) (ai ok_68 (ai (ai ok_67 (ai (ai ok_66 (ai tt tt)) tt)) (ai ok_70 (ai (ai ok_69 (ai tt tt)) tt)))))) (ai ok_85 (ai (ai ok_79 (ai (ai ok_78 (ai (ai ok_72 (ai tt tt)) tt)) (ai ok_84 (ai (ai ok_83 (ai tt tt)) tt)))) (ai ok_91 (ai (ai ok_90 (ai (ai ok_86 (ai tt tt)) tt)) (ai ok_92 (ai tt tt)))))))))) e
theorem mixed:P.follows .mixedOrders=true:=by kernel_rfl
def selF:List Nat:=[63,85,57,78,11,35,29,39,40,41,60,66,21,33,34,51,59,73,74,75,80,82,88,15,18,19,20,30,62,83,17,37]
def selL:List Nat:=[14000,14001,15000,15002,16000,17002,17003,18000,18001,19000,19001,24000,24001,26000,26001,26002,26003,27000,3000,3001,3002,3003,31000,31001,32000,33001,34001,34002,36000,39001,4000,40000,40001,40002,40003,4001,4002,4003,41000,42000,42001,42002,42003,44000,45000,46000,47000,49000,49001,50000,51001,51002,52000,52001,55000,56000,59000,59001,59002,61000,62001,62002,64000,65000,65001,66000,68000,7000,7001,73000,73001,73002,74000,74001,75000,75001,75002,75003,75004,77000,77001,8000,80000,82000,84000,87000,88000,89000,89001,89002,89003,89004,89005,92000,92001]
def Zlt (x:Nat):List Nat->Bool
 | []=>false
 | y::ys=>cond (Nat.beq x y) true (Zlt x ys)
def sel:Key->Bool
 | .fn f=>!(Zlt f selF)
 | .lp j _ _ _ _ _=>Zlt j selL
 | .rnd ..=>false
noncomputable def ext:Fo FH:=fun f args h c=>match args with
 | []=>cond (Zlt f [10]) (some { e:=.ret,vs:=[.bool true],h:=h,c:=c,df:=[] }) none
 | _=>none
noncomputable abbrev G:Orc FH:=Z6a P bk sel ext
end Go.Proofs.Ytdodippbpdechaa
