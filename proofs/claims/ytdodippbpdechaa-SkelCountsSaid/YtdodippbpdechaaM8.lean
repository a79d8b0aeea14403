/- Parts of a proof: AbAuto AbMin K. Conditions: none. -/
import Derived.Test.YtdodippbpdechaaM7
import Derived.Test.YtdodippbpdechaaChecked
import Derived.KernelRfl
import Derived.Test.YtdodippbpdechaaM6
set_option linter.all false
set_option maxRecDepth 100000
namespace Go.Ab
open Go
variable {P:Program}
theorem Ans.dt {β:Type} {p:Prop} [Decidable p] {x y:Option β} {Q:β->Prop} (h:p) (k:Ans x Q):Ans (Z0b (.bool (decide p)) x y) Q:=by rw [decide_eq_true h]; exact k
theorem Ans.df {β:Type} {p:Prop} [Decidable p] {x y:Option β} {Q:β->Prop} (h:¬p) (k:Ans y Q):Ans (Z0b (.bool (decide p)) x y) Q:=by rw [decide_eq_false h]; exact k
theorem Ans.nt {β:Type} {p:Prop} [Decidable p] {x y:Option β} {Q:β->Prop} (h:¬p) (k:Ans x Q):Ans (Z0b (.bool (!decide p)) x y) Q:=by rw [decide_eq_false h]; exact k
theorem Ans.nf {β:Type} {p:Prop} [Decidable p] {x y:Option β} {Q:β->Prop} (h:p) (k:Ans y Q):Ans (Z0b (.bool (!decide p)) x y) Q:=by rw [decide_eq_true h]; exact k
theorem Ans.ds {β:Type} {p:Prop} [Decidable p] {x y:Option β} {Q:β->Prop} (h1:p->Ans x Q) (h2:¬p->Ans y Q):Ans (Z0b (.bool (decide p)) x y) Q:=by
 by_cases h:p
 · exact .dt h (h1 h)
 · exact .df h (h2 h)
theorem Ans.ns {β:Type} {p:Prop} [Decidable p] {x y:Option β} {Q:β->Prop} (h1:¬p->Ans x Q) (h2:p->Ans y Q):Ans (Z0b (.bool (!decide p)) x y) Q:=by
 by_cases h:p
 · exact .nf h (h2 h)
 · exact .nt h (h1 h)
theorem Ans.gt {β:Type} {b:Bool} {x y:Option β} {Q:β->Prop} (h:b=true) (k:Ans x Q):Ans (Z0b (.bool b) x y) Q:=by rw [h]; exact k
theorem Ans.hs {β:Type} {b:Bool} {x y:Option β} {Q:β->Prop} (h1:b=true->Ans x Q) (h2:b=false->Ans y Q):Ans (Z0b (.bool b) x y) Q:=by
 cases h:b with
 | true=>exact h1 h
 | false=>exact h2 h
theorem Ans.mt {β:Type} {b:Bool} {x y:Option β} {Q:β->Prop} (h:b=false) (k:Ans x Q):Ans (Z0b (.bool (!b)) x y) Q:=by rw [h]; exact k
theorem Ans.ms {β:Type} {b:Bool} {x y:Option β} {Q:β->Prop} (h1:b=false->Ans x Q) (h2:b=true->Ans y Q):Ans (Z0b (.bool (!b)) x y) Q:=by
 cases h:b with
 | true=>exact h2 h
 | false=>exact h1 h
theorem Ans.bb {α β:Type} {v:Value} {x y:Option α} {f:α->Option β} {Q:β->Prop} (h:Ans (Z0b v (x.bind f) (y.bind f)) Q):Ans ((Z0b v x y).bind f) Q:=by
 cases v <;> first | exact h | skip
 rename_i b
 cases b <;> exact h
theorem Ans.bc {α β:Type} {v:Bool} {x y:Option α} {f:α->Option β} {Q:β->Prop} (h:Ans (cond v (x.bind f) (y.bind f)) Q):Ans ((cond v x y).bind f) Q:=by cases v <;> exact h
theorem Ans.ba {α β γ:Type} {x:Option α} {g:α->Option β} {f:β->Option γ} {Q:γ->Prop} (h:Ans (x.bind fun a=>(g a).bind f) Q):Ans ((x.bind g).bind f) Q:=by
 cases x <;> exact h
theorem Ans.bz {α β:Type} {a:α} {f:α->Option β} {Q:β->Prop} (h:Ans (f a) Q):Ans ((some a).bind f) Q:=h
theorem Ans.lsT {β:Type} {k:IntKind} {ty:TypeId} {a b:Int} {f:Value->Option β} {Q:β->Prop} (h:a<b) (x:Ans (f (.bool true)) Q):Ans ((Z00 P .lss ty (.int k a) (.int k b)).bind f) Q:=Ans.step (by rw [aBinOp_lss,decide_eq_true h]) x
theorem Ans.lsF {β:Type} {k:IntKind} {ty:TypeId} {a b:Int} {f:Value->Option β} {Q:β->Prop} (h:¬(a<b)) (x:Ans (f (.bool false)) Q):Ans ((Z00 P .lss ty (.int k a) (.int k b)).bind f) Q:=Ans.step (by rw [aBinOp_lss,decide_eq_false h]) x
theorem Ans.lsS {β:Type} {k:IntKind} {ty:TypeId} {a b:Int} {f:Value->Option β} {Q:β->Prop} (h1:a<b->Ans (f (.bool true)) Q) (h2:¬(a<b)->Ans (f (.bool false)) Q):Ans ((Z00 P .lss ty (.int k a) (.int k b)).bind f) Q:=if h:a<b then Ans.lsT h (h1 h) else Ans.lsF h (h2 h)
theorem Ans.leT {β:Type} {k:IntKind} {ty:TypeId} {a b:Int} {f:Value->Option β} {Q:β->Prop} (h:a<=b) (x:Ans (f (.bool true)) Q):Ans ((Z00 P .leq ty (.int k a) (.int k b)).bind f) Q:=Ans.step (by rw [aBinOp_leq,decide_eq_true h]) x
theorem Ans.leF {β:Type} {k:IntKind} {ty:TypeId} {a b:Int} {f:Value->Option β} {Q:β->Prop} (h:¬(a<=b)) (x:Ans (f (.bool false)) Q):Ans ((Z00 P .leq ty (.int k a) (.int k b)).bind f) Q:=Ans.step (by rw [aBinOp_leq,decide_eq_false h]) x
theorem Ans.leS {β:Type} {k:IntKind} {ty:TypeId} {a b:Int} {f:Value->Option β} {Q:β->Prop} (h1:a<=b->Ans (f (.bool true)) Q) (h2:¬(a<=b)->Ans (f (.bool false)) Q):Ans ((Z00 P .leq ty (.int k a) (.int k b)).bind f) Q:=if h:a<=b then Ans.leT h (h1 h) else Ans.leF h (h2 h)
theorem Ans.grT {β:Type} {k:IntKind} {ty:TypeId} {a b:Int} {f:Value->Option β} {Q:β->Prop} (h:b<a) (x:Ans (f (.bool true)) Q):Ans ((Z00 P .gtr ty (.int k a) (.int k b)).bind f) Q:=Ans.step (by rw [aBinOp_gtr,decide_eq_true h]) x
theorem Ans.grF {β:Type} {k:IntKind} {ty:TypeId} {a b:Int} {f:Value->Option β} {Q:β->Prop} (h:¬(b<a)) (x:Ans (f (.bool false)) Q):Ans ((Z00 P .gtr ty (.int k a) (.int k b)).bind f) Q:=Ans.step (by rw [aBinOp_gtr,decide_eq_false h]) x
theorem Ans.grS {β:Type} {k:IntKind} {ty:TypeId} {a b:Int} {f:Value->Option β} {Q:β->Prop} (h1:b<a->Ans (f (.bool true)) Q) (h2:¬(b<a)->Ans (f (.bool false)) Q):Ans ((Z00 P .gtr ty (.int k a) (.int k b)).bind f) Q:=if h:b<a then Ans.grT h (h1 h) else Ans.grF h (h2 h)
theorem Ans.geT {β:Type} {k:IntKind} {ty:TypeId} {a b:Int} {f:Value->Option β} {Q:β->Prop} (h:b<=a) (x:Ans (f (.bool true)) Q):Ans ((Z00 P .geq ty (.int k a) (.int k b)).bind f) Q:=Ans.step (by rw [aBinOp_geq,decide_eq_true h]) x
theorem Ans.geF {β:Type} {k:IntKind} {ty:TypeId} {a b:Int} {f:Value->Option β} {Q:β->Prop} (h:¬(b<=a)) (x:Ans (f (.bool false)) Q):Ans ((Z00 P .geq ty (.int k a) (.int k b)).bind f) Q:=Ans.step (by rw [aBinOp_geq,decide_eq_false h]) x
theorem Ans.geS {β:Type} {k:IntKind} {ty:TypeId} {a b:Int} {f:Value->Option β} {Q:β->Prop} (h1:b<=a->Ans (f (.bool true)) Q) (h2:¬(b<=a)->Ans (f (.bool false)) Q):Ans ((Z00 P .geq ty (.int k a) (.int k b)).bind f) Q:=if h:b<=a then Ans.geT h (h1 h) else Ans.geF h (h2 h)
theorem Ans.eqT {β:Type} {k:IntKind} {ty:TypeId} {a b:Int} {f:Value->Option β} {Q:β->Prop} (h:a=b) (x:Ans (f (.bool true)) Q):Ans ((Z00 P .eql ty (.int k a) (.int k b)).bind f) Q:=Ans.step (by rw [aBinOp_eql,decide_eq_true h]) x
theorem Ans.eqF {β:Type} {k:IntKind} {ty:TypeId} {a b:Int} {f:Value->Option β} {Q:β->Prop} (h:¬(a=b)) (x:Ans (f (.bool false)) Q):Ans ((Z00 P .eql ty (.int k a) (.int k b)).bind f) Q:=Ans.step (by rw [aBinOp_eql,decide_eq_false h]) x
theorem Ans.eqS {β:Type} {k:IntKind} {ty:TypeId} {a b:Int} {f:Value->Option β} {Q:β->Prop} (h1:a=b->Ans (f (.bool true)) Q) (h2:¬(a=b)->Ans (f (.bool false)) Q):Ans ((Z00 P .eql ty (.int k a) (.int k b)).bind f) Q:=if h:a=b then Ans.eqT h (h1 h) else Ans.eqF h (h2 h)
theorem Ans.neT {β:Type} {k:IntKind} {ty:TypeId} {a b:Int} {f:Value->Option β} {Q:β->Prop} (h:¬(a=b)) (x:Ans (f (.bool true)) Q):Ans ((Z00 P .neq ty (.int k a) (.int k b)).bind f) Q:=Ans.step (by rw [aBinOp_neq,decide_eq_false h]; rfl) x
theorem Ans.neF {β:Type} {k:IntKind} {ty:TypeId} {a b:Int} {f:Value->Option β} {Q:β->Prop} (h:a=b) (x:Ans (f (.bool false)) Q):Ans ((Z00 P .neq ty (.int k a) (.int k b)).bind f) Q:=Ans.step (by rw [aBinOp_neq,decide_eq_true h]; rfl) x
theorem Ans.neS {β:Type} {k:IntKind} {ty:TypeId} {a b:Int} {f:Value->Option β} {Q:β->Prop} (h1:¬(a=b)->Ans (f (.bool true)) Q) (h2:a=b->Ans (f (.bool false)) Q):Ans ((Z00 P .neq ty (.int k a) (.int k b)).bind f) Q:=if h:a=b then Ans.neF h (h2 h) else Ans.neT h (h1 h)
theorem Ans.add {β:Type} {ty:TypeId} {a b:Int} {f:Value->Option β} {Q:β->Prop} (h:-9223372036854775808<=a+b/\a+b<9223372036854775808) (x:Ans (f (.int .i64 (a+b))) Q):Ans ((Z00 P .add ty (.int .i64 a) (.int .i64 b)).bind f) Q:=Ans.step (aBinOp_add ty a b h.1 h.2) x
theorem Ans.sub {β:Type} {ty:TypeId} {a b:Int} {f:Value->Option β} {Q:β->Prop} (h:-9223372036854775808<=a-b/\a-b<9223372036854775808) (x:Ans (f (.int .i64 (a-b))) Q):Ans ((Z00 P .sub ty (.int .i64 a) (.int .i64 b)).bind f) Q:=Ans.step (aBinOp_sub ty a b h.1 h.2) x
theorem Ans.mul {β:Type} {ty:TypeId} {a b:Int} {f:Value->Option β} {Q:β->Prop} (h:-9223372036854775808<=a*b/\a*b<9223372036854775808) (x:Ans (f (.int .i64 (a*b))) Q):Ans ((Z00 P .mul ty (.int .i64 a) (.int .i64 b)).bind f) Q:=Ans.step (aBinOp_mul ty a b h.1 h.2) x
theorem Ans.addN {β:Type} {ty:TypeId} {a:Nat} {f:Value->Option β} {Q:β->Prop} (h:(a:Int)<9223372036854775807) (x:Ans (f (.int .i64 ((a+1:Nat):Int))) Q):Ans ((Z00 P .add ty (.int .i64 (a:Int)) (.int .i64 1)).bind f) Q:=Ans.step (aBinOp_add ty a 1 (by omega) (by omega)) x
theorem Ans.bT {β:Type} {op:BinOp} {ty:TypeId} {a b:Value} {p:Prop} [Decidable p] {f:Value->Option β} {Q:β->Prop} (e:Z00 P op ty a b=some (.bool (decide p))) (h:p) (x:Ans (f (.bool true)) Q):Ans ((Z00 P op ty a b).bind f) Q:=Ans.step (by rw [e,decide_eq_true h]) x
theorem Ans.bF {β:Type} {op:BinOp} {ty:TypeId} {a b:Value} {p:Prop} [Decidable p] {f:Value->Option β} {Q:β->Prop} (e:Z00 P op ty a b=some (.bool (decide p))) (h:¬p) (x:Ans (f (.bool false)) Q):Ans ((Z00 P op ty a b).bind f) Q:=Ans.step (by rw [e,decide_eq_false h]) x
theorem Ans.bS {β:Type} {op:BinOp} {ty:TypeId} {a b:Value} {p:Prop} [Decidable p] {f:Value->Option β} {Q:β->Prop} (e:Z00 P op ty a b=some (.bool (decide p))) (h1:p->Ans (f (.bool true)) Q) (h2:¬p->Ans (f (.bool false)) Q):Ans ((Z00 P op ty a b).bind f) Q :=
 if h:p then Ans.bT e h (h1 h) else Ans.bF e h (h2 h)
theorem Ans.oT {β:Type} {op:BinOp} {ty:TypeId} {a b:Value} {t:Bool} {f:Value->Option β} {Q:β->Prop} (e:Z00 P op ty a b=some (.bool t)) (ht:t=true) (x:Ans (f (.bool true)) Q):Ans ((Z00 P op ty a b).bind f) Q:=Ans.step (by rw [e,ht]) x
theorem Ans.gyT {α β:Type} {b:Bool} {X Y:Option α} {f:α->Option β} {Q:β->Prop} (h:Ans (X.bind f) Q):Ans (((gv (.bool b) b).bind fun w=>cond w X Y).bind f) Q:=by
 cases b <;> exact h
theorem Ans.gyF {α β:Type} {X Y:Option α} {f:α->Option β} {Q:β->Prop} (h:Ans (Y.bind f) Q):Ans (((gv (.bool true) false).bind fun w=>cond w X Y).bind f) Q:=h
theorem Ans.gyG {α β:Type} {X Y:Option α} {f:α->Option β} {Q:β->Prop} (h:Ans (Y.bind f) Q):Ans (((gv (.bool false) true).bind fun w=>cond w X Y).bind f) Q:=h
theorem Ans.r1 {β:Type} {h:FH} {c:Nat} {x:Option Value} {f:Value × FH × Nat->Option β} {Q:β->Prop} (e:Ans (x.bind fun v=>f (v,h,c)) Q):Ans ((Z6e h c x).bind f) Q:=by
 cases x <;> exact e
theorem Ans.pkT {β:Type} {a b:Value} {f:Value->Option β} {Q:β->Prop} (e:Ans (f a) Q):Ans ((Z0X (.bool true) a b).bind f) Q:=e
theorem Ans.pkF {β:Type} {a b:Value} {f:Value->Option β} {Q:β->Prop} (e:Ans (f b) Q):Ans ((Z0X (.bool false) a b).bind f) Q:=e
theorem Ans.btL {β:Type} {x y:Option β} {Q:β->Prop} (k:Ans x Q):Ans (Z0b (.bool true) x y) Q:=k
theorem Ans.bfL {β:Type} {x y:Option β} {Q:β->Prop} (k:Ans y Q):Ans (Z0b (.bool false) x y) Q:=k
def Lk (o:Orc FH) (k:Key) (Q:Rt FH->Prop) (q:Rt FH):Prop:=if q.e = .normal then Ans (o k q.vs q.h q.c q.df) Q else Q q
theorem Ans.loop {o:Orc FH} {k:Key} {L X:Option (Rt FH)} {h:FH} {c:Nat} {df:List Nat} {Q:Rt FH->Prop}
 (N:∀ q r,L=some q->q.e = .normal->o k q.vs (gcR h c df q).h (gcR h c df q).c q.df=some r->X=some r)
 (Z:∀ q,L=some q->q.e ≠ .normal->X=some (gcR h c df q))
 (e:Ans L (fun q=>Lk o k Q (gcR h c df q))):Ans X Q:=by
 obtain ⟨q,hq,hl⟩:=e
 unfold Lk at hl
 rw [Zlk,Zgg,Zkn] at hl
 by_cases hn:q.e = .normal
 · rw [if_pos hn] at hl
   obtain ⟨r,hr,h2⟩:=hl
   exact ⟨r,N q r hq hn hr,h2⟩
 · rw [if_neg hn] at hl
   exact ⟨_,Z q hq hn,hl⟩
theorem Ans.loop' {o:Orc FH} {k:Key} {L X:Option (Rt FH)} {Q:Rt FH->Prop}
 (N:∀ q r,L=some q->q.e = .normal->o k q.vs q.h q.c q.df=some r->X=some r)
 (Z:∀ q,L=some q->q.e ≠ .normal->X=some q)
 (e:Ans L (fun q=>Lk o k Q q)):Ans X Q:=by
 obtain ⟨q,hq,hl⟩:=e
 unfold Lk at hl
 by_cases hn:q.e = .normal
 · rw [if_pos hn] at hl
   obtain ⟨r,hr,h2⟩:=hl
   exact ⟨r,N q r hq hn hr,h2⟩
 · rw [if_neg hn] at hl
   exact ⟨_,Z q hq hn,hl⟩
theorem Lk.next {o:Orc FH} {k:Key} {Q:Rt FH->Prop} {vs:List Value} {h:FH} {c:Nat} {df:List Nat} (e:Ans (o k vs h c df) Q):Lk o k Q { e:=.normal,vs:=vs,h:=h,c:=c,df:=df }:=by
 unfold Lk; rw [if_pos rfl]; exact e
theorem Lk.exit {o:Orc FH} {k:Key} {Q:Rt FH->Prop} {i:Nat} {vs:List Value} {h:FH} {c:Nat} {df:List Nat} (e:Q { e:=.exit i,vs:=vs,h:=h,c:=c,df:=df }):Lk o k Q { e:=.exit i,vs:=vs,h:=h,c:=c,df:=df }:=by
 unfold Lk; rw [if_neg (by simp)]; exact e
theorem Lk.ret {o:Orc FH} {k:Key} {Q:Rt FH->Prop} {vs:List Value} {h:FH} {c:Nat} {df:List Nat} (e:Q { e:=.ret,vs:=vs,h:=h,c:=c,df:=df }):Lk o k Q { e:=.ret,vs:=vs,h:=h,c:=c,df:=df }:=by
 unfold Lk; rw [if_neg (by simp)]; exact e
theorem Ans.next0 {o:Orc FH} {k:Key} {Q:Rt FH->Prop} {A h:FH} {c c':Nat} {vs:List Value} {df:List Nat} (h1:Z1i c vs) (h2:Z0p c A h) (e:Ans (o k vs A c df) Q) :
 Ans (some { e:=.normal,vs:=vs,h:=h,c:=c',df:=df }) (fun q=>Lk o k Q (gcR A c df q)):=.done (by rw [Z5k h1 h2]; exact .next e)
theorem Ans.exit0 {o:Orc FH} {k:Key} {Q:Rt FH->Prop} {A h:FH} {c c':Nat} {vs:List Value} {df:List Nat} {i:Nat} (h1:Z1i c vs) (h2:Z0p c A h) (e:Q { e:=.exit i,vs:=vs,h:=A,c:=c,df:=df }) :
 Ans (some { e:=.exit i,vs:=vs,h:=h,c:=c',df:=df }) (fun q=>Lk o k Q (gcR A c df q)):=.done (by rw [Z5k h1 h2]; exact .exit e)
theorem Ans.ret0 {o:Orc FH} {k:Key} {Q:Rt FH->Prop} {A h:FH} {c c':Nat} {vs:List Value} {df:List Nat} (h1:Z1i c vs) (h2:Z0p c A h) (e:Q { e:=.ret,vs:=vs,h:=A,c:=c,df:=df }) :
 Ans (some { e:=.ret,vs:=vs,h:=h,c:=c',df:=df }) (fun q=>Lk o k Q (gcR A c df q)):=.done (by rw [Z5k h1 h2]; exact .ret e)
theorem Ans.nextB {o:Orc FH} {k:Key} {Q:Rt FH->Prop} {A B h:FH} {c c':Nat} {vs:List Value} {df:List Nat} (e:Ans (o k vs B c df) Q) (h1:Z1i c vs) (h2:Z0p c B h) (h3:Z2n c A B) :
 Ans (some { e:=.normal,vs:=vs,h:=h,c:=c',df:=df }) (fun q=>Lk o k Q (gcR A c df q)):=.done (by rw [Zdi h1 h2 h3]; exact .next e)
theorem Ans.nextN {o:Orc FH} {k:Key} {Q:Rt FH->Prop} {h:FH} {c:Nat} {vs:List Value} {df:List Nat} (e:Ans (o k vs h c df) Q) :
 Ans (some { e:=.normal,vs:=vs,h:=h,c:=c,df:=df }) (fun q=>Lk o k Q q):=.done (.next e)
theorem Ans.exitN {o:Orc FH} {k:Key} {Q:Rt FH->Prop} {h:FH} {c:Nat} {vs:List Value} {df:List Nat} {i:Nat} (e:Q { e:=.exit i,vs:=vs,h:=h,c:=c,df:=df }) :
 Ans (some { e:=.exit i,vs:=vs,h:=h,c:=c,df:=df }) (fun q=>Lk o k Q q):=.done (.exit e)
theorem Ans.retN {o:Orc FH} {k:Key} {Q:Rt FH->Prop} {h:FH} {c:Nat} {vs:List Value} {df:List Nat} (e:Q { e:=.ret,vs:=vs,h:=h,c:=c,df:=df }) :
 Ans (some { e:=.ret,vs:=vs,h:=h,c:=c,df:=df }) (fun q=>Lk o k Q q):=.done (.ret e)
theorem OkV.mono {c c':Nat} {v:Value} (hc:c<=c') (h:OkV c v):OkV c' v:=by
 obtain ⟨v',hv⟩:=h
 exact ⟨_,VR.mono (μ':=nuD c') (fun i m e=>by
  have:=Z9E (c:=c) (i:=i) (by rw [e]; simp)
  rw [Z7x this] at e
  rw [Z7x (by omega)]; exact e) hv⟩
theorem OkV.fn (c:Nat) (g:FuncId):OkV c (.func (.func g) #[] #[]):=⟨.func (.func g) #[] #[],.fnc g rfl rfl (fun k x y h=>by simp at h) (fun k x y h=>by simp at h)⟩
@[simp] theorem extV_20 (a b:Value):Z3K (.tuple #[a,b]) 0=some a:=rfl
@[simp] theorem extV_21 (a b:Value):Z3K (.tuple #[a,b]) 1=some b:=rfl
@[simp] theorem extV_30 (a b c:Value):Z3K (.tuple #[a,b,c]) 0=some a:=rfl
@[simp] theorem extV_31 (a b c:Value):Z3K (.tuple #[a,b,c]) 1=some b:=rfl
@[simp] theorem extV_32 (a b c:Value):Z3K (.tuple #[a,b,c]) 2=some c:=rfl
def Z0x:Value->Nat
 | .slice (some a) _ _=>a.block
 | _=>0
def Z4q:Value->Nat
 | .slice (some a) _ _=>a.off
 | _=>0
def capOf:Value->Nat
 | .slice _ _ k=>k
 | _=>0
@[simp] theorem blkOf_sl (b o n k:Nat):Z0x (.slice (some ⟨b,o,none⟩) n k)=b:=rfl
@[simp] theorem offOf_sl (b o n k:Nat):Z4q (.slice (some ⟨b,o,none⟩) n k)=o:=rfl
def gi (L:List Int) (i:Int):Int:=L.getD i.toNat 0
theorem SlI.blk {h:FH} {c:Nat} {s:Value} {sz n:Nat} {L:List Int} (hs:SlI h c s sz n L):0<n->Z0x s<256*c:=by
 obtain ⟨g1,g2,a,cap,rfl,h4⟩:=hs
 intro hn
 rcases h4 with ⟨e,hv⟩ | ⟨b,o,cs,rfl,e2,e3,e4⟩
 · omega
 · exact e2
theorem SlI.ixs {h:FH} {c:Nat} {s:Value} {sz n:Nat} {L:List Int} (hs:SlI h c s sz n L) (k:IntKind) (i:Int) (h1:0<=i) (h2:i<(n:Int)) :
 ixS sz s (.int k i)=some (.pointer (some ⟨Z0x s,Z4q s+i.toNat*sz,none⟩)):=by
 obtain ⟨g1,g2,a,cap,rfl,h4⟩:=hs
 rcases h4 with ⟨e,hv⟩ | ⟨b,o,cs,rfl,e2,e3,e4⟩
 · omega
 · exact ixS_sl sz b o n cap k i h1 h2
theorem SlI.rd {h:FH} {c:Nat} {s:Value} {sz n:Nat} {L:List Int} (hs:SlI h c s sz n L) (j:Nat) (hj:j<n*sz) :
 ld1 h (.pointer (some ⟨Z0x s,Z4q s+j,none⟩))=some (.int .i64 (L.getD j 0)):=by
 obtain ⟨g1,g2,a,cap,rfl,h4⟩:=hs
 rcases h4 with ⟨e,hv⟩ | ⟨b,o,cs,rfl,e2,e3,e4⟩
 · rw [e,Nat.zero_mul] at hj; omega
 · exact Zlc e3 e4 (by omega)
theorem SlI.rd2 {h:FH} {c:Nat} {s:Value} {sz n:Nat} {L:List Int} (hs:SlI h c s sz n L) (j k:Nat) (hj:j+k<n*sz) :
 ld1 h (.pointer (some ⟨Z0x s,Z4q s+j+k,none⟩))=some (.int .i64 (L.getD (j+k) 0)):=by rw [Nat.add_assoc]; exact hs.rd _ hj
theorem SlI.ixs1 {h:FH} {c:Nat} {s:Value} {n:Nat} {L:List Int} (hs:SlI h c s 1 n L) (k:IntKind) (i:Int) (h1:0<=i) (h2:i<(n:Int)) :
 ixS 1 s (.int k i)=some (.pointer (some ⟨Z0x s,Z4q s+i.toNat,none⟩)):=by rw [hs.ixs k i h1 h2,Nat.mul_one]
theorem SlI.rdN {h:FH} {c:Nat} {s:Value} {sz n:Nat} {L:List Int} (hs:SlI h c s sz n L) (q j:Nat) (hq:0<q) (hj:j+q<=n*sz) :
 ldN h q (.pointer (some ⟨Z0x s,Z4q s+j,none⟩))=some (av ((L.drop j).take q)):=by
 obtain ⟨g1,g2,a,cap,rfl,h4⟩:=hs
 rcases h4 with ⟨e,hv⟩ | ⟨b,o,cs,rfl,e2,e3,e4⟩
 · rw [e,Nat.zero_mul] at hj; omega
 · exact Z9J e3 e4 (by omega) hq
theorem SlI.row {h:FH} {c:Nat} {s:Value} {n:Nat} {L:List Int} (hs:SlI h c s 20 n L) (t:Int) (h1:0<=t) (h2:t<(n:Int)) :
 ldN h 20 (.pointer (some ⟨Z0x s,Z4q s+t.toNat*20,none⟩))=some (av (Z3x L t.toNat)):=by
 rw [hs.rdN 20 _ (by omega) (by omega)]
 unfold Z3x
 rw [Nat.mul_comm 20]
def Z3C (Pm:List Int) (i:Nat):List Int:=(Pm.drop (4*i)).take 4
theorem Z9A {Pm:List Int} {n i:Nat} (h:Pm.length=n*4) (hi:i<n):(Z3C Pm i).length=4:=by simp [Z3C]; omega
theorem SlI.perm {h:FH} {c:Nat} {s:Value} {n:Nat} {L:List Int} (hs:SlI h c s 4 n L) (t:Int) (h1:0<=t) (h2:t<(n:Int)) :
 ldN h 4 (.pointer (some ⟨Z0x s,Z4q s+t.toNat*4,none⟩))=some (av (Z3C L t.toNat)):=by
 rw [hs.rdN 4 _ (by omega) (by omega)]
 unfold Z3C
 rw [Nat.mul_comm 4]
theorem SlI.keep {h h':FH} {c:Nat} {s:Value} {sz n:Nat} {L:List Int} (hs:SlI h c s sz n L) (hh:0<n->h'.f (Z0x s)=h.f (Z0x s)):SlI h' c s sz n L:=by
 by_cases hn:0<n
 · obtain ⟨h1,h2,a,cap,rfl,h4⟩:=hs
   refine ⟨h1,h2,a,cap,rfl, ?_⟩
   rcases h4 with ⟨e,hv⟩ | ⟨b,o,cs,rfl,e2,⟨ro,op,e3⟩,e4⟩
   · omega
   · exact .inr ⟨b,o,cs,rfl,e2,⟨ro,op,(hh hn).trans e3⟩,e4⟩
 · have ho:=hs.okV
   obtain ⟨h1,h2,a,cap,rfl,h4⟩:=hs
   exact ⟨h1,h2,a,cap,rfl,.inl ⟨by omega,ho⟩⟩
theorem SlI.nil (h:FH) (c sz:Nat):SlI h c (.slice none 0 0) sz 0 []:=⟨by simp,by omega,none,0,rfl,.inl ⟨rfl,OkV.sl0 _ _ _⟩⟩
theorem SlI.flat {h:FH} {c:Nat} {s:Value} {sz n:Nat} {L:List Int} (hs:SlI h c s sz n L):Z09 s=true:=by
 obtain ⟨_,_,a,cap,rfl,_⟩:=hs
 rfl
theorem Z75 (v:Value):∀ n:Nat,Z1c [v] n=List.replicate n v
 | 0=>rfl
 | n+1=>by rw [Z1c,Z75 v n]; rfl
theorem ZfS (sz by':Nat) (z:List Value) (k k':IntKind) (n:Nat) (h:by'*n<=281474976710656) (h2:n<=281474976710656):mkS sz by' z (.int k (n:Int)) (.int k' (n:Int))=some (Z1c z n,n,n):=by
 have h3:(by':Int)*(n:Int)<=281474976710656:=by rw [← Int.natCast_mul]; omega
 have h4:(n:Int)<=281474976710656:=by omega
 have h5:(0:Int)<=n:=by omega
 simp only [mkS,Zk6,Option.bind_some,decide_eq_true h3,decide_eq_true h4,decide_eq_true h5,decide_eq_true (Int.le_refl (n:Int)),Bool.and_self,cond_true,Int.toNat_natCast]
theorem Z9F (sz by':Nat) (k k':IntKind) (n:Nat) (h:by'*n<=281474976710656) (h2:n<=281474976710656):mkS sz by' [.int .i64 0] (.int k (n:Int)) (.int k' (n:Int))=some (ints (List.replicate n 0),n,n):=by
 rw [ZfS sz by' _ k k' n h h2,Z75,ints,List.map_replicate]
theorem ZhX (sz by':Nat) (k k':IntKind) (n:Nat) (h:by'*n<=281474976710656) (h2:n<=281474976710656):mkS sz by' [.bool false] (.int k (n:Int)) (.int k' (n:Int))=some (bools (List.replicate n false),n,n):=by
 rw [ZfS sz by' _ k k' n h h2,Z75,bools,List.map_replicate]
def Own (h:FH) (b:Nat) (op:Option Nat) (cs:List Value):Prop:=HeapC.get h b=some (.cells false op cs)
theorem Own.same {h h':FH} {c b:Nat} {op:Option Nat} {cs:List Value} (hb:b<256*c) (hs:Z0p c h h') (e:Own h b op cs):Own h' b op cs:=(hs b hb).trans e
theorem Own.new (h:FH) (b:Nat) (cs:List Value):Own (newB h b cs) b none cs:=get_newB_same h b cs
theorem Own.set (h:FH) (b:Nat) (op:Option Nat) (cs:List Value):Own (HeapC.set h b (.cells false op cs)) b op cs:=get_set_same h b _
theorem Z2n.set {c b:Nat} {A B:FH} {op:Option Nat} {ro:Bool} {cs:List Value} (hb:b<256*c) (hc:Z1i c cs) (h:Z2n c A B):Z2n c A (HeapC.set B b (.cells ro op cs)):=by
 intro i
 rw [Z0g]
 refine ⟨fun hi=>?_,fun hi=>?_⟩
 · rw [if_neg (by omega)]; exact (h i).1 hi
 · split
   · exact .inr hc
   · exact (h i).2 hi
theorem Ans.call {S X:Option (Rt FH)} {h:FH} {c:Nat} {Q:Rt FH->Prop} (hgo:∀ r,S=some r->X=some (gcR h c [] r)) (hS:Ans S (fun r=>Q (gcR h c [] r))):Ans X Q:=by
 obtain ⟨r,e,hq⟩:=hS
 exact ⟨_,hgo r e,hq⟩
theorem Ans.call' {S X:Option (Rt FH)} {Q:Rt FH->Prop} (hgo:∀ r,S=some r->X=some r) (hS:Ans S Q):Ans X Q:=by
 obtain ⟨r,e,hq⟩:=hS
 exact ⟨_,hgo r e,hq⟩
def ZlZ (h:FH) (c:Nat) (v:Value) (r:Rt FH):Prop:=r.e = .ret/\r.vs=[v]/\Z0p c h r.h/\r.df=[]
theorem Z14 {X S:Option (Rt FH)} {h:FH} {c:Nat} {v:Value} (hgo:∀ r,S=some r->X=some (gcR h c [] r)) (hv:OkV c v) (hS:Ans S (ZlZ h c v)) :
 X=some { e:=.ret,vs:=[v],h:=h,c:=c,df:=[] }:=Z5G hgo hv hS
theorem Ans.pure {h h':FH} {c c':Nat} {v w:Value} (hv:w=v) (hs:Z0p c h h'):Ans (some { e:=.ret,vs:=[w],h:=h',c:=c',df:=[] }) (ZlZ h c v):=.done ⟨rfl,by rw [hv],hs,rfl⟩
theorem Z6Y {x:Option Nat} {h1 h2:FH} (e:∀ i,x=some i->h1.f i=h2.f i):Z1r x h1 h2=true:=by
 cases x with
 | none=>rfl
 | some i =>
  show @decide (h1.f i=h2.f i) (Classical.propDecidable _)=true
  exact @decide_eq_true _ (Classical.propDecidable _) (e i rfl)
theorem Z8F {x:List Int} (hx:x.length=5):x=Z0A x::Z0s x:=by
 match x,hx with
 | [a,b,c,d,e],_=>rfl
end Go.Ab

namespace Go.Ab
open Go
@[simp,reducible] def gg {H:Type} (g:Value) (b:Bool) (h:H) (c:Nat) (x:Option (Value × H × Nat)):Option (Value × H × Nat):=(gv g b).bind fun w=>cond w x (some (undef,h,c))
@[simp,reducible] def gd {H:Type} (g:Value) (b:Bool) (h:H) (c:Nat) (x:Option Value):Option (Value × H × Nat):=(gv g b).bind fun w=>cond w (Z6e h c x) (some (undef,h,c))
def pd:Nat->Nat->List Nat
 | 0,_=>[]
 | k+1,n=>cond (Nat.ble n 1) [] ((n % 2)::pd k (n / 2))
@[reducible] def rg (i:Nat) (b:Code) (p:Nat) (d:Bool):ACode:=.region i (opsAt b (pd 100 p)) d
theorem ai {a b:Prop} (h:a) (k:b):a/\b:=And.intro h k
theorem tt:True:=trivial
theorem Ans.lpG {P:Program} {bk:FuncId->Option AFun} {sel:Key->Bool} {ext:Fo FH} {key:Key} {j nt:Nat} {lin:List Nat} {b:ACode} {rd:Option Nat} {vs:List Value} {h:FH} {c:Nat} {df:List Nat} {L:Option (Rt FH)} {Q:Rt FH->Prop}
 (hk:key = .lp j lin [] b nt rd) (hs:sel key=true) (e:jx P (Z6l P bk sel ext) nt rd b (Z0n lin vs) h c df (Klp lin)=L) (k:Ans L (fun q=>Lk (Z6l P bk sel ext) key Q (gcR h c df q))):Ans (Z6l P bk sel ext key vs h c df) Q:=by
 subst hk
 have hg:∀ q,gcS sel (.lp j lin [] b nt rd) h c df q=gcR h c df q:=fun q=>by unfold gcS; rw [hs]; rfl
 refine Ans.loop (L:=L) (fun q r hq hn k=>Z0I (e.trans hq) hn (by rw [hg]; exact k)) (fun q hq hn=>?_) k
 rw [← hg]
 exact Z0J (e.trans hq) hn
theorem Ans.lpN {P:Program} {bk:FuncId->Option AFun} {sel:Key->Bool} {ext:Fo FH} {key:Key} {j nt:Nat} {lin:List Nat} {b:ACode} {rd:Option Nat} {vs:List Value} {h:FH} {c:Nat} {df:List Nat} {L:Option (Rt FH)} {Q:Rt FH->Prop}
 (hk:key = .lp j lin [] b nt rd) (hs:sel key=false) (e:jx P (Z6l P bk sel ext) nt rd b (Z0n lin vs) h c df (Klp lin)=L) (k:Ans L (fun q=>Lk (Z6l P bk sel ext) key Q q)):Ans (Z6l P bk sel ext key vs h c df) Q:=by
 subst hk
 have hg:∀ q,gcS sel (.lp j lin [] b nt rd) h c df q=q:=fun q=>by unfold gcS; rw [hs]; rfl
 refine Ans.loop' (L:=L) (fun q r hq hn k=>Z0I (e.trans hq) hn (by rw [hg]; exact k)) (fun q hq hn=>?_) k
 have:=Z0J (ext:=ext) (sel:=sel) (bk:=bk) (j:=j) (e.trans hq) hn
 rw [hg] at this
 exact this
end Go.Ab

namespace Go.Proofs.Ytdodippbpdechaa
open Go Go.Ab Go.Proofs
variable {H:Type} [HeapC H]
noncomputable abbrev P:=Try.prog
noncomputable def Z4Z:Code:=Z0y Try.f3
noncomputable def Za2:ACode:=(.seq (rg 10 Z4Z 4479 false) (.seq (.cond (.tmp 80) .skip (.exit 0)) (.seq (.block 1 (.seq (rg 11 Z4Z 72063 false) (.seq (rg 12 Z4Z 170367 false) (rg 13 Z4Z 235903 false)))) (rg 14 Z4Z 31103 false))))
noncomputable def ZdN (rd:Option Nat):Key:=.lp 3000 [1,3,5,7,9,10,11,12,77,78,79] [] Za2 173 rd
noncomputable def Za1:ACode:=(.seq (rg 16 Z4Z 8959 false) (.seq (.cond (.tmp 97) .skip (.exit 2)) (.seq (.block 3 (.seq (rg 17 Z4Z 144127 false) (.seq (rg 18 Z4Z 340735 false) (.join [(.normal,[1,3,5,7,9,10,11,12,94,95,96])] (.cond (.tmp 100) (rg 19 Z4Z 733951 false) .skip))))) (rg 20 Z4Z 62207 false))))
noncomputable def ZdM (rd:Option Nat):Key:=.lp 3001 [1,3,5,7,9,10,11,12,94,95,96] [] Za1 173 rd
noncomputable def Z9Z:ACode:=(.seq (rg 26 Z4Z 9227263 false) (.seq (.cond (.tmp 114) .skip (.exit 6)) (.seq (.block 7 (.seq (rg 27 Z4Z 147639295 false) (.seq (rg 28 Z4Z 348965887 false) (.seq (rg 29 Z4Z 751619071 false) (.join [(.normal,[1,3,5,7,9,10,11,12,17,18,105,106,107,112,113])] (.cond (.tmp 129) (rg 30 Z4Z 1556925439 false) .skip)))))) (rg 31 Z4Z 63753215 false))))
noncomputable def ZdK (rd:Option Nat):Key:=.lp 3003 [1,3,5,7,9,10,11,12,17,18,105,106,107,112,113] [] Z9Z 173 rd
noncomputable def Za0:ACode:=(.seq (rg 23 Z4Z 35839 false) (.seq (.cond (.tmp 108) .skip (.exit 4)) (.seq (.block 5 (.seq (rg 24 Z4Z 576511 false) (.seq (rg 25 Z4Z 1362943 false) (.block 6 (.loop 3003 [1,3,5,7,9,10,11,12,17,18,105,106,107,112,113] [] [(.exit 6)] Z9Z))))) (rg 32 Z4Z 248831 false))))
noncomputable def ZdL (rd:Option Nat):Key:=.lp 3002 [1,3,5,7,9,10,11,12,17,105,106,107] [] Za0 173 rd
noncomputable def f3_c:ACode:=(.seq (rg 0 Z4Z 2 false) (.seq (.seq (rg 1 Z4Z 9 false) (.cond (.tmp 25) (.seq (rg 2 Z4Z 37 false) .ret) .skip)) (.seq (rg 3 Z4Z 11 false) (.seq (rg 4 Z4Z 23 false) (.seq (rg 5 Z4Z 47 false) (.seq (.seq (rg 6 Z4Z 159 false) (.cond (.tmp 69) (.seq (rg 7 Z4Z 607 false) .ret) .skip)) (.seq (rg 8 Z4Z 191 false) (.seq (.seq (rg 9 Z4Z 639 false) (.block 0 (.loop 3000 [1,3,5,7,9,10,11,12,77,78,79] [] [(.exit 0)] Za2))) (.seq (.seq (rg 15 Z4Z 1279 false) (.block 2 (.loop 3001 [1,3,5,7,9,10,11,12,94,95,96] [] [(.exit 2)] Za1))) (.seq (rg 21 Z4Z 1535 false) (.seq (.seq (rg 22 Z4Z 5119 false) (.block 4 (.loop 3002 [1,3,5,7,9,10,11,12,17,105,106,107] [] [(.exit 4)] Za0))) (.seq (.seq (rg 33 Z4Z 10239 false) (.cond (.tmp 157) (.seq (rg 34 Z4Z 38911 false) .ret) .skip)) (.seq (rg 35 Z4Z 12287 false) .ret)))))))))))))
noncomputable def f3_f:AFun:={ code:=f3_c,nt:=173,res:=Try.f3.results.toList,fr:=[] }
noncomputable def ZgU:Code:=Z0y Try.f10
noncomputable def f10_c:ACode:=(.seq (rg 0 ZgU 2 false) (.seq (rg 1 ZgU 5 false) (.seq (rg 2 ZgU 11 false) (.seq (rg 3 ZgU 23 false) .ret))))
noncomputable def ZeW:AFun:={ code:=f10_c,nt:=31,res:=Try.f10.results.toList,fr:=[] }
noncomputable def ZgT:Code:=Z0y Try.f11
noncomputable def f11_c:ACode:=(.seq (rg 0 ZgT 2 false) (.seq (.seq (rg 1 ZgT 9 false) (.cond (.tmp 6) (.seq (rg 2 ZgT 37 false) .ret) .skip)) (.seq (rg 3 ZgT 11 false) .ret)))
noncomputable def ZbZ:AFun:={ code:=f11_c,nt:=10,res:=Try.f11.results.toList,fr:=[] }
noncomputable def Za9:Code:=Z0y Try.f12
noncomputable def f12_c:ACode:=(.seq (rg 0 Za9 2 false) (.seq (.seq (rg 1 Za9 9 false) (.cond (.tmp 13) (.seq (rg 2 Za9 37 false) .ret) .skip)) (.seq (rg 3 Za9 11 false) (.seq (rg 4 Za9 23 false) (.seq (rg 5 Za9 47 false) (.seq (rg 6 Za9 95 false) (.seq (rg 7 Za9 191 false) .ret)))))))
noncomputable def ZjH:AFun:={ code:=f12_c,nt:=49,res:=Try.f12.results.toList,fr:=[] }
noncomputable def Z6W:Code:=Z0y Try.f13
noncomputable def Z3m:ACode:=(.seq (rg 5 Z6W 279 false) (.seq (.cond (.tmp 14) .skip (.exit 0)) (.seq (.block 1 (.seq (rg 6 Z6W 4503 false) (.seq (rg 7 Z6W 10647 false) (.cond (.tmp 19) (.seq (rg 8 Z6W 39319 false) .ret) .skip)))) (rg 9 Z6W 1943 false))))
noncomputable def Z4g (rd:Option Nat):Key:=.lp 13000 [2,3,4,12,13] [] Z3m 23 rd
noncomputable def f13_c:ACode:=(.seq (rg 0 Z6W 2 false) (.seq (.seq (rg 1 Z6W 9 false) (.cond (.tmp 9) (.seq (rg 2 Z6W 37 false) .ret) .skip)) (.seq (rg 3 Z6W 11 false) (.seq (.seq (rg 4 Z6W 39 false) (.block 0 (.loop 13000 [2,3,4,12,13] [] [(.exit 0),.ret] Z3m))) (.seq (rg 10 Z6W 47 false) .ret)))))
noncomputable def ZbY:AFun:={ code:=f13_c,nt:=23,res:=Try.f13.results.toList,fr:=[] }
noncomputable def Z50:Code:=Z0y Try.f14
noncomputable def Z3k:ACode:=(.seq (.seq (rg 8 Z50 33943 false) (.cond (.tmp 18) .skip (.exit 2))) (.seq (.join [(.normal,[1,2,3,4,5]),(.ret,[1,2,3,4,5])] (.block 3 (.seq (rg 10 Z50 140439 false) (.seq (.seq (rg 11 Z50 599191 false) (.cond (.tmp 36) (.exit 3) .skip)) (.seq (.seq (rg 12 Z50 1254551 false) (.cond (.tmp 65) (.seq (rg 13 Z50 4924567 false) .ret) .skip)) (.seq (rg 14 Z50 1516695 true) (.cond (.tmp 82) (.seq (rg 15 Z50 5186711 false) .ret) .skip))))))) (rg 9 Z50 58519 false)))
noncomputable def Z3i (rd:Option Nat):Key:=.lp 14001 [1,2,3,4,5] [] Z3k 83 rd
noncomputable def Z3l:ACode:=(.seq (.seq (rg 5 Z50 535 false) (.cond (.tmp 14) .skip (.exit 0))) (.seq (.block 1 (.seq (rg 7 Z50 2199 false) (.block 2 (.loop 14001 [1,2,3,4,5] [] [(.exit 2),.ret] Z3k)))) (rg 6 Z50 919 false)))
noncomputable def Z3j (rd:Option Nat):Key:=.lp 14000 [1,2,3,4] [] Z3l 83 rd
noncomputable def f14_c:ACode:=(.seq (rg 0 Z50 2 false) (.seq (rg 1 Z50 5 false) (.seq (.seq (rg 2 Z50 19 false) (.cond (.tmp 11) (.seq (rg 3 Z50 75 false) .ret) .skip)) (.seq (.seq (rg 4 Z50 39 false) (.block 0 (.loop 14000 [1,2,3,4] [] [(.exit 0),.ret] Z3l))) (.seq (rg 16 Z50 47 false) .ret)))))
noncomputable def ZbX:AFun:={ code:=f14_c,nt:=83,res:=Try.f14.results.toList,fr:=[] }
noncomputable def Z8j:Code:=Z0y Try.f16
noncomputable def Z3h:ACode:=(.seq (.seq (rg 4 Z8j 267 false) (.cond (.tmp 14) .skip (.exit 0))) (.seq (.block 1 (.seq (rg 6 Z8j 1099 true) (.cond (.tmp 25) (.seq (rg 7 Z8j 4683 false) .ret) .skip))) (rg 5 Z8j 459 false)))
noncomputable def ZeT (rd:Option Nat):Key:=.lp 16000 [0,1,4,5] [] Z3h 26 rd
noncomputable def f16_c:ACode:=(.seq (rg 0 Z8j 2 false) (.seq (.seq (rg 1 Z8j 9 false) (.cond (.tmp 10) (.seq (rg 2 Z8j 37 false) .ret) .skip)) (.seq (.seq (rg 3 Z8j 19 false) (.block 0 (.loop 16000 [0,1,4,5] [] [(.exit 0),.ret] Z3h))) (.seq (rg 8 Z8j 23 false) .ret))))
noncomputable def ZeU:AFun:={ code:=f16_c,nt:=26,res:=Try.f16.results.toList,fr:=[] }
noncomputable def Za7:Code:=Z0y Try.f27
noncomputable def Z3g:ACode:=(.seq (rg 2 Za7 69 false) (.seq (.cond (.tmp 9) .skip (.exit 0)) (.seq (.block 1 (.seq (rg 3 Za7 1125 false) (.seq (rg 4 Za7 2661 false) (.cond (.tmp 23) (.seq (rg 5 Za7 9829 false) .ret) .skip)))) (rg 6 Za7 485 false))))
noncomputable def Z96 (rd:Option Nat):Key:=.lp 27000 [0,1,4,7,8] [] Z3g 26 rd
noncomputable def f27_c:ACode:=(.seq (rg 0 Za7 2 false) (.seq (.seq (rg 1 Za7 9 false) (.block 0 (.loop 27000 [0,1,4,7,8] [] [(.exit 0),.ret] Z3g))) (.seq (rg 7 Za7 11 false) .ret)))
noncomputable def ZbW:AFun:={ code:=f27_c,nt:=26,res:=Try.f27.results.toList,fr:=[] }
noncomputable def ZjE:Code:=Z0y Try.f37
noncomputable def f37_c:ACode:=(.seq (rg 0 ZjE 2 false) (.seq (rg 1 ZjE 5 false) (.seq (rg 2 ZjE 11 false) .ret)))
noncomputable def ZeS:AFun:={ code:=f37_c,nt:=8,res:=Try.f37.results.toList,fr:=[] }
noncomputable def Z65:Code:=Z0y Try.f38
noncomputable def Z1o:ACode:=(.seq (rg 5 Z65 279 false) (rg 6 Z65 407 false))
noncomputable def Z1n:ACode:=(.join [(.normal,[]),(.ret,[])] (.block 1 (.seq (.seq (rg 7 Z65 1111 false) (.cond (.tmp 17) (.exit 1) .skip)) (.seq (.seq (rg 8 Z65 2391 true) (.cond (.tmp 51) (.seq (rg 9 Z65 9559 false) .ret) .skip)) (.seq (rg 10 Z65 2903 true) (.cond (.tmp 70) (.seq (rg 11 Z65 10071 false) .ret) .skip))))))
noncomputable def f38_c:ACode:=(.seq (rg 0 Z65 2 false) (.seq (.seq (rg 1 Z65 9 false) (.cond (.tmp 9) (.seq (rg 2 Z65 37 false) .ret) .skip)) (.seq (rg 3 Z65 11 false) (.seq (.seq (rg 4 Z65 39 false) (.block 0 (.rangeFunc 38000 [1,2,3] [] [.normal,.ret] (.tmp 12) #[13,14] Z1o Z1n))) (.seq (rg 12 Z65 47 false) .ret)))))
noncomputable def ZbV:AFun:={ code:=f38_c,nt:=71,res:=Try.f38.results.toList,fr:=[] }
noncomputable def Z1V:Code:=Z0y Try.f39
noncomputable def Z3c:ACode:=(.seq (rg 14 Z1V 9410943 false) (.seq (.cond (.tmp 107) .skip (.exit 2)) (.seq (.block 3 (.seq (rg 15 Z1V 147822975 false) (.seq (rg 16 Z1V 349149567 false) (.seq (rg 17 Z1V 751802751 false) (.seq (rg 18 Z1V 1557109119 true) (.join [(.normal,[2,3,4,5,6,8,10,12,13,59,60,105,106])] (.cond (.tmp 148) (rg 19 Z1V 3167721855 false) .skip))))))) (rg 20 Z1V 63936895 false))))
noncomputable def Z94 (rd:Option Nat):Key:=.lp 39001 [2,3,4,5,6,8,10,12,13,59,60,105,106] [] Z3c 172 rd
noncomputable def Z3d:ACode:=(.seq (rg 8 Z1V 4479 false) (.seq (.cond (.tmp 61) .skip (.exit 0)) (.seq (.block 1 (.seq (rg 9 Z1V 72063 false) (.seq (rg 10 Z1V 170367 true) (.seq (rg 11 Z1V 366975 true) (.seq (rg 12 Z1V 760191 true) (.seq (rg 13 Z1V 1546623 false) (.block 2 (.loop 39001 [2,3,4,5,6,8,10,12,13,59,60,105,106] [] [(.exit 2)] Z3c)))))))) (rg 21 Z1V 31103 false))))
noncomputable def Z95 (rd:Option Nat):Key:=.lp 39000 [2,3,4,5,6,8,10,12,59,60] [] Z3d 172 rd
noncomputable def Z3b:ACode:=(.seq (rg 23 Z1V 8959 false) (.seq (.cond (.tmp 157) .skip (.exit 4)) (.seq (.block 5 (.seq (rg 24 Z1V 144127 false) (rg 25 Z1V 209663 true))) (rg 26 Z1V 62207 false))))
noncomputable def Z93 (rd:Option Nat):Key:=.lp 39002 [2,3,4,6,12,155,156] [] Z3b 172 rd
noncomputable def f39_c:ACode:=(.seq (rg 0 Z1V 2 false) (.seq (rg 1 Z1V 5 false) (.seq (rg 2 Z1V 11 false) (.seq (rg 3 Z1V 23 false) (.seq (rg 4 Z1V 47 false) (.seq (rg 5 Z1V 95 false) (.seq (rg 6 Z1V 191 true) (.seq (.seq (rg 7 Z1V 639 false) (.block 0 (.loop 39000 [2,3,4,5,6,8,10,12,59,60] [] [(.exit 0)] Z3d))) (.seq (.seq (rg 22 Z1V 1279 false) (.block 4 (.loop 39002 [2,3,4,6,12,155,156] [] [(.exit 4)] Z3b))) (.seq (rg 27 Z1V 1535 false) .ret))))))))))
noncomputable def ZbU:AFun:={ code:=f39_c,nt:=172,res:=Try.f39.results.toList,fr:=[] }
noncomputable def Z1U:Code:=Z0y Try.f40
noncomputable def Z34:ACode:=(.seq (rg 18 Z1U 153762765207 false) (.seq (.cond (.tmp 91) .skip (.exit 6)) (.seq (.block 7 (.seq (rg 19 Z1U 2421505497495 false) (.seq (rg 20 Z1U 5720040380823 false) (.join [(.normal,[4,5,7,8,9,10,35,36,37,42,43,68,90])] (.cond (.tmp 100) (.seq (rg 21 Z1U 21113203169687 true) (rg 22 Z1U 29909296191895 true)) .skip))))) (rg 23 Z1U 1047115962775 false))))
noncomputable def Z8Z (rd:Option Nat):Key:=.lp 40003 [4,5,7,8,9,10,35,36,37,42,43,68,90] [] Z34 152 rd
noncomputable def Z35:ACode:=(.seq (rg 13 Z1U 150575511 false) (.seq (.cond (.tmp 69) .skip (.exit 4)) (.seq (.join [(.normal,[4,5,7,8,9,35,36,37,42,43,68])] (.block 5 (.seq (rg 14 Z1U 2365168023 false) (.seq (.seq (rg 15 Z1U 9881360791 false) (.cond (.tmp 73) (.exit 5) .skip)) (.seq (rg 16 Z1U 12028844439 true) (.seq (rg 17 Z1U 24913746327 false) (.block 6 (.loop 40003 [4,5,7,8,9,10,35,36,37,42,43,68,90] [] [(.exit 6)] Z34)))))))) (rg 24 Z1U 1022990743 false))))
noncomputable def Z90 (rd:Option Nat):Key:=.lp 40002 [4,5,7,8,9,35,36,37,42,43,68] [] Z35 152 rd
noncomputable def Z36:ACode:=(.seq (rg 7 Z1U 72087 false) (.seq (.cond (.tmp 44) .skip (.exit 2)) (.seq (.join [(.normal,[4,5,35,36,37,42,43])] (.block 3 (.seq (rg 8 Z1U 1153431 false) (.seq (.seq (rg 9 Z1U 4823447 false) (.cond (.tmp 49) (.exit 3) .skip)) (.seq (rg 10 Z1U 5872023 false) (.seq (rg 11 Z1U 12163479 true) (.seq (rg 12 Z1U 24746391 false) (.block 4 (.loop 40002 [4,5,7,8,9,35,36,37,42,43,68] [] [(.exit 4)] Z35))))))))) (rg 25 Z1U 498071 false))))
noncomputable def Z91 (rd:Option Nat):Key:=.lp 40001 [4,5,35,36,37,42,43] [] Z36 152 rd
noncomputable def Z37:ACode:=(.seq (rg 4 Z1U 279 false) (.seq (.cond (.tmp 38) .skip (.exit 0)) (.seq (.block 1 (.seq (rg 5 Z1U 4503 false) (.seq (rg 6 Z1U 10647 false) (.block 2 (.loop 40001 [4,5,35,36,37,42,43] [] [(.exit 2)] Z36))))) (rg 26 Z1U 1943 false))))
noncomputable def Z92 (rd:Option Nat):Key:=.lp 40000 [4,35,36,37] [] Z37 152 rd
noncomputable def f40_c:ACode:=(.seq (rg 0 Z1U 2 false) (.seq (rg 1 Z1U 5 false) (.seq (rg 2 Z1U 11 true) (.seq (.seq (rg 3 Z1U 39 false) (.block 0 (.loop 40000 [4,35,36,37] [] [(.exit 0)] Z37))) (.seq (rg 27 Z1U 47 false) .ret)))))
noncomputable def ZbT:AFun:={ code:=f40_c,nt:=152,res:=Try.f40.results.toList,fr:=[] }
noncomputable def Z64:Code:=Z0y Try.f41
noncomputable def Z33:ACode:=(.seq (rg 4 Z64 279 false) (.seq (.cond (.tmp 17) .skip (.exit 0)) (.seq (.block 1 (.seq (rg 5 Z64 4503 false) (.seq (rg 6 Z64 10647 false) (.seq (rg 7 Z64 22935 false) (.join [(.normal,[0,4,5,15,16])] (.cond (.tmp 24) (.seq (rg 8 Z64 80279 false) (rg 9 Z64 113047 false)) (rg 10 Z64 63895 false))))))) (rg 11 Z64 1943 false))))
noncomputable def Z8Y (rd:Option Nat):Key:=.lp 41000 [0,4,5,15,16] [] Z33 41 rd
noncomputable def f41_c:ACode:=(.seq (rg 0 Z64 2 false) (.seq (rg 1 Z64 5 false) (.seq (rg 2 Z64 11 false) (.seq (.seq (rg 3 Z64 39 false) (.block 0 (.loop 41000 [0,4,5,15,16] [] [(.exit 0)] Z33))) (.seq (rg 12 Z64 47 false) .ret)))))
noncomputable def ZbS:AFun:={ code:=f41_c,nt:=41,res:=Try.f41.results.toList,fr:=[] }
noncomputable def Z2h:Code:=Z0y Try.f42
noncomputable def Z31:ACode:=(.seq (rg 7 Z2h 72087 false) (.seq (.cond (.tmp 26) .skip (.exit 2)) (.seq (.block 3 (.seq (rg 8 Z2h 1153431 false) (rg 9 Z2h 1677719 false))) (rg 10 Z2h 498071 false))))
noncomputable def Z8W (rd:Option Nat):Key:=.lp 42001 [2,3,4,18,19,20,24,25] [] Z31 90 rd
noncomputable def Z32:ACode:=(.seq (rg 4 Z2h 279 false) (.seq (.cond (.tmp 21) .skip (.exit 0)) (.seq (.block 1 (.seq (rg 5 Z2h 4503 false) (.seq (rg 6 Z2h 10647 false) (.block 2 (.loop 42001 [2,3,4,18,19,20,24,25] [] [(.exit 2)] Z31))))) (rg 11 Z2h 1943 false))))
noncomputable def Z8X (rd:Option Nat):Key:=.lp 42000 [2,3,4,18,19,20] [] Z32 90 rd
noncomputable def Z30:ACode:=(.seq (rg 13 Z2h 559 false) (.seq (.cond (.tmp 42) .skip (.exit 4)) (.seq (.block 5 (.seq (rg 14 Z2h 9007 false) (rg 15 Z2h 13103 false))) (rg 16 Z2h 3887 false))))
noncomputable def Z8V (rd:Option Nat):Key:=.lp 42002 [2,3,4,39,40,41] [] Z30 90 rd
noncomputable def Z2Z:ACode:=(.seq (rg 18 Z2h 1119 false) (.seq (.cond (.tmp 56) .skip (.exit 6)) (.seq (.block 7 (.seq (rg 19 Z2h 18015 false) (.seq (rg 20 Z2h 42591 false) (.seq (rg 21 Z2h 91743 false) (rg 22 Z2h 124511 false))))) (rg 23 Z2h 7775 false))))
noncomputable def Z6y (rd:Option Nat):Key:=.lp 42003 [2,4,53,54,55] [] Z2Z 90 rd
noncomputable def f42_c:ACode:=(.seq (rg 0 Z2h 2 false) (.seq (rg 1 Z2h 5 false) (.seq (rg 2 Z2h 11 false) (.seq (.seq (rg 3 Z2h 39 false) (.block 0 (.loop 42000 [2,3,4,18,19,20] [] [(.exit 0)] Z32))) (.seq (.seq (rg 12 Z2h 79 false) (.block 4 (.loop 42002 [2,3,4,39,40,41] [] [(.exit 4)] Z30))) (.seq (.seq (rg 17 Z2h 159 false) (.block 6 (.loop 42003 [2,4,53,54,55] [] [(.exit 6)] Z2Z))) (.seq (rg 24 Z2h 191 false) .ret)))))))
noncomputable def ZbR:AFun:={ code:=f42_c,nt:=90,res:=Try.f42.results.toList,fr:=[] }
noncomputable def Zly:Code:=Z0y Try.f43
noncomputable def f43_c:ACode:=(.seq (rg 0 Zly 2 false) (.seq (rg 1 Zly 5 false) .ret))
noncomputable def ZbQ:AFun:={ code:=f43_c,nt:=6,res:=Try.f43.results.toList,fr:=[] }
noncomputable def Z8i:Code:=Z0y Try.f44
noncomputable def Z2Y:ACode:=(.seq (.seq (rg 3 Z8i 267 false) (.cond (.tmp 6) .skip (.exit 0))) (.seq (.block 1 (.seq (.seq (rg 5 Z8i 2123 false) (.cond (.tmp 25) (.seq (rg 6 Z8i 9291 false) .ret) .skip)) (rg 7 Z8i 1611 false))) (rg 4 Z8i 459 false)))
noncomputable def Z46 (rd:Option Nat):Key:=.lp 44000 [1,2,3,4] [] Z2Y 30 rd
noncomputable def f44_c:ACode:=(.seq (rg 0 Z8i 2 false) (.seq (rg 1 Z8i 5 false) (.seq (.seq (rg 2 Z8i 19 false) (.block 0 (.loop 44000 [1,2,3,4] [] [(.exit 0),.ret] Z2Y))) (.seq (rg 8 Z8i 23 false) .ret))))
noncomputable def ZbP:AFun:={ code:=f44_c,nt:=30,res:=Try.f44.results.toList,fr:=[] }
noncomputable def Z8h:Code:=Z0y Try.f45
noncomputable def Z2X:ACode:=(.seq (.seq (rg 5 Z8h 535 false) (.cond (.tmp 10) .skip (.exit 0))) (.seq (.block 1 (rg 7 Z8h 1175 false)) (rg 6 Z8h 919 false)))
noncomputable def Z45 (rd:Option Nat):Key:=.lp 45000 [1,2,3,4] [] Z2X 19 rd
noncomputable def f45_c:ACode:=(.seq (rg 0 Z8h 2 false) (.seq (rg 1 Z8h 5 false) (.seq (.seq (rg 2 Z8h 19 false) (.cond (.tmp 7) (.seq (rg 3 Z8h 75 false) .ret) .skip)) (.seq (.seq (rg 4 Z8h 39 false) (.block 0 (.loop 45000 [1,2,3,4] [] [(.exit 0)] Z2X))) (.seq (rg 8 Z8h 47 false) .ret)))))
noncomputable def ZbO:AFun:={ code:=f45_c,nt:=19,res:=Try.f45.results.toList,fr:=[] }
noncomputable def Zlx:Code:=Z0y Try.f54
noncomputable def f54_c:ACode:=(.seq (rg 0 Zlx 2 false) (.seq (rg 1 Zlx 5 false) .ret))
noncomputable def ZbN:AFun:={ code:=f54_c,nt:=8,res:=Try.f54.results.toList,fr:=[] }
noncomputable def Z7N:Code:=Z0y Try.f56
noncomputable def Z2W:ACode:=(.seq (rg 3 Z7N 139 false) (.seq (.cond (.tmp 8) .skip (.exit 0)) (.seq (.block 1 (.seq (rg 4 Z7N 2251 false) (.seq (.seq (rg 5 Z7N 9419 false) (.cond (.tmp 15) (.seq (rg 6 Z7N 38091 false) .ret) .skip)) (rg 7 Z7N 7371 false)))) (rg 8 Z7N 971 false))))
noncomputable def Z44 (rd:Option Nat):Key:=.lp 56000 [2,3,6,7] [] Z2W 23 rd
noncomputable def f56_c:ACode:=(.seq (rg 0 Z7N 2 false) (.seq (rg 1 Z7N 5 false) (.seq (.seq (rg 2 Z7N 19 false) (.block 0 (.loop 56000 [2,3,6,7] [] [(.exit 0),.ret] Z2W))) (.seq (rg 9 Z7N 23 false) .ret))))
noncomputable def ZbM:AFun:={ code:=f56_c,nt:=23,res:=Try.f56.results.toList,fr:=[] }
noncomputable def Z5L:Code:=Z0y Try.f60
noncomputable def Z2U:ACode:=(.seq (rg 6 Z5L 36043 false) (.seq (.cond (.tmp 27) .skip (.exit 2)) (.seq (.block 3 (.seq (rg 7 Z5L 576715 false) (.seq (rg 8 Z5L 1363147 false) (.join [(.normal,[1,2,7,8,22,23,26])] (.cond (.tmp 37) (.seq (rg 9 Z5L 5033163 true) (rg 10 Z5L 7130315 false)) .skip))))) (rg 11 Z5L 249035 false))))
noncomputable def Z8S (rd:Option Nat):Key:=.lp 60001 [1,2,7,8,22,23,26] [] Z2U 65 rd
noncomputable def Z2V:ACode:=(.seq (rg 3 Z5L 139 false) (.seq (.cond (.tmp 24) .skip (.exit 0)) (.seq (.block 1 (.seq (rg 4 Z5L 2251 false) (.seq (rg 5 Z5L 5323 false) (.block 2 (.loop 60001 [1,2,7,8,22,23,26] [] [(.exit 2)] Z2U))))) (rg 12 Z5L 971 false))))
noncomputable def Z8T (rd:Option Nat):Key:=.lp 60000 [1,2,7,22,23] [] Z2V 65 rd
noncomputable def f60_c:ACode:=(.seq (rg 0 Z5L 2 false) (.seq (rg 1 Z5L 5 false) (.seq (.seq (rg 2 Z5L 19 false) (.block 0 (.loop 60000 [1,2,7,22,23] [] [(.exit 0)] Z2V))) (.seq (rg 13 Z5L 23 false) .ret))))
noncomputable def ZbL:AFun:={ code:=f60_c,nt:=65,res:=Try.f60.results.toList,fr:=[] }
noncomputable def Z8g:Code:=Z0y Try.f61
noncomputable def Z2S:ACode:=(.seq (rg 3 Z8g 139 false) (.seq (.cond (.tmp 19) .skip (.exit 0)) (.seq (.block 1 (.seq (rg 4 Z8g 2251 false) (.seq (rg 5 Z8g 5323 false) (.join [(.normal,[0,3,4,5,17,18])] (.cond (.tmp 30) (rg 6 Z8g 11467 true) .skip))))) (rg 7 Z8g 971 false))))
noncomputable def Z8R (rd:Option Nat):Key:=.lp 61000 [0,3,4,5,17,18] [] Z2S 48 rd
noncomputable def f61_c:ACode:=(.seq (rg 0 Z8g 2 false) (.seq (rg 1 Z8g 5 false) (.seq (.seq (rg 2 Z8g 19 true) (.block 0 (.loop 61000 [0,3,4,5,17,18] [] [(.exit 0)] Z2S))) (.seq (rg 8 Z8g 23 false) .ret))))
noncomputable def ZbK:AFun:={ code:=f61_c,nt:=48,res:=Try.f61.results.toList,fr:=[] }
noncomputable def Z0Y:Code:=Z0y Try.f62
noncomputable def Z2P:ACode:=(.seq (.seq (rg 28 Z0Y 17978004223 false) (.cond (.tmp 92) .skip (.exit 4))) (.seq (.block 5 (.seq (rg 30 Z0Y 73812579071 false) (.seq (.seq (rg 31 Z0Y 314330747647 false) (.cond (.tmp 107) (.seq (rg 32 Z0Y 1276403421951 false) .ret) .skip)) (rg 33 Z0Y 245611270911 false)))) (rg 29 Z0Y 30862906111 false)))
noncomputable def ZeJ (rd:Option Nat):Key:=.lp 62002 [2,3,4,5,7,8,9,10,11,14] [] Z2P 135 rd
noncomputable def Z2Q:ACode:=(.seq (.seq (rg 16 Z0Y 4363007 false) (.cond (.tmp 42) .skip (.exit 2))) (.seq (.join [(.ret,[2,3,4,5,7,8,9,10,11]),(.normal,[2,3,4,5,7,8,9,10,11])] (.block 3 (.seq (.seq (rg 18 Z0Y 34771711 false) (.cond (.tmp 48) (.seq (rg 19 Z0Y 152212223 false) .ret) .skip)) (.seq (.seq (rg 20 Z0Y 76714751 false) (.cond (.tmp 54) (.seq (rg 21 Z0Y 311595775 false) (.seq (rg 22 Z0Y 714248959 false) (.exit 3))) .skip)) (.seq (rg 23 Z0Y 93491967 false) (.seq (.seq (rg 24 Z0Y 328372991 false) (.cond (.tmp 85) (.seq (rg 25 Z0Y 1267897087 false) .ret) .skip)) (.seq (rg 26 Z0Y 395481855 false) (.seq (.seq (rg 27 Z0Y 1335005951 false) (.block 4 (.loop 62002 [2,3,4,5,7,8,9,10,11,14] [] [(.exit 4),.ret] Z2P))) (rg 34 Z0Y 1066570495 false))))))))) (rg 17 Z0Y 7508735 false)))
noncomputable def ZeK (rd:Option Nat):Key:=.lp 62001 [2,3,4,5,7,8,9,10,11] [] Z2Q 135 rd
noncomputable def Z2R:ACode:=(.seq (.seq (rg 12 Z0Y 17151 false) (.cond (.tmp 38) .skip (.exit 0))) (.seq (.block 1 (.seq (rg 14 Z0Y 70399 false) (.seq (.seq (rg 15 Z0Y 299775 false) (.block 2 (.loop 62001 [2,3,4,5,7,8,9,10,11] [] [(.exit 2),.ret] Z2Q))) (rg 35 Z0Y 234239 false)))) (rg 13 Z0Y 29439 false)))
noncomputable def ZeL (rd:Option Nat):Key:=.lp 62000 [2,3,4,5,7,8,9] [] Z2R 135 rd
noncomputable def f62_c:ACode:=(.seq (rg 0 Z0Y 2 false) (.seq (.seq (rg 1 Z0Y 9 false) (.cond (.tmp 18) (.seq (rg 2 Z0Y 37 false) .ret) .skip)) (.seq (rg 3 Z0Y 11 false) (.seq (.seq (rg 4 Z0Y 39 false) (.cond (.tmp 24) (.seq (rg 5 Z0Y 151 false) .ret) .skip)) (.seq (rg 6 Z0Y 47 false) (.seq (.seq (rg 7 Z0Y 159 false) (.cond (.tmp 34) (.seq (rg 8 Z0Y 607 false) .ret) .skip)) (.seq (rg 9 Z0Y 191 false) (.seq (rg 10 Z0Y 383 false) (.seq (.seq (rg 11 Z0Y 1279 false) (.block 0 (.loop 62000 [2,3,4,5,7,8,9] [] [(.exit 0),.ret] Z2R))) (.seq (.seq (rg 36 Z0Y 2559 false) (.cond (.tmp 128) (.seq (rg 37 Z0Y 9727 false) .ret) .skip)) (.seq (.seq (rg 38 Z0Y 5119 false) (.cond (.tmp 132) (.seq (rg 39 Z0Y 19455 false) .ret) .skip)) (.seq (rg 40 Z0Y 6143 false) .ret))))))))))))
noncomputable def ZeM:AFun:={ code:=f62_c,nt:=135,res:=Try.f62.results.toList,fr:=[] }
noncomputable def Zlv:Code:=Z0y Try.f63
noncomputable def f63_c:ACode:=(.seq (rg 0 Zlv 2 false) (.seq (rg 1 Zlv 5 false) .ret))
noncomputable def ZbJ:AFun:={ code:=f63_c,nt:=4,res:=Try.f63.results.toList,fr:=[] }
noncomputable def Z9V:Code:=Z0y Try.f64
noncomputable def Z2O:ACode:=(.seq (rg 3 Z9V 139 false) (.seq (.cond (.tmp 8) .skip (.exit 0)) (.seq (.block 1 (.seq (rg 4 Z9V 2251 false) (rg 5 Z9V 3275 false))) (rg 6 Z9V 971 false))))
noncomputable def Z41 (rd:Option Nat):Key:=.lp 64000 [2,3,6,7] [] Z2O 16 rd
noncomputable def f64_c:ACode:=(.seq (rg 0 Z9V 2 false) (.seq (rg 1 Z9V 5 false) (.seq (.seq (rg 2 Z9V 19 false) (.block 0 (.loop 64000 [2,3,6,7] [] [(.exit 0)] Z2O))) (.seq (rg 7 Z9V 23 false) .ret))))
noncomputable def ZbI:AFun:={ code:=f64_c,nt:=16,res:=Try.f64.results.toList,fr:=[] }
noncomputable def Z3v:Code:=Z0y Try.f65
noncomputable def Z2M:ACode:=(.seq (rg 8 Z3v 144175 false) (.seq (.cond (.tmp 30) .skip (.exit 2)) (.seq (.join [(.normal,[0,1,4,5,6,7,9,23,24,25,29])] (.block 3 (.seq (rg 9 Z3v 2306863 false) (.seq (.seq (rg 10 Z3v 9646895 false) (.cond (.tmp 35) (.exit 3) .skip)) (.seq (rg 11 Z3v 11744047 false) (.seq (rg 12 Z3v 24326959 true) (.join [(.normal,[0,1,4,5,6,7,9,23,24,25,29])] (.cond (.tmp 61) (.seq (rg 13 Z3v 83047215 false) (rg 14 Z3v 116601647 false)) (rg 15 Z3v 66269999 false))))))))) (rg 16 Z3v 996143 false))))
noncomputable def Z8P (rd:Option Nat):Key:=.lp 65001 [0,1,4,5,6,7,9,23,24,25,29] [] Z2M 90 rd
noncomputable def Z2N:ACode:=(.seq (rg 5 Z3v 559 false) (.seq (.cond (.tmp 26) .skip (.exit 0)) (.seq (.block 1 (.seq (rg 6 Z3v 9007 false) (.seq (rg 7 Z3v 21295 false) (.block 2 (.loop 65001 [0,1,4,5,6,7,9,23,24,25,29] [] [(.exit 2)] Z2M))))) (rg 17 Z3v 3887 false))))
noncomputable def Z8Q (rd:Option Nat):Key:=.lp 65000 [0,1,4,5,6,7,23,24,25] [] Z2N 90 rd
noncomputable def f65_c:ACode:=(.seq (rg 0 Z3v 2 false) (.seq (rg 1 Z3v 5 true) (.seq (rg 2 Z3v 11 false) (.seq (rg 3 Z3v 23 false) (.seq (.seq (rg 4 Z3v 79 false) (.block 0 (.loop 65000 [0,1,4,5,6,7,23,24,25] [] [(.exit 0)] Z2N))) (.seq (rg 18 Z3v 95 false) (.seq (rg 19 Z3v 191 false) (.seq (rg 20 Z3v 383 false) (.seq (rg 21 Z3v 767 false) .ret)))))))))
noncomputable def ZbH:AFun:={ code:=f65_c,nt:=90,res:=Try.f65.results.toList,fr:=[] }
noncomputable def Z9U:Code:=Z0y Try.f66
noncomputable def Z2L:ACode:=(.seq (rg 3 Z9U 139 false) (.seq (.cond (.tmp 12) .skip (.exit 0)) (.seq (.block 1 (.seq (rg 4 Z9U 2251 false) (rg 5 Z9U 3275 false))) (rg 6 Z9U 971 false))))
noncomputable def Z8O (rd:Option Nat):Key:=.lp 66000 [2,3,10,11] [] Z2L 21 rd
noncomputable def f66_c:ACode:=(.seq (rg 0 Z9U 2 false) (.seq (rg 1 Z9U 5 false) (.seq (.seq (rg 2 Z9U 19 false) (.block 0 (.loop 66000 [2,3,10,11] [] [(.exit 0)] Z2L))) (.seq (rg 7 Z9U 23 false) .ret))))
noncomputable def ZbG:AFun:={ code:=f66_c,nt:=21,res:=Try.f66.results.toList,fr:=[] }
noncomputable def Zlu:Code:=Z0y Try.f67
noncomputable def f67_c:ACode:=(.seq (rg 0 Zlu 2 false) (rg 1 Zlu 3 false))
noncomputable def ZbF:AFun:={ code:=f67_c,nt:=23,res:=Try.f67.results.toList,fr:=[] }
noncomputable def ZeE:Code:=Z0y Try.f68
noncomputable def Z2K:ACode:=(.seq (.seq (rg 1 ZeE 65 false) (.cond (.tmp 13) .skip (.exit 0))) (.block 1 (.seq (rg 2 ZeE 145 true) (rg 3 ZeE 209 false))))
noncomputable def Z8N (rd:Option Nat):Key:=.lp 68000 [0,1] [] Z2K 41 rd
noncomputable def f68_c:ACode:=(.seq (rg 0 ZeE 2 false) (.seq (.block 0 (.loop 68000 [0,1] [] [(.exit 0)] Z2K)) (.seq (rg 4 ZeE 11 false) .ret)))
noncomputable def ZbE:AFun:={ code:=f68_c,nt:=41,res:=Try.f68.results.toList,fr:=[] }
noncomputable def Zlt:Code:=Z0y Try.f69
noncomputable def f69_c:ACode:=(.seq (rg 0 Zlt 2 false) (.seq (rg 1 Zlt 5 false) .ret))
noncomputable def ZbD:AFun:={ code:=f69_c,nt:=5,res:=Try.f69.results.toList,fr:=[] }
noncomputable def Zls:Code:=Z0y Try.f70
noncomputable def f70_c:ACode:=(.seq (rg 0 Zls 2 false) (.seq (rg 1 Zls 5 false) .ret))
noncomputable def ZbC:AFun:={ code:=f70_c,nt:=10,res:=Try.f70.results.toList,fr:=[] }
noncomputable def Zlr:Code:=Z0y Try.f71
noncomputable def f71_c:ACode:=(.seq (rg 0 Zlr 2 false) (.seq (rg 1 Zlr 5 false) .ret))
noncomputable def ZbB:AFun:={ code:=f71_c,nt:=6,res:=Try.f71.results.toList,fr:=[] }
noncomputable def Zlq:Code:=Z0y Try.f72
noncomputable def f72_c:ACode:=(.seq (rg 0 Zlq 2 false) (.seq (rg 1 Zlq 5 false) .ret))
noncomputable def ZbA:AFun:={ code:=f72_c,nt:=5,res:=Try.f72.results.toList,fr:=[] }
noncomputable def Z62:Code:=Z0y Try.f83
noncomputable def Z2J:ACode:=(.seq (.seq (rg 4 Z62 535 false) (.cond (.tmp 10) .skip (.exit 0))) (.seq (.block 1 (.seq (rg 6 Z62 2199 false) (.seq (.seq (rg 7 Z62 9367 false) (.join [(.normal,[0,3,4,5,6])] (.cond (.tmp 28) (rg 8 Z62 21655 false) .skip))) (.seq (rg 9 Z62 11415 false) (.join [(.normal,[0,3,4,5])] (.cond (.tmp 34) (.seq (rg 10 Z62 40087 false) (rg 11 Z62 56471 false)) .skip)))))) (rg 5 Z62 919 false)))
noncomputable def ZeC (rd:Option Nat):Key:=.lp 83000 [0,3,4,5] [] Z2J 43 rd
noncomputable def f83_c:ACode:=(.seq (rg 0 Z62 2 false) (.seq (rg 1 Z62 5 false) (.seq (rg 2 Z62 11 false) (.seq (.seq (rg 3 Z62 39 false) (.block 0 (.loop 83000 [0,3,4,5] [] [(.exit 0)] Z2J))) (.seq (rg 12 Z62 47 false) .ret)))))
noncomputable def ZeD:AFun:={ code:=f83_c,nt:=43,res:=Try.f83.results.toList,fr:=[] }
noncomputable def Z6V:Code:=Z0y Try.f84
noncomputable def Z2I:ACode:=(.seq (.seq (rg 5 Z6V 535 false) (.cond (.tmp 27) .skip (.exit 0))) (.seq (.block 1 (.seq (.seq (rg 7 Z6V 4247 false) (.cond (.tmp 39) (.seq (rg 8 Z6V 18583 false) .ret) .skip)) (rg 9 Z6V 3223 false))) (rg 6 Z6V 919 false)))
noncomputable def ZeA (rd:Option Nat):Key:=.lp 84000 [0,2,3,4,5] [] Z2I 51 rd
noncomputable def f84_c:ACode:=(.seq (rg 0 Z6V 2 false) (.seq (.seq (rg 1 Z6V 9 false) (.cond (.tmp 23) (.seq (rg 2 Z6V 37 false) .ret) .skip)) (.seq (rg 3 Z6V 11 false) (.seq (.seq (rg 4 Z6V 39 false) (.block 0 (.loop 84000 [0,2,3,4,5] [] [(.exit 0),.ret] Z2I))) (.seq (rg 10 Z6V 47 false) .ret)))))
noncomputable def ZeB:AFun:={ code:=f84_c,nt:=51,res:=Try.f84.results.toList,fr:=[] }
noncomputable def Z8f:Code:=Z0y Try.f85
noncomputable def Z2G:ACode:=(.seq (rg 4 Z8f 4505 false) (.seq (.cond (.tmp 18) .skip (.exit 2)) (.seq (.block 3 (.seq (rg 5 Z8f 72089 false) (.seq (rg 6 Z8f 170393 false) (.cond (.tmp 27) .ret .skip)))) (rg 7 Z8f 31129 false))))
noncomputable def Z3X (rd:Option Nat):Key:=.lp 85001 [0,1,3,8,9,16,17] [] Z2G 30 rd
noncomputable def Z2H:ACode:=(.seq (rg 1 Z8f 17 false) (.seq (.cond (.tmp 10) .skip (.exit 0)) (.seq (.block 1 (.seq (rg 2 Z8f 281 false) (.seq (rg 3 Z8f 665 false) (.block 2 (.loop 85001 [0,1,3,8,9,16,17] [] [(.exit 2),.ret] Z2G))))) (rg 8 Z8f 121 false))))
noncomputable def Z3Y (rd:Option Nat):Key:=.lp 85000 [0,1,8,9] [] Z2H 30 rd
noncomputable def f85_c:ACode:=(.seq (rg 0 Z8f 2 false) (.block 0 (.loop 85000 [0,1,8,9] [] [(.exit 0),.ret] Z2H)))
noncomputable def Zbz:AFun:={ code:=f85_c,nt:=30,res:=Try.f85.results.toList,fr:=[] }
noncomputable def Z2g:Code:=Z0y Try.f86
noncomputable def Z2C:ACode:=(.seq (rg 13 Z2g 36863179 false) (.seq (.cond (.tmp 52) .skip (.exit 4)) (.seq (.join [(.normal,[0,2,3,5,6,7,18,19,50,51]),(.ret,[0,2,3,5,6,7,18,19,50,51])] (.block 5 (.seq (rg 14 Z2g 590511307 false) (.seq (.seq (rg 15 Z2g 2469559499 false) (.cond (.tmp 56) (.exit 5) .skip)) (.seq (rg 16 Z2g 3006430411 true) (.seq (rg 17 Z2g 6227655883 false) (.join [(.normal,[0,2,3,5,6,7,18,19,50,51]),(.ret,[0,2,3,5,6,7,18,19,50,51])] (.cond (.tmp 83) (.seq (rg 18 Z2g 21260041419 false) (rg 19 Z2g 29849976011 false)) (.seq (rg 20 Z2g 25555008715 false) (.cond (.tmp 97) (.seq (rg 21 Z2g 85684550859 false) .ret) .skip)))))))))) (rg 22 Z2g 254966987 false))))
noncomputable def Z8I (rd:Option Nat):Key:=.lp 86002 [0,2,3,5,6,7,18,19,50,51] [] Z2C 100 rd
noncomputable def Z2D:ACode:=(.seq (.seq (rg 9 Z2g 556235 false) (.cond (.tmp 35) .skip (.exit 2))) (.seq (.block 3 (.seq (rg 11 Z2g 2260171 true) (.seq (rg 12 Z2g 5405899 false) (.block 4 (.loop 86002 [0,2,3,5,6,7,18,19,50,51] [] [(.exit 4),.ret] Z2C))))) (rg 10 Z2g 949451 false)))
noncomputable def Z8J (rd:Option Nat):Key:=.lp 86001 [0,2,3,5,6,18,19] [] Z2D 100 rd
noncomputable def Z2E:ACode:=(.seq (rg 3 Z2g 139 false) (.seq (.cond (.tmp 20) .skip (.exit 0)) (.seq (.join [(.normal,[0,2,3,18,19]),(.ret,[0,2,3,18,19])] (.block 1 (.seq (rg 4 Z2g 2251 false) (.seq (.seq (rg 5 Z2g 9419 false) (.cond (.tmp 26) (.exit 1) .skip)) (.seq (rg 6 Z2g 11467 false) (.seq (rg 7 Z2g 23755 false) (.seq (rg 8 Z2g 48331 false) (.block 2 (.loop 86001 [0,2,3,5,6,18,19] [] [(.exit 2),.ret] Z2D))))))))) (rg 23 Z2g 971 false))))
noncomputable def Z8K (rd:Option Nat):Key:=.lp 86000 [0,2,3,18,19] [] Z2E 100 rd
noncomputable def f86_c:ACode:=(.seq (rg 0 Z2g 2 false) (.seq (rg 1 Z2g 5 false) (.seq (.seq (rg 2 Z2g 19 false) (.block 0 (.loop 86000 [0,2,3,18,19] [] [(.exit 0),.ret] Z2E))) (.seq (rg 24 Z2g 23 false) .ret))))
noncomputable def Zby:AFun:={ code:=f86_c,nt:=100,res:=Try.f86.results.toList,fr:=[] }
noncomputable def Zgt:Code:=Z0y Try.f91
noncomputable def f91_c:ACode:=(.seq (rg 0 Zgt 2 false) (.seq (.seq (rg 1 Zgt 9 false) (.cond (.tmp 5) (.seq (rg 2 Zgt 37 false) .ret) .skip)) (.seq (rg 3 Zgt 11 false) .ret)))
noncomputable def Zbx:AFun:={ code:=f91_c,nt:=8,res:=Try.f91.results.toList,fr:=[] }
noncomputable def Z61:Code:=Z0y Try.f92
noncomputable def Z2A:ACode:=(.seq (rg 6 Z61 36043 false) (.seq (.cond (.tmp 11) .skip (.exit 2)) (.seq (.block 3 (.seq (rg 7 Z61 576715 false) (.seq (rg 8 Z61 1363147 true) (.join [(.normal,[1,3,4,6,9,10])] (.cond (.tmp 19) (rg 9 Z61 2936011 false) .skip))))) (rg 10 Z61 249035 false))))
noncomputable def Z8G (rd:Option Nat):Key:=.lp 92001 [1,3,4,6,9,10] [] Z2A 25 rd
noncomputable def Z2B:ACode:=(.seq (rg 3 Z61 139 false) (.seq (.cond (.tmp 7) .skip (.exit 0)) (.seq (.block 1 (.seq (rg 4 Z61 2251 false) (.seq (rg 5 Z61 5323 false) (.block 2 (.loop 92001 [1,3,4,6,9,10] [] [(.exit 2)] Z2A))))) (rg 11 Z61 971 false))))
noncomputable def Z8H (rd:Option Nat):Key:=.lp 92000 [1,3,6] [] Z2B 25 rd
noncomputable def f92_c:ACode:=(.seq (rg 0 Z61 2 false) (.seq (rg 1 Z61 5 false) (.seq (.seq (rg 2 Z61 19 false) (.block 0 (.loop 92000 [1,3,6] [] [(.exit 0)] Z2B))) (.seq (rg 12 Z61 23 false) .ret))))
noncomputable def Zbw:AFun:={ code:=f92_c,nt:=25,res:=Try.f92.results.toList,fr:=[] }
noncomputable def bkT:BT AFun:=(.node 60 ZbL (.node 38 ZbV (.node 13 ZbY (.node 11 ZbZ (.node 10 ZeW (.node 3 f3_f .leaf .leaf) .leaf) (.node 12 ZjH .leaf .leaf)) (.node 27 ZbW (.node 16 ZeU (.node 14 ZbX .leaf .leaf) .leaf) (.node 37 ZeS .leaf .leaf))) (.node 43 ZbQ (.node 41 ZbS (.node 40 ZbT (.node 39 ZbU .leaf .leaf) .leaf) (.node 42 ZbR .leaf .leaf)) (.node 54 ZbN (.node 45 ZbO (.node 44 ZbP .leaf .leaf) .leaf) (.node 56 ZbM .leaf .leaf)))) (.node 70 ZbC (.node 65 ZbH (.node 63 ZbJ (.node 62 ZeM (.node 61 ZbK .leaf .leaf) .leaf) (.node 64 ZbI .leaf .leaf)) (.node 68 ZbE (.node 67 ZbF (.node 66 ZbG .leaf .leaf) .leaf) (.node 69 ZbD .leaf .leaf))) (.node 85 Zbz (.node 83 ZeD (.node 72 ZbA (.node 71 ZbB .leaf .leaf) .leaf) (.node 84 ZeB .leaf .leaf)) (.node 91 Zbx (.node 86 Zby .leaf .leaf) (.node 92 Zbw .leaf .leaf)))))
noncomputable def bk (f:FuncId):Option AFun:=bkT.look f
theorem bk_3:bk 3=some f3_f:=by kernel_rfl
theorem ok_3:Z16 P 3 f3_f:=⟨Try.f3,Z4Z,Try.func3,rfl,by kernel_rfl,by kernel_rfl,rfl,rfl⟩
theorem bk_10:bk 10=some ZeW:=by kernel_rfl
theorem ok_10:Z16 P 10 ZeW:=⟨Try.f10,ZgU,Try.func10,rfl,by kernel_rfl,by kernel_rfl,rfl,rfl⟩
theorem bk_11:bk 11=some ZbZ:=by kernel_rfl
theorem ok_11:Z16 P 11 ZbZ:=⟨Try.f11,ZgT,Try.func11,rfl,by kernel_rfl,by kernel_rfl,rfl,rfl⟩
theorem bk_12:bk 12=some ZjH:=by kernel_rfl
theorem ok_12:Z16 P 12 ZjH:=⟨Try.f12,Za9,Try.func12,rfl,by kernel_rfl,by kernel_rfl,rfl,rfl⟩
theorem bk_13:bk 13=some ZbY:=by kernel_rfl
theorem ok_13:Z16 P 13 ZbY:=⟨Try.f13,Z6W,Try.func13,rfl,by kernel_rfl,by kernel_rfl,rfl,rfl⟩
theorem bk_14:bk 14=some ZbX:=by kernel_rfl
theorem ok_14:Z16 P 14 ZbX:=⟨Try.f14,Z50,Try.func14,rfl,by kernel_rfl,by kernel_rfl,rfl,rfl⟩
theorem bk_16:bk 16=some ZeU:=by kernel_rfl
theorem ok_16:Z16 P 16 ZeU:=⟨Try.f16,Z8j,Try.func16,rfl,by kernel_rfl,by kernel_rfl,rfl,rfl⟩
theorem bk_27:bk 27=some ZbW:=by kernel_rfl
theorem ok_27:Z16 P 27 ZbW:=⟨Try.f27,Za7,Try.func27,rfl,by kernel_rfl,by kernel_rfl,rfl,rfl⟩
theorem bk_37:bk 37=some ZeS:=by kernel_rfl
theorem ok_37:Z16 P 37 ZeS:=⟨Try.f37,ZjE,Try.func37,rfl,by kernel_rfl,by kernel_rfl,rfl,rfl⟩
theorem bk_38:bk 38=some ZbV:=by kernel_rfl
theorem ok_38:Z16 P 38 ZbV:=⟨Try.f38,Z65,Try.func38,rfl,by kernel_rfl,by kernel_rfl,rfl,rfl⟩
theorem bk_39:bk 39=some ZbU:=by kernel_rfl
theorem ok_39:Z16 P 39 ZbU:=⟨Try.f39,Z1V,Try.func39,rfl,by kernel_rfl,by kernel_rfl,rfl,rfl⟩
theorem bk_40:bk 40=some ZbT:=by kernel_rfl
theorem ok_40:Z16 P 40 ZbT:=⟨Try.f40,Z1U,Try.func40,rfl,by kernel_rfl,by kernel_rfl,rfl,rfl⟩
theorem bk_41:bk 41=some ZbS:=by kernel_rfl
theorem ok_41:Z16 P 41 ZbS:=⟨Try.f41,Z64,Try.func41,rfl,by kernel_rfl,by kernel_rfl,rfl,rfl⟩
theorem bk_42:bk 42=some ZbR:=by kernel_rfl
theorem ok_42:Z16 P 42 ZbR:=⟨Try.f42,Z2h,Try.func42,rfl,by kernel_rfl,by kernel_rfl,rfl,rfl⟩
theorem bk_43:bk 43=some ZbQ:=by kernel_rfl
theorem ok_43:Z16 P 43 ZbQ:=⟨Try.f43,Zly,Try.func43,rfl,by kernel_rfl,by kernel_rfl,rfl,rfl⟩
theorem bk_44:bk 44=some ZbP:=by kernel_rfl
theorem ok_44:Z16 P 44 ZbP:=⟨Try.f44,Z8i,Try.func44,rfl,by kernel_rfl,by kernel_rfl,rfl,rfl⟩
theorem bk_45:bk 45=some ZbO:=by kernel_rfl
theorem ok_45:Z16 P 45 ZbO:=⟨Try.f45,Z8h,Try.func45,rfl,by kernel_rfl,by kernel_rfl,rfl,rfl⟩
theorem bk_54:bk 54=some ZbN:=by kernel_rfl
theorem ok_54:Z16 P 54 ZbN:=⟨Try.f54,Zlx,Try.func54,rfl,by kernel_rfl,by kernel_rfl,rfl,rfl⟩
theorem bk_56:bk 56=some ZbM:=by kernel_rfl
theorem ok_56:Z16 P 56 ZbM:=⟨Try.f56,Z7N,Try.func56,rfl,by kernel_rfl,by kernel_rfl,rfl,rfl⟩
theorem bk_60:bk 60=some ZbL:=by kernel_rfl
theorem ok_60:Z16 P 60 ZbL:=⟨Try.f60,Z5L,Try.func60,rfl,by kernel_rfl,by kernel_rfl,rfl,rfl⟩
theorem bk_61:bk 61=some ZbK:=by kernel_rfl
theorem ok_61:Z16 P 61 ZbK:=⟨Try.f61,Z8g,Try.func61,rfl,by kernel_rfl,by kernel_rfl,rfl,rfl⟩
theorem bk_62:bk 62=some ZeM:=by kernel_rfl
theorem ok_62:Z16 P 62 ZeM:=⟨Try.f62,Z0Y,Try.func62,rfl,by kernel_rfl,by kernel_rfl,rfl,rfl⟩
theorem bk_63:bk 63=some ZbJ:=by kernel_rfl
theorem ok_63:Z16 P 63 ZbJ:=⟨Try.f63,Zlv,Try.func63,rfl,by kernel_rfl,by kernel_rfl,rfl,rfl⟩
theorem bk_64:bk 64=some ZbI:=by kernel_rfl
theorem ok_64:Z16 P 64 ZbI:=⟨Try.f64,Z9V,Try.func64,rfl,by kernel_rfl,by kernel_rfl,rfl,rfl⟩
theorem bk_65:bk 65=some ZbH:=by kernel_rfl
theorem ok_65:Z16 P 65 ZbH:=⟨Try.f65,Z3v,Try.func65,rfl,by kernel_rfl,by kernel_rfl,rfl,rfl⟩
theorem bk_66:bk 66=some ZbG:=by kernel_rfl
theorem ok_66:Z16 P 66 ZbG:=⟨Try.f66,Z9U,Try.func66,rfl,by kernel_rfl,by kernel_rfl,rfl,rfl⟩
theorem bk_67:bk 67=some ZbF:=by kernel_rfl
theorem ok_67:Z16 P 67 ZbF:=⟨Try.f67,Zlu,Try.func67,rfl,by kernel_rfl,by kernel_rfl,rfl,rfl⟩
theorem bk_68:bk 68=some ZbE:=by kernel_rfl
theorem ok_68:Z16 P 68 ZbE:=⟨Try.f68,ZeE,Try.func68,rfl,by kernel_rfl,by kernel_rfl,rfl,rfl⟩
theorem bk_69:bk 69=some ZbD:=by kernel_rfl
theorem ok_69:Z16 P 69 ZbD:=⟨Try.f69,Zlt,Try.func69,rfl,by kernel_rfl,by kernel_rfl,rfl,rfl⟩
theorem bk_70:bk 70=some ZbC:=by kernel_rfl
theorem ok_70:Z16 P 70 ZbC:=⟨Try.f70,Zls,Try.func70,rfl,by kernel_rfl,by kernel_rfl,rfl,rfl⟩
theorem bk_71:bk 71=some ZbB:=by kernel_rfl
theorem ok_71:Z16 P 71 ZbB:=⟨Try.f71,Zlr,Try.func71,rfl,by kernel_rfl,by kernel_rfl,rfl,rfl⟩
theorem bk_72:bk 72=some ZbA:=by kernel_rfl
theorem ok_72:Z16 P 72 ZbA:=⟨Try.f72,Zlq,Try.func72,rfl,by kernel_rfl,by kernel_rfl,rfl,rfl⟩
theorem bk_83:bk 83=some ZeD:=by kernel_rfl
theorem ok_83:Z16 P 83 ZeD:=⟨Try.f83,Z62,Try.func83,rfl,by kernel_rfl,by kernel_rfl,rfl,rfl⟩
theorem bk_84:bk 84=some ZeB:=by kernel_rfl
theorem ok_84:Z16 P 84 ZeB:=⟨Try.f84,Z6V,Try.func84,rfl,by kernel_rfl,by kernel_rfl,rfl,rfl⟩
theorem bk_85:bk 85=some Zbz:=by kernel_rfl
theorem ok_85:Z16 P 85 Zbz:=⟨Try.f85,Z8f,Try.func85,rfl,by kernel_rfl,by kernel_rfl,rfl,rfl⟩
theorem bk_86:bk 86=some Zby:=by kernel_rfl
theorem ok_86:Z16 P 86 Zby:=⟨Try.f86,Z2g,Try.func86,rfl,by kernel_rfl,by kernel_rfl,rfl,rfl⟩
theorem bk_91:bk 91=some Zbx:=by kernel_rfl
theorem ok_91:Z16 P 91 Zbx:=⟨Try.f91,Zgt,Try.func91,rfl,by kernel_rfl,by kernel_rfl,rfl,rfl⟩
theorem bk_92:bk 92=some Zbw:=by kernel_rfl
theorem ok_92:Z16 P 92 Zbw:=⟨Try.f92,Z61,Try.func92,rfl,by kernel_rfl,by kernel_rfl,rfl,rfl⟩
theorem bk_ok:Z6d P bk:=fun f a e=>BT.look_all (Q:=Z16 P) (t:=bkT) (ai ok_60 (ai (ai ok_38 (ai (ai ok_13 (ai (ai ok_11 (ai (ai ok_10 (ai (ai ok_3 (ai tt tt)) tt)) (ai ok_12 (ai tt tt)))) (ai ok_27 (ai (ai ok_16 (ai (ai ok_14 (ai tt tt)) tt)) (ai ok_37 (ai tt tt)))))) (ai ok_43 (ai (ai ok_41 (ai (ai ok_40 (ai (ai ok_39 (ai tt tt)) tt)) (ai ok_42 (ai tt tt)))) (ai ok_54 (ai (ai ok_45 (ai (ai ok_44 (ai tt tt)) tt)) (ai ok_56 (ai tt tt)))))))) (ai ok_70 (ai (ai ok_65 (ai (ai ok_63 (ai (ai ok_62 (ai (ai ok_61 (ai tt tt)) tt)) (ai ok_64 (ai tt tt)))) (ai ok_68 (ai (ai ok_67 (ai (ai ok_66 (ai tt tt)) tt)) (ai ok_69 (ai tt tt)))))) (ai ok_85 (ai (ai ok_83 (ai (ai ok_72 (ai (ai ok_71 (ai tt tt)) tt)) (ai ok_84 (ai tt tt)))) (ai ok_91 (ai (ai ok_86 (ai tt tt)) (ai ok_92 (ai tt tt)))))))))) e
theorem mixed:P.follows .mixedOrders=true:=by kernel_rfl
def selF:List Nat:=[63,85,57,78,11,35,29,39,40,41,60,66,21,33,34,51,59,73,74,75,80,82,88,15,18,19,20,30,62,83,17,37]
def selL:List Nat:=[14000,14001,15000,15002,16000,17002,17003,18000,18001,19000,19001,24000,24001,26000,26001,26002,26003,27000,3000,3001,3002,3003,31000,31001,32000,33001,34001,34002,36000,39001,4000,40000,40001,40002,40003,4001,4002,4003,41000,42000,42001,42002,42003,44000,45000,46000,47000,49000,49001,50000,51001,51002,52000,52001,55000,56000,59000,59001,59002,61000,62001,62002,64000,65000,65001,66000,68000,7000,7001,73000,73001,73002,74000,74001,75000,75001,75002,75003,75004,77000,77001,8000,80000,82000,84000,87000,88000,89000,89001,89002,89003,89004,89005,92000,92001]
def Zm3 (x:Nat):List Nat->Bool
 | []=>false
 | y::ys=>cond (Nat.beq x y) true (Zm3 x ys)
def sel:Key->Bool
 | .fn f=>!(Zm3 f selF)
 | .lp j _ _ _ _ _=>Zm3 j selL
 | .rnd ..=>false
noncomputable def ext:Fo FH:=fun f args h c=>match args with
 | []=>cond (Zm3 f [10]) (some { e:=.ret,vs:=[.bool true],h:=h,c:=c,df:=[] }) none
 | _=>none
noncomputable abbrev G:Orc FH:=Z6l P bk sel ext
end Go.Proofs.Ytdodippbpdechaa
