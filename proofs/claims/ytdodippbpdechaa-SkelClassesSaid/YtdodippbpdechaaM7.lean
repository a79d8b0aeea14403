/- Parts of a proof: AbAuto AbMin. Conditions: none. -/
import Derived.Test.YtdodippbpdechaaM6
set_option linter.all false
set_option maxRecDepth 100000
set_option maxHeartbeats 4000000
namespace Go.Ab
open Go
variable {P:Program}
theorem Ans.dt {β:Type} {p:Prop} [Decidable p] {x y:Option β} {Q:β->Prop} (h:p) (k:Ans x Q):Ans (Z09 (.bool (decide p)) x y) Q:=by rw [decide_eq_true h]; exact k
theorem Ans.df {β:Type} {p:Prop} [Decidable p] {x y:Option β} {Q:β->Prop} (h:¬p) (k:Ans y Q):Ans (Z09 (.bool (decide p)) x y) Q:=by rw [decide_eq_false h]; exact k
theorem Ans.nt {β:Type} {p:Prop} [Decidable p] {x y:Option β} {Q:β->Prop} (h:¬p) (k:Ans x Q):Ans (Z09 (.bool (!decide p)) x y) Q:=by rw [decide_eq_false h]; exact k
theorem Ans.nf {β:Type} {p:Prop} [Decidable p] {x y:Option β} {Q:β->Prop} (h:p) (k:Ans y Q):Ans (Z09 (.bool (!decide p)) x y) Q:=by rw [decide_eq_true h]; exact k
theorem Ans.ds {β:Type} {p:Prop} [Decidable p] {x y:Option β} {Q:β->Prop} (h1:p->Ans x Q) (h2:¬p->Ans y Q):Ans (Z09 (.bool (decide p)) x y) Q:=by
 by_cases h:p
 · exact .dt h (h1 h)
 · exact .df h (h2 h)
theorem Ans.ns {β:Type} {p:Prop} [Decidable p] {x y:Option β} {Q:β->Prop} (h1:¬p->Ans x Q) (h2:p->Ans y Q):Ans (Z09 (.bool (!decide p)) x y) Q:=by
 by_cases h:p
 · exact .nf h (h2 h)
 · exact .nt h (h1 h)
theorem Ans.gt {β:Type} {b:Bool} {x y:Option β} {Q:β->Prop} (h:b=true) (k:Ans x Q):Ans (Z09 (.bool b) x y) Q:=by rw [h]; exact k
theorem Ans.hs {β:Type} {b:Bool} {x y:Option β} {Q:β->Prop} (h1:b=true->Ans x Q) (h2:b=false->Ans y Q):Ans (Z09 (.bool b) x y) Q:=by
 cases h:b with
 | true=>exact h1 h
 | false=>exact h2 h
theorem Ans.mt {β:Type} {b:Bool} {x y:Option β} {Q:β->Prop} (h:b=false) (k:Ans x Q):Ans (Z09 (.bool (!b)) x y) Q:=by rw [h]; exact k
theorem Ans.ms {β:Type} {b:Bool} {x y:Option β} {Q:β->Prop} (h1:b=false->Ans x Q) (h2:b=true->Ans y Q):Ans (Z09 (.bool (!b)) x y) Q:=by
 cases h:b with
 | true=>exact h2 h
 | false=>exact h1 h
theorem Ans.bb {α β:Type} {v:Value} {x y:Option α} {f:α->Option β} {Q:β->Prop} (h:Ans (Z09 v (x.bind f) (y.bind f)) Q):Ans ((Z09 v x y).bind f) Q:=by
 cases v <;> first | exact h | skip
 rename_i b
 cases b <;> exact h
theorem Ans.bc {α β:Type} {v:Bool} {x y:Option α} {f:α->Option β} {Q:β->Prop} (h:Ans (cond v (x.bind f) (y.bind f)) Q):Ans ((cond v x y).bind f) Q:=by cases v <;> exact h
theorem Ans.ba {α β γ:Type} {x:Option α} {g:α->Option β} {f:β->Option γ} {Q:γ->Prop} (h:Ans (x.bind fun a=>(g a).bind f) Q):Ans ((x.bind g).bind f) Q:=by
 cases x <;> exact h
theorem Ans.bz {α β:Type} {a:α} {f:α->Option β} {Q:β->Prop} (h:Ans (f a) Q):Ans ((some a).bind f) Q:=h
theorem Ans.lsT {β:Type} {k:IntKind} {ty:TypeId} {a b:Int} {f:Value->Option β} {Q:β->Prop} (h:a<b) (x:Ans (f (.bool true)) Q):Ans ((Z00 P .lss ty (.int k a) (.int k b)).bind f) Q:=Ans.step (by rw [aBinOp_lss,decide_eq_true h]) x
theorem Ans.lsF {β:Type} {k:IntKind} {ty:TypeId} {a b:Int} {f:Value->Option β} {Q:β->Prop} (h:¬(a<b)) (x:Ans (f (.bool false)) Q):Ans ((Z00 P .lss ty (.int k a) (.int k b)).bind f) Q:=Ans.step (by rw [aBinOp_lss,decide_eq_false h]) x
theorem Ans.lsS {β:Type} {k:IntKind} {ty:TypeId} {a b:Int} {f:Value->Option β} {Q:β->Prop} (h1:a<b->Ans (f (.bool true)) Q) (h2:¬(a<b)->Ans (f (.bool false)) Q):Ans ((Z00 P .lss ty (.int k a) (.int k b)).bind f) Q:=if h:a<b then Ans.lsT h (h1 h) else Ans.lsF h (h2 h)
theorem Ans.leT {β:Type} {k:IntKind} {ty:TypeId} {a b:Int} {f:Value->Option β} {Q:β->Prop} (h:a<=b) (x:Ans (f (.bool true)) Q):Ans ((Z00 P .leq ty (.int k a) (.int k b)).bind f) Q:=Ans.step (by rw [aBinOp_leq,decide_eq_true h]) x
theorem Ans.leF {β:Type} {k:IntKind} {ty:TypeId} {a b:Int} {f:Value->Option β} {Q:β->Prop} (h:¬(a<=b)) (x:Ans (f (.bool false)) Q):Ans ((Z00 P .leq ty (.int k a) (.int k b)).bind f) Q:=Ans.step (by rw [aBinOp_leq,decide_eq_false h]) x
theorem Ans.leS {β:Type} {k:IntKind} {ty:TypeId} {a b:Int} {f:Value->Option β} {Q:β->Prop} (h1:a<=b->Ans (f (.bool true)) Q) (h2:¬(a<=b)->Ans (f (.bool false)) Q):Ans ((Z00 P .leq ty (.int k a) (.int k b)).bind f) Q:=if h:a<=b then Ans.leT h (h1 h) else Ans.leF h (h2 h)
theorem Ans.grT {β:Type} {k:IntKind} {ty:TypeId} {a b:Int} {f:Value->Option β} {Q:β->Prop} (h:b<a) (x:Ans (f (.bool true)) Q):Ans ((Z00 P .gtr ty (.int k a) (.int k b)).bind f) Q:=Ans.step (by rw [aBinOp_gtr,decide_eq_true h]) x
theorem Ans.grF {β:Type} {k:IntKind} {ty:TypeId} {a b:Int} {f:Value->Option β} {Q:β->Prop} (h:¬(b<a)) (x:Ans (f (.bool false)) Q):Ans ((Z00 P .gtr ty (.int k a) (.int k b)).bind f) Q:=Ans.step (by rw [aBinOp_gtr,decide_eq_false h]) x
theorem Ans.grS {β:Type} {k:IntKind} {ty:TypeId} {a b:Int} {f:Value->Option β} {Q:β->Prop} (h1:b<a->Ans (f (.bool true)) Q) (h2:¬(b<a)->Ans (f (.bool false)) Q):Ans ((Z00 P .gtr ty (.int k a) (.int k b)).bind f) Q:=if h:b<a then Ans.grT h (h1 h) else Ans.grF h (h2 h)
theorem Ans.geT {β:Type} {k:IntKind} {ty:TypeId} {a b:Int} {f:Value->Option β} {Q:β->Prop} (h:b<=a) (x:Ans (f (.bool true)) Q):Ans ((Z00 P .geq ty (.int k a) (.int k b)).bind f) Q:=Ans.step (by rw [aBinOp_geq,decide_eq_true h]) x
theorem Ans.geF {β:Type} {k:IntKind} {ty:TypeId} {a b:Int} {f:Value->Option β} {Q:β->Prop} (h:¬(b<=a)) (x:Ans (f (.bool false)) Q):Ans ((Z00 P .geq ty (.int k a) (.int k b)).bind f) Q:=Ans.step (by rw [aBinOp_geq,decide_eq_false h]) x
theorem Ans.geS {β:Type} {k:IntKind} {ty:TypeId} {a b:Int} {f:Value->Option β} {Q:β->Prop} (h1:b<=a->Ans (f (.bool true)) Q) (h2:¬(b<=a)->Ans (f (.bool false)) Q):Ans ((Z00 P .geq ty (.int k a) (.int k b)).bind f) Q:=if h:b<=a then Ans.geT h (h1 h) else Ans.geF h (h2 h)
theorem Ans.eqT {β:Type} {k:IntKind} {ty:TypeId} {a b:Int} {f:Value->Option β} {Q:β->Prop} (h:a=b) (x:Ans (f (.bool true)) Q):Ans ((Z00 P .eql ty (.int k a) (.int k b)).bind f) Q:=Ans.step (by rw [aBinOp_eql,decide_eq_true h]) x
theorem Ans.eqF {β:Type} {k:IntKind} {ty:TypeId} {a b:Int} {f:Value->Option β} {Q:β->Prop} (h:¬(a=b)) (x:Ans (f (.bool false)) Q):Ans ((Z00 P .eql ty (.int k a) (.int k b)).bind f) Q:=Ans.step (by rw [aBinOp_eql,decide_eq_false h]) x
theorem Ans.eqS {β:Type} {k:IntKind} {ty:TypeId} {a b:Int} {f:Value->Option β} {Q:β->Prop} (h1:a=b->Ans (f (.bool true)) Q) (h2:¬(a=b)->Ans (f (.bool false)) Q):Ans ((Z00 P .eql ty (.int k a) (.int k b)).bind f) Q:=if h:a=b then Ans.eqT h (h1 h) else Ans.eqF h (h2 h)
theorem Ans.neT {β:Type} {k:IntKind} {ty:TypeId} {a b:Int} {f:Value->Option β} {Q:β->Prop} (h:¬(a=b)) (x:Ans (f (.bool true)) Q):Ans ((Z00 P .neq ty (.int k a) (.int k b)).bind f) Q:=Ans.step (by rw [aBinOp_neq,decide_eq_false h]; rfl) x
theorem Ans.neF {β:Type} {k:IntKind} {ty:TypeId} {a b:Int} {f:Value->Option β} {Q:β->Prop} (h:a=b) (x:Ans (f (.bool false)) Q):Ans ((Z00 P .neq ty (.int k a) (.int k b)).bind f) Q:=Ans.step (by rw [aBinOp_neq,decide_eq_true h]; rfl) x
theorem Ans.neS {β:Type} {k:IntKind} {ty:TypeId} {a b:Int} {f:Value->Option β} {Q:β->Prop} (h1:¬(a=b)->Ans (f (.bool true)) Q) (h2:a=b->Ans (f (.bool false)) Q):Ans ((Z00 P .neq ty (.int k a) (.int k b)).bind f) Q:=if h:a=b then Ans.neF h (h2 h) else Ans.neT h (h1 h)
theorem Ans.add {β:Type} {ty:TypeId} {a b:Int} {f:Value->Option β} {Q:β->Prop} (h:-9223372036854775808<=a+b/\a+b<9223372036854775808) (x:Ans (f (.int .i64 (a+b))) Q):Ans ((Z00 P .add ty (.int .i64 a) (.int .i64 b)).bind f) Q:=Ans.step (aBinOp_add ty a b h.1 h.2) x
theorem Ans.sub {β:Type} {ty:TypeId} {a b:Int} {f:Value->Option β} {Q:β->Prop} (h:-9223372036854775808<=a-b/\a-b<9223372036854775808) (x:Ans (f (.int .i64 (a-b))) Q):Ans ((Z00 P .sub ty (.int .i64 a) (.int .i64 b)).bind f) Q:=Ans.step (aBinOp_sub ty a b h.1 h.2) x
theorem Ans.mul {β:Type} {ty:TypeId} {a b:Int} {f:Value->Option β} {Q:β->Prop} (h:-9223372036854775808<=a*b/\a*b<9223372036854775808) (x:Ans (f (.int .i64 (a*b))) Q):Ans ((Z00 P .mul ty (.int .i64 a) (.int .i64 b)).bind f) Q:=Ans.step (aBinOp_mul ty a b h.1 h.2) x
theorem Ans.addN {β:Type} {ty:TypeId} {a:Nat} {f:Value->Option β} {Q:β->Prop} (h:(a:Int)<9223372036854775807) (x:Ans (f (.int .i64 ((a+1:Nat):Int))) Q):Ans ((Z00 P .add ty (.int .i64 (a:Int)) (.int .i64 1)).bind f) Q:=Ans.step (aBinOp_add ty a 1 (by omega) (by omega)) x
theorem Ans.oT {β:Type} {op:BinOp} {ty:TypeId} {a b:Value} {t:Bool} {f:Value->Option β} {Q:β->Prop} (e:Z00 P op ty a b=some (.bool t)) (ht:t=true) (x:Ans (f (.bool true)) Q):Ans ((Z00 P op ty a b).bind f) Q:=Ans.step (by rw [e,ht]) x
theorem Ans.gyT {α β:Type} {b:Bool} {X Y:Option α} {f:α->Option β} {Q:β->Prop} (h:Ans (X.bind f) Q):Ans (((gv (.bool b) b).bind fun w=>cond w X Y).bind f) Q:=by
 cases b <;> exact h
theorem Ans.gyF {α β:Type} {X Y:Option α} {f:α->Option β} {Q:β->Prop} (h:Ans (Y.bind f) Q):Ans (((gv (.bool true) false).bind fun w=>cond w X Y).bind f) Q:=h
theorem Ans.gyG {α β:Type} {X Y:Option α} {f:α->Option β} {Q:β->Prop} (h:Ans (Y.bind f) Q):Ans (((gv (.bool false) true).bind fun w=>cond w X Y).bind f) Q:=h
theorem Ans.r1 {β:Type} {h:FH} {c:Nat} {x:Option Value} {f:Value × FH × Nat->Option β} {Q:β->Prop} (e:Ans (x.bind fun v=>f (v,h,c)) Q):Ans ((Z7F h c x).bind f) Q:=by
 cases x <;> exact e
theorem Ans.pkT {β:Type} {a b:Value} {f:Value->Option β} {Q:β->Prop} (e:Ans (f a) Q):Ans ((Z0C (.bool true) a b).bind f) Q:=e
theorem Ans.pkF {β:Type} {a b:Value} {f:Value->Option β} {Q:β->Prop} (e:Ans (f b) Q):Ans ((Z0C (.bool false) a b).bind f) Q:=e
theorem Ans.btL {β:Type} {x y:Option β} {Q:β->Prop} (k:Ans x Q):Ans (Z09 (.bool true) x y) Q:=k
theorem Ans.bfL {β:Type} {x y:Option β} {Q:β->Prop} (k:Ans y Q):Ans (Z09 (.bool false) x y) Q:=k
def Lk (o:Orc FH) (k:Key) (Q:Rt FH->Prop) (q:Rt FH):Prop:=if q.e = .normal then Ans (o k q.vs q.h q.c q.df) Q else Q q
theorem Ans.loop {o:Orc FH} {k:Key} {L X:Option (Rt FH)} {h:FH} {c:Nat} {df:List Nat} {Q:Rt FH->Prop}
 (N:∀ q r,L=some q->q.e = .normal->o k q.vs (gcR h c df q).h (gcR h c df q).c q.df=some r->X=some r)
 (Z:∀ q,L=some q->q.e ≠ .normal->X=some (gcR h c df q))
 (e:Ans L (fun q=>Lk o k Q (gcR h c df q))):Ans X Q:=by
 obtain ⟨q,hq,hl⟩:=e
 unfold Lk at hl
 rw [Zpw,Zjl,Zoq] at hl
 by_cases hn:q.e = .normal
 · rw [if_pos hn] at hl
   obtain ⟨r,hr,h2⟩:=hl
   exact ⟨r,N q r hq hn hr,h2⟩
 · rw [if_neg hn] at hl
   exact ⟨_,Z q hq hn,hl⟩
theorem Ans.loop' {o:Orc FH} {k:Key} {L X:Option (Rt FH)} {Q:Rt FH->Prop}
 (N:∀ q r,L=some q->q.e = .normal->o k q.vs q.h q.c q.df=some r->X=some r)
 (Z:∀ q,L=some q->q.e ≠ .normal->X=some q)
 (e:Ans L (fun q=>Lk o k Q q)):Ans X Q:=by
 obtain ⟨q,hq,hl⟩:=e
 unfold Lk at hl
 by_cases hn:q.e = .normal
 · rw [if_pos hn] at hl
   obtain ⟨r,hr,h2⟩:=hl
   exact ⟨r,N q r hq hn hr,h2⟩
 · rw [if_neg hn] at hl
   exact ⟨_,Z q hq hn,hl⟩
theorem Lk.next {o:Orc FH} {k:Key} {Q:Rt FH->Prop} {vs:List Value} {h:FH} {c:Nat} {df:List Nat} (e:Ans (o k vs h c df) Q):Lk o k Q { e:=.normal,vs:=vs,h:=h,c:=c,df:=df }:=by
 unfold Lk; rw [if_pos rfl]; exact e
theorem Lk.exit {o:Orc FH} {k:Key} {Q:Rt FH->Prop} {i:Nat} {vs:List Value} {h:FH} {c:Nat} {df:List Nat} (e:Q { e:=.exit i,vs:=vs,h:=h,c:=c,df:=df }):Lk o k Q { e:=.exit i,vs:=vs,h:=h,c:=c,df:=df }:=by
 unfold Lk; rw [if_neg (by simp)]; exact e
theorem Lk.ret {o:Orc FH} {k:Key} {Q:Rt FH->Prop} {vs:List Value} {h:FH} {c:Nat} {df:List Nat} (e:Q { e:=.ret,vs:=vs,h:=h,c:=c,df:=df }):Lk o k Q { e:=.ret,vs:=vs,h:=h,c:=c,df:=df }:=by
 unfold Lk; rw [if_neg (by simp)]; exact e
theorem Ans.next0 {o:Orc FH} {k:Key} {Q:Rt FH->Prop} {A h:FH} {c c':Nat} {vs:List Value} {df:List Nat} (h1:Z0Q c vs) (h2:Z0l c A h) (e:Ans (o k vs A c df) Q) :
 Ans (some { e:=.normal,vs:=vs,h:=h,c:=c',df:=df }) (fun q=>Lk o k Q (gcR A c df q)):=.done (by rw [Z5Y h1 h2]; exact .next e)
theorem Ans.exit0 {o:Orc FH} {k:Key} {Q:Rt FH->Prop} {A h:FH} {c c':Nat} {vs:List Value} {df:List Nat} {i:Nat} (h1:Z0Q c vs) (h2:Z0l c A h) (e:Q { e:=.exit i,vs:=vs,h:=A,c:=c,df:=df }) :
 Ans (some { e:=.exit i,vs:=vs,h:=h,c:=c',df:=df }) (fun q=>Lk o k Q (gcR A c df q)):=.done (by rw [Z5Y h1 h2]; exact .exit e)
theorem Ans.ret0 {o:Orc FH} {k:Key} {Q:Rt FH->Prop} {A h:FH} {c c':Nat} {vs:List Value} {df:List Nat} (h1:Z0Q c vs) (h2:Z0l c A h) (e:Q { e:=.ret,vs:=vs,h:=A,c:=c,df:=df }) :
 Ans (some { e:=.ret,vs:=vs,h:=h,c:=c',df:=df }) (fun q=>Lk o k Q (gcR A c df q)):=.done (by rw [Z5Y h1 h2]; exact .ret e)
theorem Ans.nextB {o:Orc FH} {k:Key} {Q:Rt FH->Prop} {A B h:FH} {c c':Nat} {vs:List Value} {df:List Nat} (e:Ans (o k vs B c df) Q) (h1:Z0Q c vs) (h2:Z0l c B h) (h3:Z0G c A B) :
 Ans (some { e:=.normal,vs:=vs,h:=h,c:=c',df:=df }) (fun q=>Lk o k Q (gcR A c df q)):=.done (by rw [ZdK h1 h2 h3]; exact .next e)
theorem Ans.nextN {o:Orc FH} {k:Key} {Q:Rt FH->Prop} {h:FH} {c:Nat} {vs:List Value} {df:List Nat} (e:Ans (o k vs h c df) Q) :
 Ans (some { e:=.normal,vs:=vs,h:=h,c:=c,df:=df }) (fun q=>Lk o k Q q):=.done (.next e)
theorem Ans.exitN {o:Orc FH} {k:Key} {Q:Rt FH->Prop} {h:FH} {c:Nat} {vs:List Value} {df:List Nat} {i:Nat} (e:Q { e:=.exit i,vs:=vs,h:=h,c:=c,df:=df }) :
 Ans (some { e:=.exit i,vs:=vs,h:=h,c:=c,df:=df }) (fun q=>Lk o k Q q):=.done (.exit e)
theorem Ans.retN {o:Orc FH} {k:Key} {Q:Rt FH->Prop} {h:FH} {c:Nat} {vs:List Value} {df:List Nat} (e:Q { e:=.ret,vs:=vs,h:=h,c:=c,df:=df }) :
 Ans (some { e:=.ret,vs:=vs,h:=h,c:=c,df:=df }) (fun q=>Lk o k Q q):=.done (.ret e)
theorem OkV.mono {c c':Nat} {v:Value} (hc:c<=c') (h:OkV c v):OkV c' v:=by
 obtain ⟨v',hv⟩:=h
 exact ⟨_,VR.mono (μ':=nuD c') (fun i m e=>by
  have:=ZcJ (c:=c) (i:=i) (by rw [e]; simp)
  rw [Za8 this] at e
  rw [Za8 (by omega)]; exact e) hv⟩
theorem OkV.fn (c:Nat) (g:FuncId):OkV c (.func (.func g) #[] #[]):=⟨.func (.func g) #[] #[],.fnc g rfl rfl (fun k x y h=>by simp at h) (fun k x y h=>by simp at h)⟩
@[simp] theorem extV_20 (a b:Value):Z19 (.tuple #[a,b]) 0=some a:=rfl
@[simp] theorem extV_21 (a b:Value):Z19 (.tuple #[a,b]) 1=some b:=rfl
@[simp] theorem extV_30 (a b c:Value):Z19 (.tuple #[a,b,c]) 0=some a:=rfl
@[simp] theorem extV_31 (a b c:Value):Z19 (.tuple #[a,b,c]) 1=some b:=rfl
@[simp] theorem extV_32 (a b c:Value):Z19 (.tuple #[a,b,c]) 2=some c:=rfl
def Z0p:Value->Nat
 | .slice (some a) _ _=>a.block
 | _=>0
def Z4a:Value->Nat
 | .slice (some a) _ _=>a.off
 | _=>0
def capOf:Value->Nat
 | .slice _ _ k=>k
 | _=>0
@[simp] theorem blkOf_sl (b o n k:Nat):Z0p (.slice (some ⟨b,o,none⟩) n k)=b:=rfl
@[simp] theorem offOf_sl (b o n k:Nat):Z4a (.slice (some ⟨b,o,none⟩) n k)=o:=rfl
def gi (L:List Int) (i:Int):Int:=L.getD i.toNat 0
theorem SlI.blk {h:FH} {c:Nat} {s:Value} {sz n:Nat} {L:List Int} (hs:SlI h c s sz n L):0<n->Z0p s<256*c:=by
 obtain ⟨g1,g2,a,cap,rfl,h4⟩:=hs
 intro hn
 rcases h4 with ⟨e,hv⟩ | ⟨b,o,cs,rfl,e2,e3,e4⟩
 · omega
 · exact e2
theorem SlI.ixs {h:FH} {c:Nat} {s:Value} {sz n:Nat} {L:List Int} (hs:SlI h c s sz n L) (k:IntKind) (i:Int) (h1:0<=i) (h2:i<(n:Int)) :
 ixS sz s (.int k i)=some (.pointer (some ⟨Z0p s,Z4a s+i.toNat*sz,none⟩)):=by
 obtain ⟨g1,g2,a,cap,rfl,h4⟩:=hs
 rcases h4 with ⟨e,hv⟩ | ⟨b,o,cs,rfl,e2,e3,e4⟩
 · omega
 · exact ixS_sl sz b o n cap k i h1 h2
theorem SlI.rd {h:FH} {c:Nat} {s:Value} {sz n:Nat} {L:List Int} (hs:SlI h c s sz n L) (j:Nat) (hj:j<n*sz) :
 ld1 h (.pointer (some ⟨Z0p s,Z4a s+j,none⟩))=some (.int .i64 (L.getD j 0)):=by
 obtain ⟨g1,g2,a,cap,rfl,h4⟩:=hs
 rcases h4 with ⟨e,hv⟩ | ⟨b,o,cs,rfl,e2,e3,e4⟩
 · rw [e,Nat.zero_mul] at hj; omega
 · exact Zpm e3 e4 (by omega)
theorem SlI.rd2 {h:FH} {c:Nat} {s:Value} {sz n:Nat} {L:List Int} (hs:SlI h c s sz n L) (j k:Nat) (hj:j+k<n*sz) :
 ld1 h (.pointer (some ⟨Z0p s,Z4a s+j+k,none⟩))=some (.int .i64 (L.getD (j+k) 0)):=by rw [Nat.add_assoc]; exact hs.rd _ hj
theorem SlI.ixs1 {h:FH} {c:Nat} {s:Value} {n:Nat} {L:List Int} (hs:SlI h c s 1 n L) (k:IntKind) (i:Int) (h1:0<=i) (h2:i<(n:Int)) :
 ixS 1 s (.int k i)=some (.pointer (some ⟨Z0p s,Z4a s+i.toNat,none⟩)):=by rw [hs.ixs k i h1 h2,Nat.mul_one]
theorem SlI.rdN {h:FH} {c:Nat} {s:Value} {sz n:Nat} {L:List Int} (hs:SlI h c s sz n L) (q j:Nat) (hq:0<q) (hj:j+q<=n*sz) :
 ldN h q (.pointer (some ⟨Z0p s,Z4a s+j,none⟩))=some (av ((L.drop j).take q)):=by
 obtain ⟨g1,g2,a,cap,rfl,h4⟩:=hs
 rcases h4 with ⟨e,hv⟩ | ⟨b,o,cs,rfl,e2,e3,e4⟩
 · rw [e,Nat.zero_mul] at hj; omega
 · exact ZcL e3 e4 (by omega) hq
theorem SlI.row {h:FH} {c:Nat} {s:Value} {n:Nat} {L:List Int} (hs:SlI h c s 20 n L) (t:Int) (h1:0<=t) (h2:t<(n:Int)) :
 ldN h 20 (.pointer (some ⟨Z0p s,Z4a s+t.toNat*20,none⟩))=some (av (Z0K L t.toNat)):=by
 rw [hs.rdN 20 _ (by omega) (by omega)]
 unfold Z0K
 rw [Nat.mul_comm 20]
def Z46 (Pm:List Int) (i:Nat):List Int:=(Pm.drop (4*i)).take 4
theorem ZcF {Pm:List Int} {n i:Nat} (h:Pm.length=n*4) (hi:i<n):(Z46 Pm i).length=4:=by simp [Z46]; omega
theorem SlI.perm {h:FH} {c:Nat} {s:Value} {n:Nat} {L:List Int} (hs:SlI h c s 4 n L) (t:Int) (h1:0<=t) (h2:t<(n:Int)) :
 ldN h 4 (.pointer (some ⟨Z0p s,Z4a s+t.toNat*4,none⟩))=some (av (Z46 L t.toNat)):=by
 rw [hs.rdN 4 _ (by omega) (by omega)]
 unfold Z46
 rw [Nat.mul_comm 4]
theorem SlI.keep {h h':FH} {c:Nat} {s:Value} {sz n:Nat} {L:List Int} (hs:SlI h c s sz n L) (hh:0<n->h'.f (Z0p s)=h.f (Z0p s)):SlI h' c s sz n L:=by
 by_cases hn:0<n
 · obtain ⟨h1,h2,a,cap,rfl,h4⟩:=hs
   refine ⟨h1,h2,a,cap,rfl, ?_⟩
   rcases h4 with ⟨e,hv⟩ | ⟨b,o,cs,rfl,e2,⟨ro,op,e3⟩,e4⟩
   · omega
   · exact .inr ⟨b,o,cs,rfl,e2,⟨ro,op,(hh hn).trans e3⟩,e4⟩
 · have ho:=hs.okV
   obtain ⟨h1,h2,a,cap,rfl,h4⟩:=hs
   exact ⟨h1,h2,a,cap,rfl,.inl ⟨by omega,ho⟩⟩
theorem SlI.nil (h:FH) (c sz:Nat):SlI h c (.slice none 0 0) sz 0 []:=⟨by simp,by omega,none,0,rfl,.inl ⟨rfl,OkV.sl0 _ _ _⟩⟩
theorem SlI.flat {h:FH} {c:Nat} {s:Value} {sz n:Nat} {L:List Int} (hs:SlI h c s sz n L):Z08 s=true:=by
 obtain ⟨_,_,a,cap,rfl,_⟩:=hs
 rfl
theorem Z9L (v:Value):∀ n:Nat,Z1s [v] n=List.replicate n v
 | 0=>rfl
 | n+1=>by rw [Z1s,Z9L v n]; rfl
theorem Zj7 (sz by':Nat) (z:List Value) (k k':IntKind) (n:Nat) (h:by'*n<=281474976710656) (h2:n<=281474976710656):mkS sz by' z (.int k (n:Int)) (.int k' (n:Int))=some (Z1s z n,n,n):=by
 have h3:(by':Int)*(n:Int)<=281474976710656:=by rw [← Int.natCast_mul]; omega
 have h4:(n:Int)<=281474976710656:=by omega
 have h5:(0:Int)<=n:=by omega
 simp only [mkS,Zoa,Option.bind_some,decide_eq_true h3,decide_eq_true h4,decide_eq_true h5,decide_eq_true (Int.le_refl (n:Int)),Bool.and_self,cond_true,Int.toNat_natCast]
theorem Z5L (sz by':Nat) (k k':IntKind) (n:Nat) (h:by'*n<=281474976710656) (h2:n<=281474976710656):mkS sz by' [.int .i64 0] (.int k (n:Int)) (.int k' (n:Int))=some (ints (List.replicate n 0),n,n):=by
 rw [Zj7 sz by' _ k k' n h h2,Z9L,ints,List.map_replicate]
theorem Zfz (sz by':Nat) (k k':IntKind) (n:Nat) (h:by'*n<=281474976710656) (h2:n<=281474976710656):mkS sz by' [.bool false] (.int k (n:Int)) (.int k' (n:Int))=some (bools (List.replicate n false),n,n):=by
 rw [Zj7 sz by' _ k k' n h h2,Z9L,bools,List.map_replicate]
def Own (h:FH) (b:Nat) (op:Option Nat) (cs:List Value):Prop:=HeapC.get h b=some (.cells false op cs)
theorem Own.same {h h':FH} {c b:Nat} {op:Option Nat} {cs:List Value} (hb:b<256*c) (hs:Z0l c h h') (e:Own h b op cs):Own h' b op cs:=(hs b hb).trans e
theorem Own.new (h:FH) (b:Nat) (cs:List Value):Own (newB h b cs) b none cs:=get_newB_same h b cs
theorem Own.set (h:FH) (b:Nat) (op:Option Nat) (cs:List Value):Own (HeapC.set h b (.cells false op cs)) b op cs:=get_set_same h b _
theorem Z0G.set {c b:Nat} {A B:FH} {op:Option Nat} {ro:Bool} {cs:List Value} (hb:b<256*c) (hc:Z0Q c cs) (h:Z0G c A B):Z0G c A (HeapC.set B b (.cells ro op cs)):=by
 intro i
 rw [Z0c]
 refine ⟨fun hi=>?_,fun hi=>?_⟩
 · rw [if_neg (by omega)]; exact (h i).1 hi
 · split
   · exact .inr hc
   · exact (h i).2 hi
theorem Ans.call {S X:Option (Rt FH)} {h:FH} {c:Nat} {Q:Rt FH->Prop} (hgo:∀ r,S=some r->X=some (gcR h c [] r)) (hS:Ans S (fun r=>Q (gcR h c [] r))):Ans X Q:=by
 obtain ⟨r,e,hq⟩:=hS
 exact ⟨_,hgo r e,hq⟩
theorem Ans.call' {S X:Option (Rt FH)} {Q:Rt FH->Prop} (hgo:∀ r,S=some r->X=some r) (hS:Ans S Q):Ans X Q:=by
 obtain ⟨r,e,hq⟩:=hS
 exact ⟨_,hgo r e,hq⟩
def Zqy (h:FH) (c:Nat) (v:Value) (r:Rt FH):Prop:=r.e = .ret/\r.vs=[v]/\Z0l c h r.h/\r.df=[]
theorem Z0t {X S:Option (Rt FH)} {h:FH} {c:Nat} {v:Value} (hgo:∀ r,S=some r->X=some (gcR h c [] r)) (hv:OkV c v) (hS:Ans S (Zqy h c v)) :
 X=some { e:=.ret,vs:=[v],h:=h,c:=c,df:=[] }:=Z6u hgo hv hS
theorem Ans.pure {h h':FH} {c c':Nat} {v w:Value} (hv:w=v) (hs:Z0l c h h'):Ans (some { e:=.ret,vs:=[w],h:=h',c:=c',df:=[] }) (Zqy h c v):=.done ⟨rfl,by rw [hv],hs,rfl⟩
theorem Z9E {x:Option Nat} {h1 h2:FH} (e:∀ i,x=some i->h1.f i=h2.f i):Z1y x h1 h2=true:=by
 cases x with
 | none=>rfl
 | some i =>
  show @decide (h1.f i=h2.f i) (Classical.propDecidable _)=true
  exact @decide_eq_true _ (Classical.propDecidable _) (e i rfl)
theorem Zb8 {x:List Int} (hx:x.length=5):x=Z0D x::Z0v x:=by
 match x,hx with
 | [a,b,c,d,e],_=>rfl
end Go.Ab

namespace Go.Ab
open Go
@[simp,reducible] def gg {H:Type} (g:Value) (b:Bool) (h:H) (c:Nat) (x:Option (Value × H × Nat)):Option (Value × H × Nat):=(gv g b).bind fun w=>cond w x (some (undef,h,c))
@[simp,reducible] def gd {H:Type} (g:Value) (b:Bool) (h:H) (c:Nat) (x:Option Value):Option (Value × H × Nat):=(gv g b).bind fun w=>cond w (Z7F h c x) (some (undef,h,c))
def pd:Nat->Nat->List Nat
 | 0,_=>[]
 | k+1,n=>cond (Nat.ble n 1) [] ((n % 2)::pd k (n / 2))
@[reducible] def rg (i:Nat) (b:Code) (p:Nat) (d:Bool):ACode:=.region i (opsAt b (pd 100 p)) d
theorem ai {a b:Prop} (h:a) (k:b):a/\b:=And.intro h k
theorem tt:True:=trivial
theorem Ans.lpG {P:Program} {bk:FuncId->Option AFun} {sel:Key->Bool} {ext:Fo FH} {key:Key} {j nt:Nat} {lin:List Nat} {b:ACode} {rd:Option Nat} {vs:List Value} {h:FH} {c:Nat} {df:List Nat} {L:Option (Rt FH)} {Q:Rt FH->Prop}
 (hk:key = .lp j lin [] b nt rd) (hs:sel key=true) (e:jx P (Z7N P bk sel ext) nt rd b (Z0h lin vs) h c df (Klp lin)=L) (k:Ans L (fun q=>Lk (Z7N P bk sel ext) key Q (gcR h c df q))):Ans (Z7N P bk sel ext key vs h c df) Q:=by
 subst hk
 have hg:∀ q,gcS sel (.lp j lin [] b nt rd) h c df q=gcR h c df q:=fun q=>by unfold gcS; rw [hs]; rfl
 refine Ans.loop (L:=L) (fun q r hq hn k=>Z0U (e.trans hq) hn (by rw [hg]; exact k)) (fun q hq hn=>?_) k
 rw [← hg]
 exact Z0V (e.trans hq) hn
theorem Ans.lpN {P:Program} {bk:FuncId->Option AFun} {sel:Key->Bool} {ext:Fo FH} {key:Key} {j nt:Nat} {lin:List Nat} {b:ACode} {rd:Option Nat} {vs:List Value} {h:FH} {c:Nat} {df:List Nat} {L:Option (Rt FH)} {Q:Rt FH->Prop}
 (hk:key = .lp j lin [] b nt rd) (hs:sel key=false) (e:jx P (Z7N P bk sel ext) nt rd b (Z0h lin vs) h c df (Klp lin)=L) (k:Ans L (fun q=>Lk (Z7N P bk sel ext) key Q q)):Ans (Z7N P bk sel ext key vs h c df) Q:=by
 subst hk
 have hg:∀ q,gcS sel (.lp j lin [] b nt rd) h c df q=q:=fun q=>by unfold gcS; rw [hs]; rfl
 refine Ans.loop' (L:=L) (fun q r hq hn k=>Z0U (e.trans hq) hn (by rw [hg]; exact k)) (fun q hq hn=>?_) k
 have:=Z0V (ext:=ext) (sel:=sel) (bk:=bk) (j:=j) (e.trans hq) hn
 rw [hg] at this
 exact this
end Go.Ab
