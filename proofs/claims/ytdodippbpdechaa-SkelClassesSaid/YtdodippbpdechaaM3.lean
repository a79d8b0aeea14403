/- Parts of a proof: AbSup AbReg AbCan AbDraw. Conditions: none. -/
import Derived.Test.YtdodippbpdechaaM2
set_option linter.all false
set_option maxRecDepth 100000
set_option maxHeartbeats 4000000
namespace Go.Ab
open Go
variable {H:Type} [HeapC H] {P:Program} {μ:Mu} {A:H} {w:World}
open Classical in
noncomputable def Mu.on (μ:Mu) (D:Nat->Prop):Mu:=fun i=>if D i then μ i else none
theorem Mu.on_some {D:Nat->Prop} {i:Nat} {m:ME} (h:μ.on D i=some m):D i/\μ i=some m:=by
 unfold Mu.on at h
 split at h
 · rename_i hd; exact ⟨hd,h⟩
 · cases h
theorem Mu.on_of {D:Nat->Prop} {i:Nat} (h:D i):μ.on D i=μ i:=by simp [Mu.on,h]
theorem Mu.on_not {D:Nat->Prop} {i:Nat} (h:¬ D i):μ.on D i=none:=by simp [Mu.on,h]
theorem VR.on {ν:Mu} {D:Nat->Prop} (hD:∀ i,ν i ≠ none->D i) {v v':Value} (h:VR μ v v'):∀ {v'':Value},VR ν v v''->VR (μ.on D) v v':=by
 have hd:∀ {i:Nat} {m:ME},ν i=some m->D i:=fun e=>hD _ (by rw [e]; simp)
 induction h with
 | bool b=>intro _ _; exact .bool b
 | int k n=>intro _ _; exact .int k n
 | str s=>intro _ _; exact .str s
 | ptr0=>intro _ _; exact .ptr0
 | ptr h=>intro _ g; cases g with | ptr g=>exact .ptr (by rw [Mu.on_of (hd g)]; exact h)
 | sl0 l c=>intro _ _; exact .sl0 l c
 | sl h hc hz=>intro _ g; cases g with
  | sl g _ _=>exact .sl (by rw [Mu.on_of (hd g)]; exact h) hc hz
  | slE g=>exact .sl (by rw [Mu.on_of (hd g)]; exact h) hc hz
 | slE h=>intro _ g; cases g with
  | sl g _ _=>exact .slE (by rw [Mu.on_of (hd g)]; exact h)
  | slE g=>exact .slE (by rw [Mu.on_of (hd g)]; exact h)
 | map0=>intro _ _; exact .map0
 | map h=>intro _ g; cases g with | map g=>exact .map (by rw [Mu.on_of (hd g)]; exact h)
 | nilFunc=>intro _ _; exact .nilFunc
 | nilIface=>intro _ _; exact .nilIface
 | iface t _ ih=>intro _ g; cases g with | iface _ g=>exact .iface t (ih g)
 | agg hs _ ih=>intro _ g; cases g with
  | @agg _ zs hs' g=>exact .agg hs (fun k x y hx hy=>by
   have hl:k<zs.size:=by have:=(jD.1 hx).1; omega
   exact ih k x y hx hy (g k x zs[k] hx (qR hl)))
 | tuple hs _ ih=>intro _ g; cases g with
  | @tuple _ zs hs' g=>exact .tuple hs (fun k x y hx hy=>by
   have hl:k<zs.size:=by have:=(jD.1 hx).1; omega
   exact ih k x y hx hy (g k x zs[k] hx (qR hl)))
 | fnc f ha hb _ _ ih1 ih2=>intro _ g; cases g with
  | @fnc _ _ zs _ zs' g1 g2 g3 g4 =>
   refine VR.fnc f ha hb (fun k x y hx hy=>?_) (fun k x y hx hy=>?_)
   · have hl:k<zs.size:=by have:=(jD.1 hx).1; omega
     exact ih1 k x y hx hy (g3 k x zs[k] hx (qR hl))
   · have hl:k<zs'.size:=by have:=(jD.1 hx).1; omega
     exact ih2 k x y hx hy (g4 k x zs'[k] hx (qR hl))
 | yield h=>intro _ g; cases g with | yield g=>exact .yield (by rw [Mu.on_of (hd g)]; exact h)
def Sup (D:Nat->Prop) (v:Value):Prop:=∃ ν v',VR ν v v' /\ ∀ i,ν i ≠ none->D i
theorem Sup.mono {D D':Nat->Prop} (h:∀ i,D i->D' i) {v:Value} (hs:Sup D v):Sup D' v :=
 let ⟨ν,v',a,b⟩:=hs; ⟨ν,v',a,fun i e=>h i (b i e)⟩
theorem VR.onS {D:Nat->Prop} {v v':Value} (h:VR μ v v') (hs:Sup D v):VR (μ.on D) v v' :=
 let ⟨_,_,a,b⟩:=hs; h.on b a
def Zkq (D:Nat->Prop) (b:Option ABlk):Prop:=∃ ν m h,Z7H ν m h b /\ ∀ i,ν i ≠ none->D i
theorem Z7H.onS {D:Nat->Prop} {m:ME} {h:Array Obj} {b:Option ABlk} (hb:Z7H μ m h b) (hs:Zkq D b):Z7H (μ.on D) m h b:=by
 obtain ⟨ν,m',h',hb',hD⟩:=hs
 unfold Z7H at hb hb' ⊢
 split at hb
 · rename_i ro opn c
   obtain ⟨C,E,fr,h1,h2,h3,h4⟩:=hb
   obtain ⟨C',E',fr',g1,g2,g3,g4⟩:=hb'
   refine ⟨C,E,fr,h1,fun k x hx=>?_,h3,h4⟩
   obtain ⟨y,h5,h6⟩:=h2 k x hx
   obtain ⟨y',g5,g6⟩:=g2 k x hx
   exact ⟨y,h5,h6.on hD g6⟩
 · rename_i es
   obtain ⟨es',clk,h1,h2,h3⟩:=hb
   obtain ⟨fs,clk',g1,g2,g3⟩:=hb'
   refine ⟨es',clk,h1,h2,fun k x y hx hy=>?_⟩
   have hl:k<fs.toList.length:=by have:=(jC.1 hx).1; omega
   have a:=h3 k x y hx hy
   have b:=g3 k x fs.toList[k] hx (qI hl)
   exact ⟨a.1.on hD b.1,a.2.on hD b.2⟩
 · rename_i a
   obtain ⟨r,h1,h2⟩:=hb
   obtain ⟨r',g1,g2⟩:=hb'
   refine ⟨r,h1,⟨h2.state,h2.pending,h2.params,h2.assign,h2.body,h2.size,fun t v e=>?_, ?_⟩⟩
   · obtain ⟨v',h3,h4⟩:=h2.vals t v e
     obtain ⟨v'',g3,g4⟩:=g2.vals t v e
     exact ⟨v',h3,h4.on hD g4⟩
   · obtain ⟨m1,h3,h4⟩:=h2.dfr
     obtain ⟨m2,g3,g4⟩:=g2.dfr
     exact ⟨m1,by rw [Mu.on_of (hD _ (by rw [g3]; simp))]; exact h3,h4⟩
 · exact hb
 · trivial
 · trivial
theorem Zas {tm tm':Tm} {x:Operand} (h:∀ t,x = .tmp t->tm t=tm' t):Z0j tm x=Z0j tm' x:=by
 cases x with
 | tmp t=>exact h t rfl
 | _=>rfl
theorem Z48 {tm tm':Tm}:∀ {xs:List Operand},(∀ x ∈ xs,Z0j tm x=Z0j tm' x)->Z1I tm xs=Z1I tm' xs
 | [],_=>rfl
 | x::xs,h=>by simp only [Z1I,h x (by simp),Z48 (xs:=xs) (fun y hy=>h y (List.mem_cons_of_mem _ hy))]
theorem Z5N {tm tm':Tm}:∀ {xs:List (Nat × Operand)},(∀ x ∈ xs,Z0j tm x.2=Z0j tm' x.2)->evalPs tm xs=evalPs tm' xs
 | [],_=>rfl
 | (i,x)::xs,h=>by simp only [evalPs,h (i,x) (by simp),Z5N (xs:=xs) (fun y hy=>h y (List.mem_cons_of_mem _ hy))]
theorem Z7R {tm tm':Tm} {x:Option Operand} (h:∀ y,x=some y->Z0j tm y=Z0j tm' y):Zek tm x=Zek tm' x:=by
 cases x with
 | none=>rfl
 | some y=>simp only [Zek,h y rfl]
theorem Zcl {o:Orc H} {id:Nat} {tm tm':Tm} {h:H} {c:Nat} {op:Op} (he:∀ x ∈ op.operands.toList,Z0j tm x=Z0j tm' x):Z0u P o id tm h c op=Z0u P o id tm' h c op:=by
 cases op with
 | call k =>
  have h1:Z1I tm k.args.toList=Z1I tm' k.args.toList:=Z48 fun x hx=>he x (by
   simp only [Op.operands,Call.operands]; cases k.callee <;> simp <;> simp at hx <;> simp [hx])
  have h2:∀ f,k.callee = .value f->Z0j tm f=Z0j tm' f:=fun f hf=>he f (by simp [Op.operands,Call.operands,hf])
  simp only [Z0u,h1]
  congr 1
  funext args
  cases hk:k.callee with
  | value f=>simp only [h2 f hk]
  | _=>rfl
 | build t ps=>simp only [Z0u,Z5N (tm:=tm) (tm':=tm') (xs:=ps.toList) (fun x hx=>he x.2 (by simp only [Op.operands,List.toList_toArray,List.mem_map]; exact ⟨x,hx,rfl⟩))]
 | buildSlice t l ps=>simp only [Z0u,Z5N (tm:=tm) (tm':=tm') (xs:=ps.toList) (fun x hx=>he x.2 (by simp only [Op.operands,List.toList_toArray,List.mem_map]; exact ⟨x,hx,rfl⟩))]
 | makeFunc fn first cap =>
  simp only [Z0u]
  rw [Z48 (tm:=tm) (tm':=tm') (xs:=first.toList) (fun x hx=>he x (by simp [Op.operands]; exact .inl (by simpa using hx))),
   Z48 (tm:=tm) (tm':=tm') (xs:=cap.toList) (fun x hx=>he x (by simp [Op.operands]; exact .inr (by simpa using hx)))]
 | makeMap t r =>
  cases r with
  | none=>rfl
  | some x=>simp only [Z0u,he x (by simp [Op.operands])]
 | slice t x lo hi mx =>
  simp only [Z0u]
  rw [he x (by simp [Op.operands]),Z7R (tm:=tm) (tm':=tm') (x:=lo) (fun y hy=>he y (by simp [Op.operands,hy])),
   Z7R (tm:=tm) (tm':=tm') (x:=hi) (fun y hy=>he y (by simp [Op.operands,hy])),Z7R (tm:=tm) (tm':=tm') (x:=mx) (fun y hy=>he y (by simp [Op.operands,hy]))]
 | move x=>simp only [Z0u,he x (by simp [Op.operands])]
 | assign x=>simp only [Z0u,he x (by simp [Op.operands])]
 | box _ x=>simp only [Z0u,he x (by simp [Op.operands])]
 | load _ x=>simp only [Z0u,he x (by simp [Op.operands])]
 | nilCheck x=>simp only [Z0u,he x (by simp [Op.operands])]
 | unOp _ _ x=>simp only [Z0u,he x (by simp [Op.operands])]
 | convert _ _ x=>simp only [Z0u,he x (by simp [Op.operands])]
 | sliceToArrayPointer _ x=>simp only [Z0u,he x (by simp [Op.operands])]
 | makeInterface _ x=>simp only [Z0u,he x (by simp [Op.operands])]
 | fieldAddr _ x _=>simp only [Z0u,he x (by simp [Op.operands])]
 | field _ x _=>simp only [Z0u,he x (by simp [Op.operands])]
 | extract x _=>simp only [Z0u,he x (by simp [Op.operands])]
 | pick k x y=>simp only [Z0u,he k (by simp [Op.operands]),he x (by simp [Op.operands]),he y (by simp [Op.operands])]
 | store _ x y=>simp only [Z0u,he x (by simp [Op.operands]),he y (by simp [Op.operands])]
 | binOp _ _ x y _=>simp only [Z0u,he x (by simp [Op.operands]),he y (by simp [Op.operands])]
 | makeSlice _ x y=>simp only [Z0u,he x (by simp [Op.operands]),he y (by simp [Op.operands])]
 | indexAddr _ x y=>simp only [Z0u,he x (by simp [Op.operands]),he y (by simp [Op.operands])]
 | index _ x y=>simp only [Z0u,he x (by simp [Op.operands]),he y (by simp [Op.operands])]
 | lookup _ x y _=>simp only [Z0u,he x (by simp [Op.operands]),he y (by simp [Op.operands])]
 | mapUpdate _ m k v=>simp only [Z0u,he m (by simp [Op.operands]),he k (by simp [Op.operands]),he v (by simp [Op.operands])]
 | insert _ m k v=>simp only [Z0u,he m (by simp [Op.operands]),he k (by simp [Op.operands]),he v (by simp [Op.operands])]
 | _=>rfl
variable {H':Type} [HeapC H']
theorem Z1j {h:H} {c:Nat} {v:Option Value} {x:Value} {h1:H} {c1:Nat}:Z7F h c v=some (x,h1,c1) ↔ v=some x/\h1=h/\c1=c:=by
 cases v with
 | none=>simp [Z7F]
 | some y=>simp [Z7F]; intro _; constructor <;> rintro ⟨a,b⟩ <;> exact ⟨a.symm,b.symm⟩
theorem Zoz {o:Orc H} {id:Nat} {tm:Tm} {h h1:H} {c c1:Nat} {op:Op} {v:Value} (hc:cls op=0) (e:Z0u P o id tm h c op=some (v,h1,c1)) :
 h1=h/\c1=c /\ ∀ (o':Orc H') (h':H') (c':Nat),Z0u P o' id tm h' c' op=some (v,h',c'):=by
 cases op with
 | move x=>simp only [Z0u,Z1j] at e ⊢; exact ⟨e.2.1,e.2.2,fun _ _ _=>⟨e.1,trivial,trivial⟩⟩
 | assign x=>simp only [Z0u,Z1j] at e ⊢; exact ⟨e.2.1,e.2.2,fun _ _ _=>⟨e.1,trivial,trivial⟩⟩
 | pick k x y =>
  simp only [Z0u,qA] at e ⊢
  obtain ⟨kv,hk,xv,hx,yv,hy,e⟩:=e
  split at e
  · cases e; exact ⟨rfl,rfl,fun _ _ _=>⟨_,hk,_,hx,_,hy,rfl⟩⟩
  · cases e
 | build t ps =>
  simp only [Z0u,qA,Z1j] at e ⊢
  obtain ⟨a,ha,e1,e2,e3⟩:=e
  exact ⟨e2,e3,fun _ _ _=>⟨a,ha,e1,trivial,trivial⟩⟩
 | nilCheck x =>
  simp only [Z0u,qA,Z1j] at e ⊢
  obtain ⟨a,ha,e1,e2,e3⟩:=e
  exact ⟨e2,e3,fun _ _ _=>⟨a,ha,e1,trivial,trivial⟩⟩
 | binOp bo t x y yt =>
  simp only [Z0u,qA,Z1j] at e ⊢
  obtain ⟨a,ha,b,hb,e1,e2,e3⟩:=e
  exact ⟨e2,e3,fun _ _ _=>⟨a,ha,b,hb,e1,trivial,trivial⟩⟩
 | unOp u t x =>
  simp only [Z0u,qA,Z1j] at e ⊢
  obtain ⟨a,ha,e1,e2,e3⟩:=e
  exact ⟨e2,e3,fun _ _ _=>⟨a,ha,e1,trivial,trivial⟩⟩
 | convert s d x =>
  simp only [Z0u,qA,Z1j] at e ⊢
  obtain ⟨b,hb,a,ha,e1,e2,e3⟩:=e
  exact ⟨e2,e3,fun _ _ _=>⟨b,hb,a,ha,e1,trivial,trivial⟩⟩
 | sliceToArrayPointer t x =>
  simp only [Z0u,qA,Z1j] at e ⊢
  obtain ⟨a,ha,e1,e2,e3⟩:=e
  exact ⟨e2,e3,fun _ _ _=>⟨a,ha,e1,trivial,trivial⟩⟩
 | makeInterface t x =>
  simp only [Z0u,qA] at e ⊢
  obtain ⟨a,ha,e⟩:=e
  split at e
  · cases e
  · cases e
  · cases e; exact ⟨rfl,rfl,fun _ _ _=>⟨_,ha,rfl⟩⟩
 | makeFunc fn first cap =>
  cases fn with
  | func g =>
   simp only [Z0u,qA] at e ⊢
   obtain ⟨a,ha,b,hb,e⟩:=e
   cases e
   exact ⟨rfl,rfl,fun _ _ _=>⟨a,ha,b,hb,rfl⟩⟩
  | _=>simp [Z0u] at e
 | fieldAddr t x f =>
  simp only [Z0u,qA,Z1j] at e ⊢
  obtain ⟨a,ha,e1,e2,e3⟩:=e
  exact ⟨e2,e3,fun _ _ _=>⟨a,ha,e1,trivial,trivial⟩⟩
 | field t x f =>
  simp only [Z0u,qA,Z1j] at e ⊢
  obtain ⟨a,ha,e1,e2,e3⟩:=e
  exact ⟨e2,e3,fun _ _ _=>⟨a,ha,e1,trivial,trivial⟩⟩
 | indexAddr t x i =>
  simp only [Z0u,qA,Z1j] at e ⊢
  obtain ⟨a,ha,b,hb,e1,e2,e3⟩:=e
  exact ⟨e2,e3,fun _ _ _=>⟨a,ha,b,hb,e1,trivial,trivial⟩⟩
 | index t x i =>
  simp only [Z0u,qA,Z1j] at e ⊢
  obtain ⟨a,ha,b,hb,e1,e2,e3⟩:=e
  exact ⟨e2,e3,fun _ _ _=>⟨a,ha,b,hb,e1,trivial,trivial⟩⟩
 | extract t i =>
  simp only [Z0u,qA] at e ⊢
  obtain ⟨a,ha,e⟩:=e
  split at e
  · simp only [qA] at e
    obtain ⟨x,hx,e⟩:=e
    cases e
    exact ⟨rfl,rfl,fun _ _ _=>⟨_,ha,by simp [hx]⟩⟩
  · cases e
 | call k =>
  obtain ⟨callee,args,ats⟩:=k
  cases callee with
  | builtin b =>
   cases b with
   | max =>
    simp only [Z0u,qA,Z0T] at e ⊢
    obtain ⟨avs,ha,r,⟨u,hu,hr⟩,e⟩:=e
    cases hr; cases e
    exact ⟨rfl,rfl,fun _ _ _=>⟨avs,ha,_,⟨u,hu,rfl⟩,rfl⟩⟩
   | min =>
    simp only [Z0u,qA,Z0T] at e ⊢
    obtain ⟨avs,ha,r,⟨u,hu,hr⟩,e⟩:=e
    cases hr; cases e
    exact ⟨rfl,rfl,fun _ _ _=>⟨avs,ha,_,⟨u,hu,rfl⟩,rfl⟩⟩
   | _=>simp [cls] at hc
  | _=>simp [cls] at hc
 | _=>simp [cls] at hc
theorem ZaE {h:H} {h':H'} {i:Nat} (e:HeapC.get h' i=HeapC.get h i):Z0s h' i=Z0s h i:=by simp only [Z0s,e]
theorem ZoA {o:Orc H} {id:Nat} {tm:Tm} {h h1:H} {c c1:Nat} {op:Op} {v:Value} (hc:cls op=1) (e:Z0u P o id tm h c op=some (v,h1,c1)) :
 h1=h/\c1=c /\ ∀ (o':Orc H') (h':H') (c':Nat),(∀ x,Za1 tm op=some x->HeapC.get h' x=HeapC.get h x)->Z0u P o' id tm h' c' op=some (v,h',c'):=by
 cases op with
 | load t x =>
  simp only [Z0u,qA,Z1j] at e ⊢
  obtain ⟨a,ha,e1,e2,e3⟩:=e
  refine ⟨e2,e3,fun _ h' _ hg=>⟨a,ha, ?_,trivial,trivial⟩⟩
  have hp:∀ p:Nat × Nat,Z2N a=some p->Z0s h' p.1=Z0s h p.1:=by
   intro p hp
   unfold Z2N at hp
   split at hp
   · cases hp; exact ZaE (hg _ (by simp [Za1,ha,Z2O]))
   · cases hp
  rw [← e1]
  simp only [Zdb,ldN,ld1]
  cases hp':Z2N a with
  | none=>rfl
  | some p=>simp only [qD,Z0S,Z6j,hp p hp']
 | lookup t m k ok =>
  simp only [Z0u,qA,Z1j] at e ⊢
  obtain ⟨mv,hm,kv,hk,e1,e2,e3⟩:=e
  refine ⟨e2,e3,fun _ h' _ hg=>⟨mv,hm,kv,hk, ?_,trivial,trivial⟩⟩
  rw [← e1]
  have hq:∀ i,mv = .map (some i)->HeapC.get h' i=HeapC.get h i:=fun i hi=>hg i (by simp [Za1,hm,Z2O,hi])
  unfold Z5Q
  congr 1
  funext ke
  congr 1
  congr 1
  funext z
  congr 1
  congr 1
  split
  · rfl
  · rename_i i
    rw [hq i rfl]
  · rfl
 | slice t x lo hi mx =>
  simp only [Z0u,qA,Z1j] at e ⊢
  obtain ⟨xv,hx,l,hl,hh,hhi,m,hm,e1,e2,e3⟩:=e
  refine ⟨e2,e3,fun _ h' _ hg=>⟨xv,hx,l,hl,hh,hhi,m,hm, ?_,trivial,trivial⟩⟩
  rw [← e1]
  have hq:∀ a len cap sz,xv = .slice a len cap->Zkr h' sz a=Zkr h sz a:=by
   intro a len cap sz ha
   cases a with
   | none=>rfl
   | some a=>simp only [Zkr,hg a.block (by simp [Za1,hx,Z2O,ha])]
  unfold ZdX
  split
  · rfl
  · congr 1
    funext sz
    unfold slS
    split
    · rename_i a len cap
      rw [hq a len cap sz rfl]
    · rfl
  · rfl
  · rfl
 | call k =>
  obtain ⟨callee,args,ats⟩:=k
  cases callee with
  | builtin b =>
   cases b with
   | len =>
    simp only [Z0u,qA,Z0T] at e ⊢
    obtain ⟨avs,ha,r,hr,e⟩:=e
    split at hr
    · rename_i t ts x xs hts
      simp only [qA] at hr
      obtain ⟨u,hu,hr⟩:=hr
      cases hr; cases e
      refine ⟨rfl,rfl,fun _ h' _ hg=>⟨_,ha,(u,h'), ?_,rfl⟩⟩
      have hq:∀ i,x = .map (some i)->HeapC.get h' i=HeapC.get h i:=by
       intro i hi
       refine hg i ?_
       simp only [Za1]
       cases hal:args.toList with
       | nil=>rw [hal] at ha; simp [Z1I] at ha
       | cons y ys =>
        rw [hal] at ha
        simp only [Z1I,qA] at ha
        obtain ⟨v0,h0,vs,_,h2⟩:=ha
        cases h2
        have:args[0]? = some y:=by rw [← Array.getElem?_toList,hal]; rfl
        rw [this]
        simp only [qD,h0,hi,Z2O]
      rw [hts]
      simp only [qA]
      refine ⟨u, ?_,rfl⟩
      rw [← hu]
      unfold ZdZ
      split
      · rfl
      · rfl
      · rfl
      · rfl
      · rename_i i _
        rw [hq _ rfl]
      · rfl
    · cases hr
   | _=>simp [cls] at hc
  | _=>simp [cls] at hc
 | _=>simp [cls] at hc
theorem ZoB {o:Orc H} {id:Nat} {tm:Tm} {h h1:H} {c c1:Nat} {op:Op} {v:Value} (hc:cls op=2) (e:Z0u P o id tm h c op=some (v,h1,c1)) :
 c1=c /\ ∃ b,h1=HeapC.set h id b/\wrB (some b)=true /\ ∀ (o':Orc H') (h':H') (c':Nat),Z0u P o' id tm h' c' op=some (v,HeapC.set h' id b,c'):=by
 cases op with
 | alloc t =>
  simp only [Z0u,qA] at e ⊢
  obtain ⟨z,hz,e⟩:=e
  obtain ⟨hp,e1⟩:=Z06 e
  cases e1
  exact ⟨rfl,_,rfl,rfl,fun _ _ _=>⟨z,hz,by rw [hp]; rfl⟩⟩
 | box t x =>
  simp only [Z0u,qA] at e ⊢
  obtain ⟨z,hz,e⟩:=e
  obtain ⟨hp,e1⟩:=Z06 e
  cases e1
  exact ⟨rfl,_,rfl,rfl,fun _ _ _=>⟨z,hz,by rw [hp]; rfl⟩⟩
 | buildSlice t len ps =>
  simp only [Z0u,qA] at e ⊢
  obtain ⟨vs,hvs,cs,hcs,e⟩:=e
  cases e
  exact ⟨rfl,_,rfl,rfl,fun _ _ _=>⟨vs,hvs,cs,hcs,rfl⟩⟩
 | makeMap t r =>
  cases r with
  | none =>
   simp only [Z0u] at e ⊢
   cases e
   exact ⟨rfl,_,rfl,rfl,fun _ _ _=>rfl⟩
  | some x =>
   simp only [Z0u,qA] at e ⊢
   obtain ⟨ke,hke,v,hv,n,hn,e⟩:=e
   cases e
   exact ⟨rfl,_,rfl,rfl,fun _ _ _=>⟨ke,hke,v,hv,n,hn,rfl⟩⟩
 | makeSlice t l k =>
  simp only [Z0u,qA] at e ⊢
  obtain ⟨lv,hl,kv,hk,r,hr,e⟩:=e
  cases e
  exact ⟨rfl,_,rfl,rfl,fun _ _ _=>⟨lv,hl,kv,hk,r,hr,rfl⟩⟩
 | call k =>
  obtain ⟨callee,args,ats⟩:=k
  cases callee with
  | builtin b=>cases b <;> simp [cls] at hc
  | _=>simp [cls] at hc
 | _=>simp [cls] at hc
theorem Ze4 {ops:Array Oper} {tm:Tm} {a:Act} {o:Oper} {b:Bool} (e:Z13 ops tm o=some b)
 (ht:∀ j want d v,o.guard=some (j,want)->(ops[j]?).bind (·.dst)=some d->tm d=some v -> ∃ v',a.tmps[d]? = some v' /\ ∃ μ,VR μ v v') :
 Region.wanted o (yielded ops a.tmps)=b:=by
 unfold Z13 at e
 unfold Region.wanted
 cases hg:o.guard with
 | none=>rw [hg] at e; simpa using e
 | some p =>
  obtain ⟨j,want⟩:=p
  rw [hg] at e
  simp only [qA] at e
  obtain ⟨d,⟨oo,hoo,hd⟩,v,hv,e⟩:=e
  have hd':(ops[j]?).bind (·.dst)=some d:=by rw [hoo]; simpa using hd
  obtain ⟨v',h1,μ,h2⟩:=ht j want d v hg hd' hv
  simp only [yielded,hd',qD,h1]
  cases h2 <;> simp at e ⊢ <;> first | exact e | (subst e; simp)
end Go.Ab

namespace Go.Ab
open Go
variable {H:Type} [HeapC H] {P:Program} {μ:Mu} {A:H} {w:World}
theorem Z1i {o:Orc H} {ops:Array Oper} {base i nt:Nat} {tm:Tm} {h:H} {c:Nat} {op:Oper} {r:Value × H × Nat} (e:Z15 P o ops base i nt tm h c op=some r) :
 ∃ b,Z13 ops tm op=some b/\i<256/\(∀ d,op.dst=some d->d<nt)/\((b=true/\Z0u P o (256*base+i) tm h c op.op=some r) ∨ (b=false/\r=(undef,h,c))):=by
 simp only [Z15,qA] at e
 obtain ⟨b,hb,e⟩:=e
 obtain ⟨hg,e1⟩:=Z06 e
 clear e
 simp only [qN] at hg
 refine ⟨b,hb,by have:=hg.1; simp [Nat.blt] at this; omega,fun d hd=>?_, ?_⟩
 · have:=hg.2
   rw [hd] at this
   have h2:Nat.ble (d+1) nt=true:=this
   exact qP h2
 · cases b
   · exact .inr ⟨rfl,by cases e1; rfl⟩
   · exact .inl ⟨rfl,e1⟩
theorem VR.undef (μ:Mu):VR μ Go.undef Go.undef:=VR.tuple_iff.2 (VRs.nil μ)
theorem Zcx {o:Orc H} (hO:OS P o) {ops:Array Oper} {base i nt c c':Nat} {tm:Tm} {oper:Oper} {v:Value} {A':H} {a:Act} (hi:ops[i]? = some oper)
 (e:Z15 P o ops base i nt tm A c oper=some (v,A',c')) (ht:TmR μ tm nt a.tmps) (hR:R μ A w) (hid:μ (256*base+i)=none) (hfr:Z22 μ c)
 {ro:Option Nat} {n:Nat} {K:Act->World->Prop} {Q:Exit->Act->World->Prop}
 (hK:∀ v' μ' w',VR μ' v v'->Ext μ A c w (fun j=>j=256*base+i/\2<=cls oper.op/\Z13 ops tm oper=some true) μ' A' c' w'->K (a.put oper.dst v') w'):wpOpIn (wd ro) n P ops Q i K a w:=by
 obtain ⟨b,hb,hlt,hd,he⟩:=Z1i e
 have hw:=Ze4 (a:=a) hb (fun j want d v' _ _ hv=>let ⟨v'',h1,h2⟩:=ht.val d v' hv; ⟨v'',h1,μ,h2⟩)
 simp only [wpOpIn,hi,hw]
 rcases he with ⟨rfl,he⟩ | ⟨rfl,he⟩
 · simp only [if_true]
   exact ZnU hO he ht hR hid hfr (fun v' μ' w' hv hE=>hK v' μ' w' hv (hE.weaken (fun j h=>⟨h.1,h.2,hb⟩)))
 · cases he
   simp only [Bool.false_eq_true,if_false]
   exact ⟨fun _ _=>trivial,hK _ μ w (VR.undef μ) (Ext.refl hR)⟩
theorem Ziv {ops:Array Oper} {i:Nat} {K:Act->World->Prop} {a:Act} (h:wpOpIn (wd none) 0 P ops (fun _ _ _=>False) i K a w):∃ a' w',K a' w':=by
 have hfalse:¬ LetsOut (fun (_:Exit) (_:Act) (_:World)=>False):=fun ⟨_,_,h⟩=>h
 unfold wpOpIn at h
 split at h
 · exact ⟨_,_,h⟩
 · rename_i o ho
   split at h
   · have h2:=h.2
     generalize (o.semAt (wd none).round a.eval).run P w=r at h2
     cases r with
     | ok x w' =>
      cases x with
      | enter f args =>
       obtain ⟨e,w'',fr,hr,_⟩:=h2.2.2 [] (room_wide _)
       cases e with
       | returned v=>exact ⟨_,_,hr⟩
       | panicked ch=>exact hr.elim
       | outgrown=>exact (hfalse hr).elim
      | row row args =>
       obtain ⟨v,w'',hr,_⟩:=h2.2 default [] (room_wide _)
       exact ⟨_,_,hr⟩
      | round l f tmps avs bd =>
       obtain ⟨e,w'',hr,_⟩:=h2.2.2 default [] (room_wide _)
       cases e with
       | returned v=>exact ⟨_,_,hr⟩
       | panicked ch=>exact hr.elim
       | outgrown=>exact (hfalse hr).elim
      | value v=>exact ⟨_,_,h2⟩
      | skip=>exact ⟨_,_,h2⟩
      | defer d=>exact ⟨_,_,h2⟩
      | _=>exact h2.elim
     | halt x w' =>
      cases x <;> exact h2.elim
   · exact ⟨_,_,h.2⟩
def Zks (base i:Nat) (j:Nat):Prop:=256*base+i<=j/\j<256*base+256
theorem Zdu {o:Orc H} (hO:OS P o) {ops:Array Oper} {base nt:Nat} {ro:Option Nat} {n:Nat} {Q:Exit->Act->World->Prop} :
 ∀ (rest:List Oper) (i:Nat) (tm:Tm) (A:H) (c:Nat) (tm':Tm) (A':H) (c':Nat) (μ:Mu) (w:World) (a:Act),
 Z1l P o ops base nt rest i tm A c=some (tm',A',c')->(∀ k,rest[k]? = ops[i+k]?)->TmR μ tm nt a.tmps->R μ A w->Z22 μ c->(∀ j,Zks base i j->μ j=none)->base<c →
 (∀ a' μ' w',TmR μ' tm' nt a'.tmps->a'.defers=a.defers->Ext μ A c w (Zks base i) μ' A' c' w'->Q .normal a' w') →
 wpOpsIn (wd ro) n P ops Q (List.range' i rest.length) a w
 | [],i,tm,A,c,tm',A',c',μ,w,a,e,hr,ht,hR,hfr,hown,hbc,hQ=>by
  simp only [Z1l,Option.some.injEq,Prod.mk.injEq] at e
  obtain ⟨rfl,rfl,rfl⟩:=e
  exact hQ a μ w ht rfl (Ext.refl hR)
 | oper::rest,i,tm,A,c,tm',A',c',μ,w,a,e,hr,ht,hR,hfr,hown,hbc,hQ=>by
  simp only [Z1l,qA] at e
  obtain ⟨⟨v,A1,c1⟩,h1,h2⟩:=e
  have hi:ops[i]? = some oper:=by have:=hr 0; simpa using this.symm
  obtain ⟨_,_,hlt,hd,_⟩:=Z1i h1
  rw [jK,List.range'_succ,wpOpsIn_cons]
  have hid:μ (256*base+i)=none:=hown _ ⟨qO,qO⟩
  refine Zcx hO hi h1 ht hR hid hfr fun v' μ1 w1 hv hE0=>?_
  have hE:=hE0.weaken (own':=fun j=>j=256*base+i) (fun j h=>h.1)
  have hm:=hE.mu
  have ht1:TmR μ1 (Z7G tm oper.dst v) nt (a.put oper.dst v').tmps:=(ht.mono hm).put hd hv
  have hfr1:Z22 μ1 c1:=hE.fresh hfr (fun j hj=>qO)
  refine Zdu hO rest (i+1) _ A1 c1 tm' A' c' μ1 w1 _ h2 (fun k=>by have:=hr (k+1); simp at this; rw [this]; congr 1; omega) ht1 hE.rel hfr1 ?_ (by have:=hE.cle; omega) ?_
  · intro j hj
    cases e:μ1 j with
    | none=>rfl
    | some m =>
     have h0:=hown j ⟨by have:=hj.1; omega,hj.2⟩
     rcases hE.new j h0 (by rw [e]; simp) with h | ⟨h,_⟩
     · have:=hj.1; omega
     · have:=hj.2; omega
  · intro a' μ' w' h3 h4 h5
    refine hQ a' μ' w' h3 (by rw [h4]; cases oper.dst <;> rfl) ?_
    refine (hE.trans h5 (fun j hj=>qO) (fun j hj=>.inr hj)).weaken ?_
    rintro j (rfl | hj)
    · exact ⟨qO,qO⟩
    · exact ⟨by have:=hj.1; omega,hj.2⟩
structure Tr (P:Program) (o:Orc H) (ops:Array Oper) (base nt:Nat) (f:Nat->Tm × H × Nat) (v:Nat->Value):Prop where
 step:∀ k oper,ops[k]? = some oper->Z15 P o ops base k nt (f k).1 (f k).2.1 (f k).2.2 oper=some (v k,(f (k+1)).2.1,(f (k+1)).2.2)/\(f (k+1)).1=Z7G (f k).1 oper.dst (v k)
theorem Zdv {o:Orc H} {ops:Array Oper} {base nt:Nat}:∀ (rest:List Oper) (i:Nat) (tm:Tm) (A:H) (c:Nat) (tm':Tm) (A':H) (c':Nat),
 Z1l P o ops base nt rest i tm A c=some (tm',A',c') -> ∃ (f:Nat->Tm × H × Nat) (v:Nat->Value),f i=(tm,A,c)/\f (i+rest.length)=(tm',A',c') ∧
  ∀ k oper,rest[k]? = some oper->Z15 P o ops base (i+k) nt (f (i+k)).1 (f (i+k)).2.1 (f (i+k)).2.2 oper=some (v (i+k),(f (i+k+1)).2.1,(f (i+k+1)).2.2)/\(f (i+k+1)).1=Z7G (f (i+k)).1 oper.dst (v (i+k))
 | [],i,tm,A,c,tm',A',c',e=>by
  simp only [Z1l,Option.some.injEq] at e
  exact ⟨fun _=>(tm,A,c),fun _=>undef,rfl,e,by simp⟩
 | oper::rest,i,tm,A,c,tm',A',c',e=>by
  simp only [Z1l,qA] at e
  obtain ⟨⟨v,A1,c1⟩,h1,h2⟩:=e
  obtain ⟨f,vs,h3,h4,h5⟩:=Zdv rest (i+1) _ A1 c1 tm' A' c' h2
  refine ⟨fun k=>if k<=i then (tm,A,c) else f k,fun k=>if k<=i then v else vs k,by simp, ?_, ?_⟩
  · simp only [jK]
    rw [if_neg qO,← h4]
    congr 1; omega
  · intro k op hk
    cases k with
    | zero =>
     simp only [List.getElem?_cons_zero,Option.some.injEq] at hk
     subst hk
     simp only [qW,qG,if_true]
     rw [if_neg qO,h3]
     exact ⟨h1,rfl⟩
    | succ k =>
     simp only [List.getElem?_cons_succ] at hk
     have:=h5 k op hk
     have e1:i+(k+1)=i+1+k:=qO
     have e2:¬ (i+1+k<=i):=qO
     have e3:¬ (i+1+k+1<=i):=qO
     simp only [e1,e2,e3,if_false]
     exact this
theorem Z6i {o:Orc H} {ops:Array Oper} {base nt:Nat}:∀ (rest:List Oper) (i:Nat) (tm:Tm) (A:H) (c:Nat) (q:Tm × H × Nat × List (Option Nat × H)),
 Z1d P o ops base nt rest i tm A c=some q->Z1l P o ops base nt rest i tm A c=some (q.1,q.2.1,q.2.2.1)
 | [],i,tm,A,c,q,e=>by simp only [Z1d,Option.some.injEq] at e; subst e; rfl
 | oper::rest,i,tm,A,c,q,e=>by
  simp only [Z1d,qA] at e
  obtain ⟨r,h1,q',h2,e⟩:=e
  cases e
  simp only [Z1l,qA]
  exact ⟨r,h1,Z6i rest (i+1) _ _ _ q' h2⟩
theorem Z9n {o:Orc H} {ops:Array Oper} {base nt:Nat}:∀ (rest:List Oper) (i:Nat) (tm:Tm) (A:H) (c:Nat) (q:Tm × H × Nat × List (Option Nat × H)) (f:Nat->Tm × H × Nat) (v:Nat->Value),
 Z1d P o ops base nt rest i tm A c=some q->f i=(tm,A,c) →
 (∀ k oper,rest[k]? = some oper->Z15 P o ops base (i+k) nt (f (i+k)).1 (f (i+k)).2.1 (f (i+k)).2.2 oper=some (v (i+k),(f (i+k+1)).2.1,(f (i+k+1)).2.2)/\(f (i+k+1)).1=Z7G (f (i+k)).1 oper.dst (v (i+k))) →
 (∀ k oper,rest[k]? = some oper->q.2.2.2[k]? = some (rid ops (f (i+k)).1 oper,(f (i+k)).2.1))/\(∃ x,q.2.2.2[rest.length]? = some (x,(f (i+rest.length)).2.1))
 | [],i,tm,A,c,q,f,v,e,h0,hs=>by
  simp only [Z1d,Option.some.injEq] at e
  subst e
  exact ⟨by simp,none,by simp [h0]⟩
 | oper::rest,i,tm,A,c,q,f,v,e,h0,hs=>by
  simp only [Z1d,qA] at e
  obtain ⟨r,h1,q',h2,e⟩:=e
  cases e
  have hs0:=hs 0 oper (by simp)
  simp only [qW,h0] at hs0
  rw [h1] at hs0
  obtain ⟨hs1,hs2⟩:=hs0
  cases hs1
  have hf1:f (i+1)=(Z7G tm oper.dst (v i),(f (i+1)).2.1,(f (i+1)).2.2):=by rw [← hs2]
  obtain ⟨h3,h4⟩:=Z9n rest (i+1) _ _ _ q' f v h2 hf1 (fun k op hk=>by
   have:=hs (k+1) op (by simpa using hk)
   have e1:i+(k+1)=i+1+k:=qO
   rw [e1] at this
   exact this)
  refine ⟨fun k op hk=>?_, ?_⟩
  · cases k with
    | zero=>simp at hk; subst hk; simp [h0]
    | succ k =>
     have:=h3 k op (by simpa using hk)
     have e1:i+(k+1)=i+1+k:=qO
     rw [e1]
     simpa using this
  · obtain ⟨x,hx⟩:=h4
    refine ⟨x, ?_⟩
    have e1:i+(oper::rest).length=i+1+rest.length:=by simp; omega
    rw [e1]
    simpa using hx
theorem Zhz {acc:List Nat} {o:Oper} {i:Nat}:(Za9 acc o).testBit i=true ↔ ∃ e ∈ o.after.toList,Region.binds .any e=true/\(i=e.on ∨ (acc.getD e.on 0).testBit i=true):=by
 unfold Za9
 suffices h:∀ (l:List Edge) (s:Nat),(l.foldl (fun s e=>cond (Region.binds .any e) (s ||| (2 ^ e.on) ||| acc.getD e.on 0) s) s).testBit i=true ↔
  s.testBit i=true ∨ ∃ e ∈ l,Region.binds .any e=true/\(i=e.on ∨ (acc.getD e.on 0).testBit i=true) by
  rw [h]; simp
 intro l
 induction l with
 | nil=>intro s; simp
 | cons e l ih =>
  intro s
  rw [List.foldl_cons,ih]
  cases hb:Region.binds .any e with
  | false=>simp [hb]
  | true =>
   simp only [cond_true,Nat.testBit_or,Bool.or_eq_true,Nat.testBit_two_pow,decide_eq_true_eq,List.mem_cons,exists_eq_or_imp,hb,true_and]
   constructor
   · rintro (((h | h) | h) | h)
     · exact .inl h
     · exact .inr (.inl (.inl h.symm))
     · exact .inr (.inl (.inr h))
     · exact .inr (.inr h)
   · rintro (h | (h | h) | h)
     · exact .inl (.inl (.inl h))
     · exact .inl (.inl (.inr h.symm))
     · exact .inl (.inr h)
     · exact .inr h
theorem Z7T:∀ (l:List Oper) (acc:List Nat),∃ r,ZcK l acc=acc++r/\r.length=l.length /\ ∀ k o,l[k]? = some o->(acc++r).getD (acc.length+k) 0=Za9 ((acc++r).take (acc.length+k)) o
 | [],acc=>⟨[],by simp [ZcK],rfl,by simp⟩
 | o::rest,acc=>by
  obtain ⟨r,h1,h2,h3⟩:=Z7T rest (acc++[Za9 acc o])
  refine ⟨Za9 acc o::r,by simp [ZcK,h1],by simp [h2],fun k o' hk=>?_⟩
  cases k with
  | zero =>
   simp at hk; subst hk
   simp [qB]
  | succ k =>
   have:=h3 k o' (by simpa using hk)
   simp only [jI,jK,List.length_nil,qQ,List.cons_append,List.nil_append] at this
   have e1:acc.length+(k+1)=acc.length+(0+1)+k:=qO
   rw [e1]
   exact this
def msk (ops:Array Oper) (j:Nat):Nat:=(ZcK ops.toList []).getD j 0
theorem msk_eq {ops:Array Oper} {j:Nat} {o:Oper} (h:ops[j]? = some o):msk ops j=Za9 ((ZcK ops.toList []).take j) o:=by
 obtain ⟨r,h1,h2,h3⟩:=Z7T ops.toList []
 have:=h3 j o (by simpa using h)
 simp only [List.nil_append,List.length_nil,Nat.zero_add] at this
 simp only [msk,h1,List.nil_append]
 exact this
theorem Z21:∀ (l:List Oper) (i:Nat),Z5O l i=true -> ∀ k o,l[k]? = some o -> ∀ e ∈ o.after.toList,Region.binds .any e=true->e.on<i+k
 | [],i,h,k,o,hk,e,he,hb=>by simp at hk
 | x::l,i,h,k,o,hk,e,he,hb=>by
  simp only [Z5O,qN] at h
  cases k with
  | zero =>
   simp at hk; subst hk
   have:=List.all_eq_true.1 h.1 e he
   simp [hb,Nat.blt] at this
   omega
  | succ k =>
   have:=Z21 l (i+1) h.2 k o (by simpa using hk) e he hb
   omega
theorem Zj6 {ops:Array Oper} (hE:Z5O ops.toList 0=true) {j i:Nat} {o:Oper} (h:ops[j]? = some o) :
 (msk ops j).testBit i=true ↔ ∃ e ∈ o.after.toList,Region.binds .any e=true/\(i=e.on ∨ (msk ops e.on).testBit i=true):=by
 rw [msk_eq h,Zhz]
 constructor <;> rintro ⟨e,h1,h2,h3⟩ <;> refine ⟨e,h1,h2,h3.imp id fun h3=>?_⟩
 all_goals
  have hlt:=Z21 _ 0 hE j o (by simpa using h) e h1 h2
  simp only [qB,msk] at h3 ⊢
  simp only [Nat.zero_add] at hlt
  simpa [List.getElem?_take,hlt] using h3
theorem Zom {ops:Array Oper} (hE:Z5O ops.toList 0=true):∀ (j i:Nat),(msk ops j).testBit i=true->i<j:=by
 intro j
 induction j using Nat.strongRecOn with
 | _ j ih =>
  intro i hb
  cases ho:ops[j]? with
  | none =>
   exfalso
   obtain ⟨r,h1,h2,_⟩:=Z7T ops.toList []
   have:ops.size<=j:=by simpa using ho
   simp [msk,h1,qB,jF (show r.length<=j by simp [h2]; exact this)] at hb
  | some o =>
   obtain ⟨e,h1,h2,h3⟩:=(Zj6 hE ho).1 hb
   have hlt:=Z21 _ 0 hE j o (by simpa using ho) e h1 h2
   rcases h3 with rfl | h3
   · omega
   · have:=ih e.on qO i h3
     omega
theorem Z34 {ops:Array Oper} (hE:Z5O ops.toList 0=true) {S:Nat->Prop} (hS:∀ k o,S k->ops[k]? = some o -> ∀ e ∈ o.after.toList,Region.binds .any e=true->S e.on) :
 ∀ (j i:Nat) (o:Oper),ops[j]? = some o->(∀ e ∈ o.after.toList,Region.binds .any e=true->S e.on)->(msk ops j).testBit i=true->S i:=by
 intro j
 induction j using Nat.strongRecOn with
 | _ j ih =>
  intro i o ho hpred hb
  obtain ⟨e,h1,h2,h3⟩:=(Zj6 hE ho).1 hb
  have hlt:=Z21 _ 0 hE j o (by simpa using ho) e h1 h2
  have hse:=hpred e h1 h2
  rcases h3 with rfl | h3
  · exact hse
  · have:∃ o',ops[e.on]? = some o':=by
     have:j<ops.size:=(jD.1 ho).1
     exact ⟨ops[e.on]'qO,qR qO⟩
    obtain ⟨o',ho'⟩:=this
    exact ih e.on qO i o' ho' (hS _ _ hse ho') h3
theorem Zco {n:Nat} {p:Nat->Bool} (h:Zo5 n p=true):∀ i,i<n->p i=true:=by
 induction n with
 | zero=>intro i hi; omega
 | succ n ih =>
  have h':(p n && Zo5 n p)=true:=h
  simp only [qN] at h'
  intro i hi
  by_cases e:i=n
  · subst e; exact h'.1
  · exact ih h'.2 i qO
theorem Z5V {ops:Array Oper} (h:Za3 ops=true) {i j:Nat} {a b:Oper} (hij:i<j) (ha:ops[i]? = some a) (hb:ops[j]? = some b) :
 (msk ops j).testBit i=true ∨ (Zhh ops a b=false/\Zhh ops b a=false /\ ¬ (cls a.op=3/\cls b.op=3)):=by
 simp only [Za3,qN] at h
 have h2:=Zco (Zco h.2 j (jD.1 hb).1) i hij
 simp only [Zok,ha,hb,Bool.or_eq_true,qN,Bool.not_eq_true'] at h2
 rcases h2 with h2 | h2
 · exact .inl h2
 · refine .inr ⟨h2.1.1,h2.1.2,fun hh=>?_⟩
   have:=h2.2
   rw [hh.1,hh.2] at this
   simp at this
theorem Z3W {ops:Array Oper} (h:Za3 ops=true):Z5O ops.toList 0=true:=by
 simp only [Za3,qN] at h; exact h.1
end Go.Ab

namespace Go.Ab
open Go
variable {H:Type} [HeapC H] {P:Program} {μ:Mu} {A:H} {w:World}
structure Can (ops:Array Oper) (base nt:Nat) (f:Nat->Tm × H × Nat) (v:Nat->Value) (n:Nat) (M:Nat->Mu) (W:Nat->World) (ts:Nat->Array Value):Prop where
 tm:∀ k,k<=n->TmR (M k) (f k).1 nt (ts k)
 rel:∀ k,k<=n->R (M k) (f k).2.1 (W k)
 fresh:∀ k,k<=n->Z22 (M k) (f k).2.2
 own:∀ k,k<=n -> ∀ j,Zks base k j->M k j=none
 bc:∀ k,k<=n->base<(f k).2.2
 ext:∀ k,k<n -> ∀ oper,ops[k]? = some oper->Ext (M k) (f k).2.1 (f k).2.2 (W k) (fun j=>j=256*base+k/\2<=cls oper.op/\Z13 ops (f k).1 oper=some true) (M (k+1)) (f (k+1)).2.1 (f (k+1)).2.2 (W (k+1))
 val:∀ k,k<n -> ∃ v',VR (M (k+1)) (v k) v'
theorem can_ex {o:Orc H} (hO:OS P o) {ops:Array Oper} {base nt:Nat} {f:Nat->Tm × H × Nat} {v:Nat->Value} (hT:Tr P o ops base nt f v)
 {μ0:Mu} {w0:World} {a0:Act} (ht:TmR μ0 (f 0).1 nt a0.tmps) (hR:R μ0 (f 0).2.1 w0) (hfr:Z22 μ0 (f 0).2.2) (hown:∀ j,Zks base 0 j->μ0 j=none) (hbc:base<(f 0).2.2) :
 ∀ n,n<=ops.size -> ∃ M W ts,M 0=μ0/\W 0=w0/\Can ops base nt f v n M W ts:=by
 intro n
 induction n with
 | zero =>
  intro _
  refine ⟨fun _=>μ0,fun _=>w0,fun _=>a0.tmps,rfl,rfl, ?_, ?_, ?_, ?_, ?_, ?_, ?_⟩
  · intro k hk; have:k=0:=qO
    subst this; exact ht
  · intro k hk; have:k=0:=qO
    subst this; exact hR
  · intro k hk; have:k=0:=qO
    subst this; exact hfr
  · intro k hk; have:k=0:=qO
    subst this; exact hown
  · intro k hk; have:k=0:=qO
    subst this; exact hbc
  · intro k hk; omega
  · intro k hk; omega
 | succ n ih =>
  intro hn
  obtain ⟨M,W,ts,hM0,hW0,hC⟩:=ih qO
  have hi:ops[n]? = some ops[n]:=qR qO
  obtain ⟨h1,h2⟩:=hT.step n _ hi
  have hid:M n (256*base+n)=none:=by
   obtain ⟨_,_,hlt,_,_⟩:=Z1i h1
   exact hC.own n (qG _) _ ⟨qO,qO⟩
  have hstep:=Zcx (n:=0) (ro:=none) (Q:=fun _ _ _=>False) (a:=⟨ts n,[]⟩)
   (K:=fun a' w'=>∃ v' μ',a'=(⟨ts n,[]⟩:Act).put ops[n].dst v'/\VR μ' (v n) v'/\Ext (M n) (f n).2.1 (f n).2.2 (W n) (fun j=>j=256*base+n/\2<=cls ops[n].op/\Z13 ops (f n).1 ops[n]=some true) μ' (f (n+1)).2.1 (f (n+1)).2.2 w')
   hO hi h1 (hC.tm n (qG _)) (hC.rel n (qG _)) hid (hC.fresh n (qG _)) (fun v' μ' w' hv hE=>⟨v',μ',rfl,hv,hE⟩)
  obtain ⟨a',w',v',μ',rfl,hv,hE⟩:=Ziv hstep
  obtain ⟨_,_,hlt,hd,_⟩:=Z1i h1
  have hE':=hE.weaken (own':=fun j=>j=256*base+n) (fun j h=>h.1)
  have hbn:=hC.bc n (qG _)
  have hne:∀ k,k<=n->k ≠ n+1:=fun k hk=>qO
  have hnew:∀ k,¬ k<=n->k<=n+1->k=n+1:=fun k h1 h2=>qO
  refine ⟨fun k=>if k<=n then M k else μ',fun k=>if k<=n then W k else w',fun k=>if k<=n then ts k else ((⟨ts n,[]⟩:Act).put ops[n].dst v').tmps,by simp [hM0],by simp [hW0], ?_, ?_, ?_, ?_, ?_, ?_, ?_⟩
  · intro k hk
    by_cases h:k<=n
    · simp only [h,if_true]; exact hC.tm k h
    · simp only [h,if_false]
      have:=hnew k h hk; subst this
      rw [h2]
      exact TmR.put ((hC.tm n (qG _)).mono hE.mu) hd hv
  · intro k hk
    by_cases h:k<=n
    · simp only [h,if_true]; exact hC.rel k h
    · simp only [h,if_false]
      have:=hnew k h hk; subst this
      exact hE.rel
  · intro k hk
    by_cases h:k<=n
    · simp only [h,if_true]; exact hC.fresh k h
    · simp only [h,if_false]
      have:=hnew k h hk; subst this
      exact hE'.fresh (hC.fresh n (qG _)) (fun j hj=>qO)
  · intro k hk j hj
    by_cases h:k<=n
    · simp only [h,if_true]; exact hC.own k h j hj
    · simp only [h,if_false]
      have:=hnew k h hk; subst this
      cases e:μ' j with
      | none=>rfl
      | some m =>
       have h0:=hC.own n (qG _) j ⟨by have:=hj.1; omega,hj.2⟩
       rcases hE'.new j h0 (by rw [e]; simp) with h | ⟨h,_⟩
       · have:=hj.1; omega
       · have:=hj.2; omega
  · intro k hk
    by_cases h:k<=n
    · exact hC.bc k h
    · have:=hnew k h hk; subst this
      have:=hE.cle; omega
  · intro k hk oper hop
    by_cases h:k+1<=n
    · have h':k<=n:=qO
      simp only [h,h',if_true]; exact hC.ext k qO oper hop
    · have:k=n:=qO
      subst this
      simp only [qG,if_true,h,if_false]
      rw [hi] at hop
      cases hop
      exact hE
  · intro k hk
    by_cases h:k+1<=n
    · simp only [h,if_true]; exact hC.val k qO
    · have:k=n:=qO
      subst this
      simp only [h,if_false]
      exact ⟨v',hv⟩
section
variable {ops:Array Oper} {base nt n:Nat} {f:Nat->Tm × H × Nat} {v:Nat->Value} {M:Nat->Mu} {W:Nat->World} {ts:Nat->Array Value}
def Dn (M:Nat->Mu) (k i:Nat):Prop:=M k i ≠ none
theorem Can.mono1 (hC:Can ops base nt f v n M W ts) (hn:n<=ops.size) {k i:Nat} (hk:k<n) (h:Dn M k i):Dn M (k+1) i:=by
 have hi:ops[k]? = some ops[k]:=qR qO
 unfold Dn at h ⊢
 cases e:M k i with
 | none=>exact absurd e h
 | some m=>rw [(hC.ext k hk _ hi).mu i m e]; simp
theorem Can.mono (hC:Can ops base nt f v n M W ts) (hn:n<=ops.size) {k l i:Nat} (hkl:k<=l) (hl:l<=n) (h:Dn M k i):Dn M l i:=by
 induction l with
 | zero =>
  have:k=0:=qO
  subst this; exact h
 | succ l ih =>
  by_cases e:k=l+1
  · subst e; exact h
  · exact hC.mono1 hn qO (ih qO qO)
theorem Can.lt (hC:Can ops base nt f v n M W ts) {k i:Nat} (hk:k<=n) (h:Dn M k i):i<256*(f k).2.2:=by
 by_cases hh:256*(f k).2.2<=i
 · exact absurd (hC.fresh k hk i hh) h
 · omega
theorem Can.notown (hC:Can ops base nt f v n M W ts) {k i:Nat} (hk:k<=n) (h:Dn M k i):¬ Zks base k i:=fun ho=>h (hC.own k hk i ho)
theorem Can.supv (hC:Can ops base nt f v n M W ts) {k:Nat} (hk:k<n):Sup (Dn M (k+1)) (v k) :=
 let ⟨v',h⟩:=hC.val k hk; ⟨M (k+1),v',h,fun i h=>h⟩
theorem Can.suptm (hC:Can ops base nt f v n M W ts) {k t:Nat} {x:Value} (hk:k<=n) (h:(f k).1 t=some x):Sup (Dn M k) x :=
 let ⟨v',_,h⟩:=(hC.tm k hk).val t x h; ⟨M k,v',h,fun i h=>h⟩
theorem Can.suph (hC:Can ops base nt f v n M W ts) {k i:Nat} (hk:k<=n) (h:Dn M k i):Zkq (Dn M k) (HeapC.get (f k).2.1 i):=by
 unfold Dn at h
 cases e:M k i with
 | none=>exact absurd e h
 | some m=>exact ⟨M k,m,_,(hC.rel k hk).blk i m e,fun i h=>h⟩
theorem Can.cmono (hC:Can ops base nt f v n M W ts) (hn:n<=ops.size) {k l:Nat} (hkl:k<=l) (hl:l<=n):(f k).2.2<=(f l).2.2:=by
 induction l with
 | zero =>
  have:k=0:=qO
  subst this; exact qG _
 | succ l ih =>
  by_cases e:k=l+1
  · subst e; exact qG _
  · have hi:ops[l]? = some ops[l]:=qR qO
    exact Nat.le_trans (ih qO qO) (hC.ext l qO _ hi).cle
theorem Can.wr (hC:Can ops base nt f v n M W ts) (hn:n<=ops.size) {k l i:Nat} (hkl:k<=l) (hl:l<=n) (h:Dn M k i) (hw:wrB (HeapC.get (f l).2.1 i)=true):wrB (HeapC.get (f k).2.1 i)=true:=by
 induction l with
 | zero =>
  have:k=0:=qO
  subst this; exact hw
 | succ l ih =>
  by_cases e:k=l+1
  · subst e; exact hw
  · have hi:ops[l]? = some ops[l]:=qR qO
    have hd:=hC.mono hn (show k<=l by omega) qO h
    unfold Dn at hd
    cases e:M l i with
    | none=>exact absurd e hd
    | some m=>exact ih qO qO ((hC.ext l qO _ hi).wrm i m e hw)
theorem Can.dd (hC:Can ops base nt f v n M W ts) (hn:n<=ops.size) {k l i:Nat} (hkl:k<=l) (hl:l<=n) (h:Dn M k i) (hw:Z2w (HeapC.get (f k).2.1 i)=true):Z2w (HeapC.get (f l).2.1 i)=true:=by
 induction l with
 | zero =>
  have:k=0:=qO
  subst this; exact hw
 | succ l ih =>
  by_cases e:k=l+1
  · subst e; exact hw
  · have hi:ops[l]? = some ops[l]:=qR qO
    have hd:=hC.mono hn (show k<=l by omega) qO h
    unfold Dn at hd
    cases e:M l i with
    | none=>exact absurd e hd
    | some m=>exact (hC.ext l qO _ hi).dd i m e (ih qO qO)
theorem Can.af (hC:Can ops base nt f v n M W ts) (hn:n<=ops.size) {k i:Nat} (hk:k<n) (h:¬ Dn M k i) (hi:i<256*(f k).2.2) (hne:i ≠ 256*base+k):HeapC.get (f (k+1)).2.1 i=HeapC.get (f k).2.1 i:=by
 have ho:ops[k]? = some ops[k]:=qR qO
 refine (hC.ext k hk _ ho).af i ?_ hi (fun hh=>hne hh.1)
 cases e:M k i with
 | none=>rfl
 | some m=>exact absurd (by unfold Dn; rw [e]; simp) h
theorem Can.newn (hC:Can ops base nt f v n M W ts) (hn:n<=ops.size) {k i:Nat} (hk:k<n) {oper:Oper} (ho:ops[k]? = some oper) (h:¬ Dn M k i) (h':Dn M (k+1) i) :
 (i=256*base+k/\2<=cls oper.op/\Z13 ops (f k).1 oper=some true) ∨ (256*(f k).2.2<=i/\i<256*(f (k+1)).2.2):=by
 refine (hC.ext k hk _ ho).new i ?_ h'
 cases e:M k i with
 | none=>rfl
 | some m=>exact absurd (by unfold Dn; rw [e]; simp) h
end
theorem VR.rid {v v':Value} (h:VR μ v v') {i:Nat} (e:Z2O v=some i):μ i ≠ none:=by
 cases h with
 | ptr h=>simp [Z2O] at e; subst e; rw [h]; simp
 | sl h _ _=>simp [Z2O] at e; subst e; rw [h]; simp
 | slE h=>simp [Z2O] at e; subst e; rw [h]; simp
 | map h=>simp [Z2O] at e; subst e; rw [h]; simp
 | _=>simp [Z2O] at e
theorem cls_le (op:Op):cls op<=3:=by
 unfold cls; split <;> decide
theorem Zdl {o:Orc H} {ops:Array Oper} {base j nt c c1:Nat} {tm:Tm} {A A1:H} {oper:Oper} {x:Value} (hc:cls oper.op ≠ 3) (e:Z15 P o ops base j nt tm A c oper=some (x,A1,c1)) :
 c1=c /\ ∃ upd:Option ABlk,A1=(match upd with | none=>A | some b=>HeapC.set A (256*base+j) b) ∧
  (upd=none ∨ (∃ b,upd=some b/\wrB (some b)=true/\Z2O x=some (256*base+j)/\2<=cls oper.op/\Z13 ops tm oper=some true)) ∧
  (upd=none -> ¬ (2<=cls oper.op/\Z13 ops tm oper=some true)) ∧
  ∀ {H':Type} [HeapC H'] (o':Orc H') (tm':Tm) (h':H') (c':Nat),(∀ t ∈ Z2C ops oper,tm t=tm' t)->(cls oper.op=1 -> ∀ y,rid ops tm oper=some y->HeapC.get h' y=HeapC.get A y) →
   Z15 P o' ops base j nt tm' h' c' oper=some (x,(match upd with | none=>h' | some b=>HeapC.set h' (256*base+j) b),c'):=by
 obtain ⟨b,hb,hlt,hd,he⟩:=Z1i e
 have hwc:∀ tm':Tm,(∀ t ∈ Z2C ops oper,tm t=tm' t)->Z13 ops tm' oper=some b:=by
  intro tm' htm
  rw [← hb]
  unfold Z13
  cases hg:oper.guard with
  | none=>rfl
  | some p =>
   obtain ⟨g,want⟩:=p
   simp only
   cases hd:(ops[g]?).bind (·.dst) with
   | none=>rfl
   | some d =>
    have:tm d=tm' d:=htm d (by simp only [Z2C,hg,hd]; simp)
    simp only [qD,this]
 have hge:∀ {H':Type} [HeapC H'] (o':Orc H') (tm':Tm) (h':H') (c':Nat),(∀ t ∈ Z2C ops oper,tm t=tm' t) →
  Z15 P o' ops base j nt tm' h' c' oper=cond b (Z0u P o' (256*base+j) tm h' c' oper.op) (some (undef,h',c')):=by
  intro H' _ o' tm' h' c' htm
  simp only [Z15,hwc tm' htm,qD]
  have h1:Nat.blt j 256=true:=by simp [Nat.blt]; omega
  have h2:∀ X Y:Option (Value × H' × Nat),cond (Nat.blt j 256 && (match oper.dst with | some d=>Nat.blt d nt | none=>true)) X Y=X:=by
   intro X Y
   cases hdd:oper.dst with
   | none=>rw [h1]; rfl
   | some d =>
    have:Nat.blt d nt=true:=qK (hd d hdd)
    rw [h1]; simp only [this]; rfl
  refine (h2 _ _).trans ?_
  rw [Zcl (tm:=tm') (tm':=tm) (fun y hy=>?_)]
  refine Zas fun t ht=>(htm t ?_).symm
  subst ht
  simp only [Z2C,List.mem_append,List.mem_filterMap]
  exact .inl ⟨_,hy,rfl⟩
 rcases he with ⟨rfl,he⟩ | ⟨rfl,he⟩
 · have hcc:cls oper.op=0 ∨ cls oper.op=1 ∨ cls oper.op=2:=by have:=cls_le oper.op; omega
   rcases hcc with h0 | h1 | h2
   · obtain ⟨rfl,rfl,hf⟩:=Zoz (H':=H) h0 he
     refine ⟨rfl,none,rfl,.inl rfl,fun _ h=>qO,fun o' tm' h' c' htm _=>?_⟩
     rw [hge o' tm' h' c' htm]
     exact (Zoz h0 he).2.2 o' h' c'
   · obtain ⟨rfl,rfl,hf⟩:=ZoA (H':=H) h1 he
     refine ⟨rfl,none,rfl,.inl rfl,fun _ h=>qO,fun o' tm' h' c' htm hr=>?_⟩
     rw [hge o' tm' h' c' htm]
     refine (ZoA h1 he).2.2 o' h' c' (fun y hy=>hr h1 y ?_)
     simp only [rid,hb]; exact hy
   · obtain ⟨rfl,bb,hA,hw,hf⟩:=ZoB (H':=H) h2 he
     have hrid:Z2O x=some (256*base+j):=by
      cases hop:oper.op <;> rw [hop] at h2 <;> try (simp [cls] at h2; done)
      case call k =>
       obtain ⟨callee,args,ats⟩:=k
       cases callee with
       | builtin b=>cases b <;> simp [cls] at h2
       | _=>simp [cls] at h2
      all_goals
       rw [hop] at he
       simp only [Z0u,qA] at he
      case alloc t =>
       obtain ⟨z,hz,he⟩:=he
       obtain ⟨_,e1⟩:=Z06 he
       cases e1; rfl
      case box t y =>
       obtain ⟨z,hz,he⟩:=he
       obtain ⟨_,e1⟩:=Z06 he
       cases e1; rfl
      case buildSlice t len ps =>
       obtain ⟨vs,hvs,cs,hcs,he⟩:=he
       cases he; rfl
      case makeMap t r =>
       cases r with
       | none=>cases he; rfl
       | some y =>
        simp only [qA] at he
        obtain ⟨_,_,_,_,_,_,he⟩:=he
        cases he; rfl
      case makeSlice t l k =>
       obtain ⟨_,_,_,_,_,_,he⟩:=he
       cases he; rfl
     refine ⟨rfl,some bb,hA,.inr ⟨bb,rfl,hw,hrid,qO,hb⟩,(fun h=>by cases h),@fun H' _ o' tm' h' c' htm _=>?_⟩
     rw [hge o' tm' h' c' htm]
     obtain ⟨_,bb',hA',_,hf'⟩:=ZoB (H':=H') h2 he
     have hbb:bb'=bb:=by
      have:=HeapC.get_set A (256*base+j) bb (256*base+j)
      rw [← hA,hA',HeapC.get_set] at this
      simpa using this
     rw [← hbb]
     exact hf' o' h' c'
 · cases he
   refine ⟨rfl,none,rfl,.inl rfl,(fun _ (h:2<=cls oper.op/\Z13 ops tm oper=some true)=>by rw [hb] at h; cases h.2),fun o' tm' h' c' htm _=>?_⟩
   rw [hge o' tm' h' c' htm]
   rfl
end Go.Ab

namespace Go.Ab
open Go
variable {H:Type} [HeapC H] {H':Type} [HeapC H'] {P:Program} {μ:Mu} {A:H} {w:World}
theorem R.cong {A':H'} (hR:R μ A w) (h:∀ i,μ i ≠ none->HeapC.get A' i=HeapC.get A i):R μ A' w where
 blk:=fun i m hm=>by rw [h i (by rw [hm]; simp)]; exact hR.blk i m hm
 inj:=fun i j mi mj hi hj hne=>by rw [h i (by rw [hi]; simp),h j (by rw [hj]; simp)]; exact hR.inj i j mi mj hi hj hne
 lt:=hR.lt
theorem Z6D {ops:Array Oper} {tm tm':Tm} {oper:Oper} (h:∀ t ∈ Z2C ops oper,tm t=tm' t):Z13 ops tm oper=Z13 ops tm' oper:=by
 unfold Z13
 cases hg:oper.guard with
 | none=>rfl
 | some p =>
  obtain ⟨g,want⟩:=p
  simp only
  cases hd:(ops[g]?).bind (·.dst) with
  | none=>rfl
  | some d =>
   have:tm d=tm' d:=h d (by simp only [Z2C,hg,hd]; simp)
   simp only [qD,this]
theorem Zdo {o:Orc H} {ops:Array Oper} {base i nt c:Nat} {tm tm':Tm} {oper:Oper} (h:∀ t ∈ Z2C ops oper,tm t=tm' t):Z15 P o ops base i nt tm A c oper=Z15 P o ops base i nt tm' A c oper:=by
 simp only [Z15,Z6D h]
 rw [Zcl (tm:=tm) (tm':=tm')]
 intro x hx
 refine Zas fun t ht=>h t ?_
 subst ht
 simp only [Z2C,List.mem_append,List.mem_filterMap]
 exact .inl ⟨_,hx,rfl⟩
theorem Zhv {x:Value} (h:Z2P x=true):Z2O x=none:=by
 unfold Z2P at h
 split at h <;> first | rfl | cases h
def tmS (ops:Array Oper) (v:Nat->Value) (tm0:Tm) (s:Nat->Bool):Nat->Tm
 | 0=>tm0
 | k+1=>cond (s k) (Z7G (tmS ops v tm0 s k) ((ops[k]?).bind (·.dst)) (v k)) (tmS ops v tm0 s k)
def upS (s:Nat->Bool) (j:Nat):Nat->Bool:=fun k=>s k || Nat.beq k j
theorem Z4Q (s:Nat->Bool) (j:Nat):upS s j j=true:=by simp [upS]
theorem ZaR {s:Nat->Bool} {j k:Nat} (h:k ≠ j):upS s j k=s k:=by
 have:Nat.beq k j=false:=by rw [qY]; intro hh; exact h (qJ hh)
 simp [upS,this]
theorem Zcu {s:Nat->Bool} {j k:Nat} (h:upS s j k=true):s k=true ∨ k=j:=by
 simp only [upS,Bool.or_eq_true] at h
 exact h.imp id qJ
theorem Za5 {tm:Tm} {d:Option Tmp} {x:Value} {t:Nat} (h:d ≠ some t):Z7G tm d x t=tm t:=by
 cases d with
 | none=>rfl
 | some d =>
  have:Nat.beq t d=false:=by rw [qY]; intro hh; exact h (by rw [qJ hh])
  simp [Z7G,this]
theorem ZiV {tm tm':Tm} {d:Option Tmp} {x:Value} {t:Nat} (h:d=some t):Z7G tm d x t=Z7G tm' d x t:=by
 subst h; simp [Z7G]
theorem ZcC {tm tm':Tm} {d:Option Tmp} {x:Value} {t:Nat} (h:tm t=tm' t):Z7G tm d x t=Z7G tm' d x t:=by
 cases d with
 | none=>exact h
 | some d=>simp only [Z7G]; cases Nat.beq t d <;> simp [h]
structure Cx (P:Program) (o:Orc H) (ops:Array Oper) (base nt:Nat) (f:Nat->Tm × H × Nat) (v:Nat->Value) (M:Nat->Mu) (W:Nat->World) (ts:Nat->Array Value):Prop where
 reg:Za3 ops=true
 tr:Tr P o ops base nt f v
 can:Can ops base nt f v ops.size M W ts
 lw:∀ i j a b,ops[i]? = some a->ops[j]? = some b->cls a.op=1->cls b.op=3->(msk ops j).testBit i=false->(msk ops i).testBit j=false →
  ∀ x,rid ops (f i).1 a=some x->HeapC.get (f j).2.1 x=HeapC.get (f (j+1)).2.1 x
section
variable {o:Orc H} {ops:Array Oper} {base nt:Nat} {f:Nat->Tm × H × Nat} {v:Nat->Value} {M:Nat->Mu} {W:Nat->World} {ts:Nat->Array Value}
theorem Zag {ops:Array Oper} {k:Nat} (h:k<ops.size):∃ oper,ops[k]? = some oper:=⟨ops[k],qR h⟩
theorem Z25 {ops:Array Oper} {k:Nat} {oper:Oper} (h:ops[k]? = some oper):k<ops.size:=(jD.1 h).1
theorem Cx.k256 (cx:Cx P o ops base nt f v M W ts) {k:Nat} (h:k<ops.size):k<256:=by
 obtain ⟨oper,ho⟩:=Zag h
 obtain ⟨_,_,hlt,_⟩:=Z1i (cx.tr.step k oper ho).1
 exact hlt
def Z9c (ops:Array Oper) (s:Nat->Bool):Prop:=∀ k o,s k=true->ops[k]? = some o -> ∀ e ∈ o.after.toList,Region.binds .any e=true->s e.on=true
theorem Zcv {ops:Array Oper} {a b:Oper} {t:Nat} (hd:a.dst=some t) (h:t ∈ Z2C ops b ∨ b.dst=some t):Zhh ops a b=true:=by
 simp only [Zhh,hd,Bool.or_eq_true,List.contains_iff_mem]
 rcases h with h | h
 · exact .inl h
 · exact .inr (by rw [h]; simp)
theorem Cx.reads (cx:Cx P o ops base nt f v M W ts) {s:Nat->Bool} (hs:Z9c ops s) {j:Nat} {oper:Oper} (hj:ops[j]? = some oper) (hns:s j=false)
 (hp:∀ e ∈ oper.after.toList,Region.binds .any e=true->s e.on=true) {t:Nat} (ht:t ∈ Z2C ops oper) :
 ∀ m,m<=ops.size->tmS ops v (f 0).1 s m t=(f (min m j)).1 t:=by
 have hE:=Z3W cx.reg
 intro m
 induction m with
 | zero=>intro _; simp [tmS]
 | succ m ih =>
  intro hm
  have ih:=ih qO
  obtain ⟨om,hom⟩:=Zag (show m<ops.size by omega)
  simp only [tmS,hom,qD]
  rcases Nat.lt_trichotomy m j with hlt | heq | hgt
  · have e1:min (m+1) j=m+1:=qO
    have e2:min m j=m:=qO
    rw [e2] at ih
    rw [e1,(cx.tr.step m om hom).2]
    by_cases hd:om.dst=some t
    · have hb:s m=true:=by
       rcases Z5V cx.reg hlt hom hj with hb | ⟨h1,_,_⟩
       · exact Z34 hE (S:=fun k=>s k=true) hs j m oper hj hp hb
       · rw [Zcv hd (.inl ht)] at h1; cases h1
      rw [hb]
      exact ZiV hd
    · rw [Za5 hd]
      cases s m
      · exact ih
      · simp only [cond_true]; rw [Za5 hd]; exact ih
  · subst heq
    rw [hns]
    simpa [Nat.min_eq_right] using ih
  · have e1:min (m+1) j=j:=qO
    have e2:min m j=j:=qO
    rw [e2] at ih
    rw [e1,← ih]
    by_cases hd:om.dst=some t
    · have hb:s m=false:=by
       rw [qY]
       intro hsm
       rcases Z5V cx.reg hgt hj hom with hb | ⟨_,h1,_⟩
       · have:=Z34 hE (S:=fun k=>s k=true) hs m j om hom (hs m om hsm hom) hb
         rw [hns] at this; cases this
       · rw [Zcv hd (.inl ht)] at h1; cases h1
      rw [hb]; rfl
    · cases s m
      · rfl
      · simp only [cond_true]; exact Za5 hd
theorem Cx.read (cx:Cx P o ops base nt f v M W ts) {s:Nat->Bool} (hs:Z9c ops s) {j:Nat} {oper:Oper} (hj:ops[j]? = some oper) (hns:s j=false)
 (hp:∀ e ∈ oper.after.toList,Region.binds .any e=true->s e.on=true) {t:Nat} (ht:t ∈ Z2C ops oper):tmS ops v (f 0).1 s ops.size t=(f j).1 t:=by
 rw [cx.reads hs hj hns hp ht ops.size (qG _)]
 have:=Z25 hj
 rw [Nat.min_eq_right qO]
theorem Cx.tmUp (cx:Cx P o ops base nt f v M W ts) {s:Nat->Bool} (hs:Z9c ops s) {j:Nat} {oper:Oper} (hj:ops[j]? = some oper) (hns:s j=false) (t:Nat) :
 ∀ m,m<=ops.size->tmS ops v (f 0).1 (upS s j) m t=if j<m then Z7G (tmS ops v (f 0).1 s m) oper.dst (v j) t else tmS ops v (f 0).1 s m t:=by
 have hE:=Z3W cx.reg
 intro m
 induction m with
 | zero=>intro _; simp [tmS]
 | succ m ih =>
  intro hm
  have ih:=ih qO
  obtain ⟨om,hom⟩:=Zag (show m<ops.size by omega)
  simp only [tmS,hom,qD]
  rcases Nat.lt_trichotomy m j with hlt | heq | hgt
  · rw [if_neg qO] at ih ⊢
    rw [ZaR qO]
    cases s m
    · exact ih
    · exact ZcC ih
  · subst heq
    rw [if_neg qO] at ih
    rw [if_pos qO,Z4Q,hns]
    rw [hj] at hom; cases hom
    exact ZcC ih
  · rw [if_pos qO] at ih ⊢
    rw [ZaR qO]
    cases hsm:s m
    · exact ih
    · simp only [cond_true]
      by_cases hd:oper.dst=some t
      · have hne:om.dst ≠ some t:=by
         intro hd'
         rcases Z5V cx.reg hgt hj hom with hb | ⟨h1,_,_⟩
         · have:=Z34 hE (S:=fun k=>s k=true) hs m j om hom (hs m om hsm hom) hb
           rw [hns] at this; cases this
         · rw [Zcv hd (.inr hd')] at h1; cases h1
        rw [Za5 hne,ih]
        exact ZiV hd
      · rw [Za5 hd] at ih ⊢
        exact ZcC ih
theorem Cx.tmAll (cx:Cx P o ops base nt f v M W ts) {s:Nat->Bool} (hs:∀ k,k<ops.size->s k=true):∀ m,m<=ops.size -> ∀ t,tmS ops v (f 0).1 s m t=(f m).1 t:=by
 intro m
 induction m with
 | zero=>intro _ t; rfl
 | succ m ih =>
  intro hm t
  obtain ⟨om,hom⟩:=Zag (show m<ops.size by omega)
  simp only [tmS,hom,qD,hs m qO,cond_true,(cx.tr.step m om hom).2]
  exact ZcC (ih qO t)
def vbF (f:Nat->Tm × H × Nat) (base n p:Nat):FH:=⟨fun i=>if 256*base+p<=i/\i<256*base+n then HeapC.get (f (i-256*base+1)).2.1 i else HeapC.get (f p).2.1 i⟩
theorem Zct {n p k:Nat} (h:p<=k) (h':k<n):HeapC.get (vbF f base n p) (256*base+k)=HeapC.get (f (k+1)).2.1 (256*base+k):=by
 show (if _ then _ else _)=_
 rw [if_pos ⟨qO,qO⟩,Nat.add_sub_cancel_left]
theorem Z9O {n p i:Nat} (h:¬ (256*base+p<=i/\i<256*base+n)):HeapC.get (vbF f base n p) i=HeapC.get (f p).2.1 i:=by
 show (if _ then _ else _)=_
 rw [if_neg h]
theorem Cx.vbD (cx:Cx P o ops base nt f v M W ts) {p i:Nat} (hp:p<=ops.size) (h:Dn M p i):HeapC.get (vbF f base ops.size p) i=HeapC.get (f p).2.1 i:=by
 refine Z9O fun hh=>cx.can.notown hp h ⟨hh.1, ?_⟩
 have:ops.size<=256:=by
  by_cases e:ops.size=0
  · omega
  · have:=cx.k256 (show ops.size-1<ops.size by omega); omega
 omega
def nWr (ops:Array Oper) (k:Nat):Prop:=∀ oper,ops[k]? = some oper->cls oper.op ≠ 3
theorem Cx.walk1 (cx:Cx P o ops base nt f v M W ts) {k:Nat} (hk:k<ops.size) (h:nWr ops k) :
 (f (k+1)).2.2=(f k).2.2 /\ ∀ i,i ≠ 256*base+k->HeapC.get (f (k+1)).2.1 i=HeapC.get (f k).2.1 i:=by
 obtain ⟨oper,ho⟩:=Zag hk
 obtain ⟨hc,upd,hA,_,_,_⟩:=Zdl (h oper ho) (cx.tr.step k oper ho).1
 refine ⟨hc,fun i hi=>?_⟩
 rw [hA]
 cases upd with
 | none=>rfl
 | some b=>simp only [HeapC.get_set,hi,if_false]
theorem Cx.walk (cx:Cx P o ops base nt f v M W ts) {p q:Nat} (hpq:p<=q) (hq:q<=ops.size) (h:∀ k,p<=k->k<q->nWr ops k) :
 (f q).2.2=(f p).2.2 /\ ∀ i,(∀ k,p<=k->k<q->i ≠ 256*base+k)->HeapC.get (f q).2.1 i=HeapC.get (f p).2.1 i:=by
 induction q with
 | zero =>
  have:p=0:=qO
  subst this; exact ⟨rfl,fun _ _=>rfl⟩
 | succ q ih =>
  by_cases e:p=q+1
  · subst e; exact ⟨rfl,fun _ _=>rfl⟩
  · obtain ⟨h1,h2⟩:=ih qO qO (fun k a b=>h k a qO)
    obtain ⟨h3,h4⟩:=cx.walk1 (show q<ops.size by omega) (h q qO qO)
    refine ⟨h3.trans h1,fun i hi=>?_⟩
    rw [h4 i (hi q qO qO),h2 i (fun k a b=>hi k a qO)]
theorem Zj5 (ops:Array Oper):∀ d p,ops.size-p=d->p<=ops.size -> ∃ p',p<=p'/\p'<=ops.size/\(p'=ops.size ∨ ∃ oper,ops[p']? = some oper/\cls oper.op=3) /\ ∀ k,p<=k->k<p'->nWr ops k:=by
 intro d
 induction d with
 | zero=>intro p hd hp; exact ⟨p,qG _,hp,.inl qO,fun k a b=>qO⟩
 | succ d ih =>
  intro p hd hp
  obtain ⟨oper,ho⟩:=Zag (show p<ops.size by omega)
  by_cases hc:cls oper.op=3
  · exact ⟨p,qG _,hp,.inr ⟨oper,ho,hc⟩,fun k a b=>qO⟩
  · obtain ⟨p',h1,h2,h3,h4⟩:=ih (p+1) qO qO
    refine ⟨p',qO,h2,h3,fun k a b=>?_⟩
    by_cases e:k=p
    · subst e; intro oper' ho'; rw [ho] at ho'; cases ho'; exact hc
    · exact h4 k qO b
def Gd (f:Nat->Tm × H × Nat) (μ0:Mu) (w0:World) (m:ME):Prop:=w0.heap.size<=m.b ∨ ∃ j mj,μ0 j=some mj/\mj.b=m.b/\wrB (HeapC.get (f 0).2.1 j)=true
structure Inv (ops:Array Oper) (base nt:Nat) (f:Nat->Tm × H × Nat) (v:Nat->Value) (M:Nat->Mu) (μ0:Mu) (w0:World) (df:List Deferred) (s:Nat->Bool) (p:Nat) (μ:Mu) (a:Act) (w:World):Prop where
 hpn:p<=ops.size
 pre:∀ k oper,k<p->ops[k]? = some oper->cls oper.op=3->s k=true
 nW:∀ k,s k=true->p<=k->nWr ops k
 wp:p=ops.size ∨ ∃ oper,ops[p]? = some oper/\cls oper.op=3
 cl:Z9c ops s
 le0:μ0.le μ
 dom:∀ i,μ i ≠ none->Dn M p i ∨ ∃ k,s k=true/\p<=k/\k<ops.size/\i=256*base+k/\wrB (HeapC.get (f (k+1)).2.1 i)=true/\Dn M (k+1) i
 ny:∀ k,k<p->s k=false->μ (256*base+k)=none/\HeapC.get (f p).2.1 (256*base+k)=HeapC.get (f (k+1)).2.1 (256*base+k)
 rel:R μ (vbF f base ops.size p) w
 tmr:TmR μ (tmS ops v (f 0).1 s ops.size) nt a.tmps
 df:a.defers=df
 os:w.os=w0.os
 tape:w.tape=w0.tape
 output:w.output=w0.output
 size:w0.heap.size<=w.heap.size
 fr:∀ b,b<w0.heap.size->(∀ i m,μ0 i=some m->wrB (HeapC.get (f 0).2.1 i)=true->m.b ≠ b)->w.heap[b]? = w0.heap[b]?
 newb:∀ i m,μ0 i=none->μ i=some m->Gd f μ0 w0 m
variable {μ0:Mu} {w0:World} {df:List Deferred}
theorem Inv.gd (cx:Cx P o ops base nt f v M W ts) (hM:M 0=μ0) {s:Nat->Bool} {p:Nat} {a:Act} (I:Inv ops base nt f v M μ0 w0 df s p μ a w) {i:Nat} {m:ME} (hm:μ i=some m)
 (hw:wrB (HeapC.get (vbF f base ops.size p) i)=true):Gd f μ0 w0 m:=by
 cases e:μ0 i with
 | none=>exact I.newb i m e hm
 | some m0 =>
  have:=I.le0 i m0 e
  rw [hm] at this; cases this
  have hd0:Dn M 0 i:=by unfold Dn; rw [hM,e]; simp
  have hdp:=cx.can.mono (qG _) (Nat.zero_le p) I.hpn hd0
  rw [cx.vbD I.hpn hdp] at hw
  exact .inr ⟨i,_,e,rfl,cx.can.wr (qG _) (Nat.zero_le p) I.hpn hd0 hw⟩
theorem Gd.ne {b:Nat} {m:ME} (h:Gd f μ0 w0 m) (hb:b<w0.heap.size) (hn:∀ i m,μ0 i=some m->wrB (HeapC.get (f 0).2.1 i)=true->m.b ≠ b):m.b ≠ b:=by
 rcases h with h | ⟨j,mj,h1,h2,h3⟩
 · omega
 · rw [← h2]; exact hn j mj h1 h3
theorem ZdS {s:Nat->Bool} (hs:Z9c ops s) {j:Nat} {oper:Oper} (hj:ops[j]? = some oper) (hp:∀ e ∈ oper.after.toList,Region.binds .any e=true->s e.on=true):Z9c ops (upS s j):=by
 intro k o' hk ho e he hb
 have hor:s e.on=true->upS s j e.on=true:=fun h=>by simp [upS,h]
 rcases Zcu hk with h | rfl
 · exact hor (hs k o' h ho e he hb)
 · rw [hj] at ho; cases ho; exact hor (hp e he hb)
theorem Inv.step_nw (cx:Cx P o ops base nt f v M W ts) (hM:M 0=μ0) {s:Nat->Bool} {p:Nat} {a:Act} (I:Inv ops base nt f v M μ0 w0 df s p μ a w) {j:Nat} {oper:Oper} (hj:ops[j]? = some oper) (hns:s j=false)
 (hp:∀ e ∈ oper.after.toList,Region.binds .any e=true->s e.on=true) (hc:cls oper.op ≠ 3) {ro:Option Nat} {n:Nat} {K:Act->World->Prop} {Q:Exit->Act->World->Prop}
 (hK:∀ μ' a' w',Inv ops base nt f v M μ0 w0 df (upS s j) p μ' a' w'->K a' w'):wpOpIn (wd ro) n P ops Q j K a w:=by
 have hE:=Z3W cx.reg
 have hjn:=Z25 hj
 have hj256:=cx.k256 hjn
 obtain ⟨hst,hput⟩:=cx.tr.step j oper hj
 obtain ⟨hcc,upd,hA,hu1,hu2,hall⟩:=Zdl hc hst
 have hread:∀ t ∈ Z2C ops oper,(f j).1 t=tmS ops v (f 0).1 s ops.size t:=fun t ht=>(cx.read I.cl hj hns hp ht).symm
 have hb0:=cx.can.bc 0 (Nat.zero_le _)
 have hbp:base<(f p).2.2:=cx.can.bc p I.hpn
 have hheap:cls oper.op=1 -> ∀ y,rid ops (f j).1 oper=some y->HeapC.get (vbF f base ops.size p) y=HeapC.get (f j).2.1 y:=by
  intro h1 y hy
  have hdy:Dn M j y:=by
   have hval:∃ t x,(f j).1 t=some x/\Z2O x=some y:=by
    have:∃ z x,Z0j (f j).1 z=some x/\Z2O x=some y:=by
     unfold rid at hy
     split at hy
     · unfold Za1 at hy
       split at hy
       · simp only [qA] at hy; obtain ⟨x,a1,a2⟩:=hy; exact ⟨_,x,a1,a2⟩
       · simp only [qA] at hy; obtain ⟨x,a1,a2⟩:=hy; exact ⟨_,x,a1,a2⟩
       · simp only [qA] at hy; obtain ⟨x,a1,a2⟩:=hy; exact ⟨_,x,a1,a2⟩
       · simp only [qA] at hy; obtain ⟨z,_,x,a1,a2⟩:=hy; exact ⟨z,x,a1,a2⟩
       · cases hy
     · cases hy
    obtain ⟨z,x,a1,a2⟩:=this
    cases z with
    | tmp t=>exact ⟨t,x,a1,a2⟩
    | const cst =>
     simp only [Z0j] at a1
     cases hpl:Z2P cst with
     | false=>simp [hpl] at a1
     | true =>
      simp [hpl] at a1; subst a1
      rw [Zhv hpl] at a2; cases a2
    | global g=>simp [Z0j] at a1
    | func g=>simp [Z0j] at a1; subst a1; simp [Z2O] at a2
   obtain ⟨t,x,hx,hrx⟩:=hval
   obtain ⟨x',_,hv⟩:=(cx.can.tm j qO).val t x hx
   exact hv.rid hrx
  have hny:∀ k,j<=k->k<ops.size->y ≠ 256*base+k:=fun k hk hkn e=>cx.can.notown qO hdy ⟨qO,by have:=cx.k256 hkn; omega⟩
  have hone:∀ k,k<ops.size->(∀ ok,ops[k]? = some ok->cls ok.op=3->(msk ops k).testBit j=false/\(msk ops j).testBit k=false)->y ≠ 256*base+k->HeapC.get (f (k+1)).2.1 y=HeapC.get (f k).2.1 y:=by
   intro k hk hun hyk
   obtain ⟨ok,hok⟩:=Zag hk
   by_cases h3:cls ok.op=3
   · obtain ⟨u1,u2⟩:=hun ok hok h3
     exact (cx.lw j k oper ok hj hok h1 h3 u1 u2 y hy).symm
   · exact (cx.walk1 hk (fun o' ho'=>by rw [hok] at ho'; cases ho'; exact h3)).2 y hyk
  have hback:∀ k,p<=k->k<j -> ∀ ok,ops[k]? = some ok->cls ok.op=3->(msk ops k).testBit j=false/\(msk ops j).testBit k=false:=by
   intro k hpk hkj ok hok h3
   refine ⟨?_, ?_⟩
   · rw [qY]; intro hb; have:=Zom hE k j hb; omega
   · rw [qY]
     intro hb
     have hsk:=Z34 hE (S:=fun k=>s k=true) I.cl j k oper hj hp hb
     exact I.nW k hsk hpk ok hok h3
  have hfwd:∀ k,j<=k->k<p -> ∀ ok,ops[k]? = some ok->cls ok.op=3->(msk ops k).testBit j=false/\(msk ops j).testBit k=false:=by
   intro k hjk hkp ok hok h3
   refine ⟨?_, ?_⟩
   · rw [qY]; intro hb
     have hsk:=I.pre k ok hkp hok h3
     have:=Z34 hE (S:=fun k=>s k=true) I.cl k j ok hok (I.cl k ok hsk hok) hb
     rw [hns] at this; cases this
   · rw [qY]; intro hb; have:=Zom hE j k hb; omega
  by_cases hown:256*base+p<=y/\y<256*base+ops.size
  · -- a block that this region laid
    obtain ⟨k,rfl⟩:∃ k,y=256*base+k:=⟨y-256*base,qO⟩
    have hpk:p<=k:=qO
    have hkn:k<ops.size:=qO
    have hkj:k<j:=by
     by_cases hh:k<j
     · exact hh
     · exact absurd rfl (hny k qO hkn)
    rw [Zct hpk hkn]
    have:∀ q,k+1<=q->q<=j->HeapC.get (f q).2.1 (256*base+k)=HeapC.get (f (k+1)).2.1 (256*base+k):=by
     intro q
     induction q with
     | zero=>intro h; omega
     | succ q ih =>
      intro h h'
      by_cases e:k=q
      · subst e; rfl
      · rw [hone q qO (hback q qO qO) qO,ih qO qO]
    exact (this j qO (qG _)).symm
  · rw [Z9O hown]
    by_cases hpj:p<=j
    · have:∀ q,p<=q->q<=j->HeapC.get (f q).2.1 y=HeapC.get (f p).2.1 y:=by
       intro q
       induction q with
       | zero =>
        intro h _; have:p=0:=qO
        subst this; rfl
       | succ q ih =>
        intro h h'
        by_cases e:p=q+1
        · subst e; rfl
        · rw [hone q qO (hback q qO qO) qO,ih qO qO]
      exact (this j hpj (qG _)).symm
    · have:∀ q,j<=q->q<=p->HeapC.get (f q).2.1 y=HeapC.get (f j).2.1 y:=by
       have hpn:=I.hpn
       intro q
       induction q with
       | zero =>
        intro h _; have:j=0:=qO
        subst this; rfl
       | succ q ih =>
        intro h h'
        by_cases e:j=q+1
        · subst e; rfl
        · rw [hone q qO (hfwd q qO qO) (hny q qO qO),ih qO qO]
      exact this p qO (qG _)
 have hFH:=hall (H':=FH) (fun _ _ _ _ _=>none) (tmS ops v (f 0).1 s ops.size) (vbF f base ops.size p) (f p).2.2 hread hheap
 have hON:OS (H:=FH) P (fun _ _ _ _ _=>none):=⟨(fun _ _ _ _ _ _ h=>by cases h),(fun _ _ _ _ _ _ _ _ _ _ _ _ h=>by cases h)⟩
 have hid:μ (256*base+j)=none:=by
  cases e:μ (256*base+j) with
  | none=>rfl
  | some m =>
   by_cases hjp:j<p
   · have:=(I.ny j hjp hns).1; rw [e] at this; cases this
   · rcases I.dom _ (by rw [e]; simp) with hD | ⟨k,h1,_,_,h2,_⟩
     · exact absurd ⟨qO,qO⟩ (cx.can.notown I.hpn hD)
     · have:k=j:=qO
       subst this; rw [hns] at h1; cases h1
 have hfresh:Z22 μ (f p).2.2:=by
  intro i hi
  cases e:μ i with
  | none=>rfl
  | some m =>
   rcases I.dom i (by rw [e]; simp) with hD | ⟨k,_,_,h1,h2,_⟩
   · have:=cx.can.lt I.hpn hD; omega
   · have:=cx.k256 h1; omega
 refine Zcx hON hj hFH I.tmr I.rel hid hfresh fun v' μ1 w1 hv hE1=>hK μ1 _ w1 ?_
 have hnewid:∀ i,μ i=none->μ1 i ≠ none->i=256*base+j/\2<=cls oper.op/\Z13 ops (f j).1 oper=some true:=by
  intro i h0 h1
  rcases hE1.new i h0 h1 with ⟨h,h2,h3⟩ | ⟨h,h'⟩
  · exact ⟨h,h2,by rw [Z6D hread]; exact h3⟩
  · omega
 have hupd:∀ i,μ i=none->μ1 i ≠ none -> ∃ b,upd=some b/\wrB (some b)=true/\Z2O (v j)=some (256*base+j):=by
  intro i h0 h1
  obtain ⟨_,h2,h3⟩:=hnewid i h0 h1
  rcases hu1 with h | ⟨b,hb,hw,hr,_,_⟩
  · exact absurd ⟨h2,h3⟩ (hu2 h)
  · exact ⟨b,hb,hw,hr⟩
 have hgd:∀ i m,μ0 i=none->μ1 i=some m->Gd f μ0 w0 m:=by
  intro i m h0 h1
  cases e:μ i with
  | some m' =>
   have:=hE1.mu i m' e
   rw [h1] at this; cases this
   exact I.newb i _ h0 e
  | none =>
   rcases hE1.newb i m e h1 with h | ⟨k,mk,hk,hkb,hkw⟩
   · exact .inl (Nat.le_trans I.size h)
   · have:=I.gd cx hM hk hkw
     unfold Gd at this ⊢
     rw [← hkb]; exact this
 refine { hpn:=I.hpn,pre:=?_,nW:=?_,wp:=I.wp,cl:=ZdS I.cl hj hp,le0:=fun i m h=>hE1.mu i m (I.le0 i m h),dom:=?_,ny:=?_,rel:=?_,tmr:=?_,df:=?_,os:=hE1.os.trans I.os,tape:=hE1.tape.trans I.tape,output:=hE1.output.trans I.output,size:=Nat.le_trans I.size hE1.size,fr:=?_,newb:=hgd }
 · intro k ok hk hok h3
   have:=I.pre k ok hk hok h3
   simp [upS,this]
 · intro k hk hpk
   rcases Zcu hk with h | rfl
   · exact I.nW k h hpk
   · intro o' ho'; rw [hj] at ho'; cases ho'; exact hc
 · intro i hi
   cases e:μ i with
   | some m =>
    rcases I.dom i (by rw [e]; simp) with hD | ⟨k,h1,h2⟩
    · exact .inl hD
    · exact .inr ⟨k,by simp [upS,h1],h2⟩
   | none =>
    obtain ⟨b,hb,hw,hr⟩:=hupd i e hi
    obtain ⟨rfl,_,_⟩:=hnewid i e hi
    have hDj:Dn M (j+1) (256*base+j):=by
     obtain ⟨x',hx⟩:=cx.can.val j hjn
     exact hx.rid hr
    by_cases hjp:j<p
    · exact .inl (cx.can.mono (qG _) (show j+1<=p by omega) I.hpn hDj)
    · refine .inr ⟨j,Z4Q s j,qO,hjn,rfl, ?_,hDj⟩
      rw [hA,hb]
      simp only [HeapC.get_set,if_true]
      exact hw
 · intro k hk hsk
   have hkj:k ≠ j:=by intro e; subst e; rw [Z4Q] at hsk; cases hsk
   rw [ZaR hkj] at hsk
   obtain ⟨h1,h2⟩:=I.ny k hk hsk
   refine ⟨?_,h2⟩
   cases e:μ1 (256*base+k) with
   | none=>rfl
   | some m =>
    have:=(hnewid _ h1 (by rw [e]; simp)).1
    omega
 · refine hE1.rel.cong fun i hi=>?_
   cases hu:upd with
   | none=>rfl
   | some b =>
    simp only
    rw [HeapC.get_set]
    by_cases e:i=256*base+j
    · subst e
      have hAb:HeapC.get (f (j+1)).2.1 (256*base+j)=some b:=by rw [hA,hu]; simp only [HeapC.get_set,if_true]
      simp only [if_true]
      by_cases hjp:j<p
      · rw [Z9O qO,(I.ny j hjp hns).2,hAb]
      · rw [Zct qO hjn,hAb]
    · simp only [e,if_false]
 · obtain ⟨_,_,_,hd,_⟩:=Z1i hst
   have h0:=TmR.put (a:=a) (I.tmr.mono hE1.mu) hd hv
   refine ⟨h0.size,fun t x hx=>h0.val t x ?_⟩
   rw [cx.tmUp I.cl hj hns t ops.size (qG _),if_pos hjn] at hx
   exact hx
 · rw [← I.df]; cases oper.dst <;> rfl
 · intro b hb hn
   rw [hE1.fr b (Nat.lt_of_lt_of_le hb I.size) ?_,I.fr b hb hn]
   intro i m hm hw
   exact (I.gd cx hM hm hw).ne hb hn
end
end Go.Ab
