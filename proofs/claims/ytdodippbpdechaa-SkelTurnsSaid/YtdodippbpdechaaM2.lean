/- Parts of a proof: AbMap AbApp. Conditions: none. -/
import Derived.Test.YtdodippbpdechaaM1
set_option linter.all false
set_option maxRecDepth 100000
namespace Go.Ab
open Go
variable {H:Type} [HeapC H] {P:Program} {μ:Mu} {A:H} {w:World}
theorem Z43 {α:Type} (f:α->PUnit->Sem (ForInStep PUnit)):∀ (l:List α),(∀ a ∈ l,∀ (u:PUnit) (w:World),(f a u).run P w = .ok (.yield ⟨⟩) w) -> ∀ (w:World),
 (forIn l PUnit.unit f:Sem PUnit).run P w = .ok ⟨⟩ w
 | [],_,w=>by simp
 | a::l,h,w=>by
  rw [List.forIn_cons]
  simp only [Sem.run_bind,h a (by simp),Result.andThen_ok]
  exact Z43 f l (fun b hb=>h b (by simp [hb])) w
theorem Z8D:∀ (d:Nat) {t:TypeId} {v v':Value},Z7L P d t v=true->VR μ v v' -> ∀ (em:Bool) (k:Nat) (w:World),d<=k->(Instr.checkKey em k t v').run P w = .ok () w
 | 0,t,v,v',e,hv=>by simp [Z7L] at e
 | d+1,t,v,v',e,hv=>by
  intro em k w hk
  obtain ⟨k,rfl⟩:∃ n,k=n+1:=⟨k-1,by omega⟩
  have hk:d<=k:=by omega
  have ih:=fun {t v v'}=>Z8D d (t:=t) (v:=v) (v':=v')
  unfold Z7L at e
  split at e
  · rename_i hu; obtain rfl:=hv.int_left
    simp only [Instr.checkKey,Sem.run_bind,run_underlying hu,Result.andThen_ok,Sem.run_pure]
  · rename_i hu; obtain rfl:=hv.str_left
    simp only [Instr.checkKey,Sem.run_bind,run_underlying hu,Result.andThen_ok,Sem.run_pure]
  · rename_i hu; obtain rfl:=hv.bool_left
    simp only [Instr.checkKey,Sem.run_bind,run_underlying hu,Result.andThen_ok,Sem.run_pure]
  · rename_i len el cs hu
    obtain ⟨cs',rfl,hcs⟩:=hv.agg_left
    split at e
    · rename_i n hn
      simp only [Instr.checkKey,Sem.run_bind,run_underlying hu,Result.andThen_ok]
      simp only [Std.Legacy.Range.forIn_eq_forIn_range',Std.Legacy.Range.size,Nat.sub_zero,Nat.add_one_sub_one,Nat.div_one]
      refine Eq.trans (congrArg (fun r=>Result.andThen r _) (Z43 (P:=P) _ _ (fun i hi u w=>?_) w)) rfl
      have hi':i<len:=by simpa [List.mem_range'] using hi
      have:=List.all_eq_true.1 e i (List.mem_range.2 hi')
      split at this
      · rename_i x hx
        obtain ⟨x',h1,h2⟩:=Z2C (w:=w) hx hcs
        simp only [Array.toArray_toList] at h1
        simp only [Sem.run_bind,Z0i hn,Result.andThen_ok,h1,ih this h2 em k w hk,Sem.run_pure]
      · cases this
    · cases e
  · rename_i fs cs hu
    obtain ⟨cs',rfl,hcs⟩:=hv.agg_left
    simp only [Instr.checkKey,Sem.run_bind,run_underlying hu,Result.andThen_ok]
    rw [← Array.forIn_toList]
    refine Eq.trans (congrArg (fun r=>Result.andThen r _) (Z43 (P:=P) _ _ (fun f hf u w=>?_) w)) rfl
    have:=List.all_eq_true.1 e f hf
    by_cases hn:f.name = "_"
    · simp [hn]
    · have hb:(f.name == "_")=false:=by simpa using hn
      simp only [hb,Bool.false_or] at this
      split at this
      · rename_i x hx
        obtain ⟨x',h1,h2⟩:=Z2C (w:=w) hx hcs
        simp only [Array.toArray_toList] at h1
        simp only [ne_eq,hn,not_false_eq_true,if_true,Sem.run_bind,Result.andThen_ok,h1,ih this h2 em k w hk,Sem.run_pure]
      · cases this
  · cases e
theorem EsR.left {x:Value × Value} {es:List (Value × Value)} {es':List MapEntry} (h:EsR μ (x::es) es'):∃ y ys,es'=y::ys/\VR μ x.1 y.key/\VR μ x.2 y.val/\EsR μ es ys:=by
 cases es' with
 | nil=>exact absurd h.1 (by simp)
 | cons y ys =>
  obtain ⟨h1,h2⟩:=h
  exact ⟨y,ys,rfl,(h2 0 x y (by simp) (by simp)).1,(h2 0 x y (by simp) (by simp)).2,by simpa using h1,fun k a b ha hb=>h2 (k+1) a b (by simpa using ha) (by simpa using hb)⟩
theorem EsR.nil_left {es':List MapEntry} (h:EsR μ [] es'):es'=[]:=by
 cases es' with
 | nil=>rfl
 | cons y ys=>exact absurd h.1 (by simp)
def Zm6 (μ:Mu):Option (Nat × Value)->Option (Nat × Value)->Prop
 | none,none=>True
 | some (i,v),some (j,v')=>i=j/\VR μ v v'
 | _,_=>False
theorem Z5X {kt:TypeId} {k k':Value} (hk:VR μ k k'):∀ {es:List (Value × Value)} {es':List MapEntry} {i:Nat} {r:Option (Nat × Value)},Z8L P kt k es i=some r->EsR μ es es' -> ∀ (w:World),
 ∃ r',(Instr.findAsking kt k' es' i).run P w = .ok r' w/\Zm6 μ r r'
 | [],es',i,r,e,he,w=>by
  rw [he.nil_left]
  simp [Z8L] at e
  subst e
  exact ⟨none,rfl,trivial⟩
 | (a,v)::es,es',i,r,e,he,w=>by
  obtain ⟨y,ys,rfl,h1,h2,h3⟩:=he.left
  simp only [Z8L,Option.bind_eq_some_iff] at e
  obtain ⟨b,hb,e⟩:=e
  have hq:=Zbm Z13 hb hk h1 w 10000 (by decide)
  simp only [Instr.findAsking,Sem.run_bind,Op.equal,Op.maxDepth,hq,Result.andThen_ok]
  cases b with
  | true =>
   simp only [cond_true,Option.some.injEq] at e
   subst e
   exact ⟨some (i,y.val),by simp,rfl,h2⟩
  | false =>
   simp only [cond_false] at e
   obtain ⟨r',h4,h5⟩:=Z5X hk e h3 w
   exact ⟨r',by simpa using h4,h5⟩
theorem Z9D {td:TypeDesc} {kt:TypeId} (hu:P.underlying kt=some td) {k:Value}:∀ {es:List MapEntry} {i:Nat} {r r':Option (Nat × Value)} {w:World},
 Instr.findNow td k es i=some r->(Instr.findAsking kt k es i).run P w = .ok r' w->r=r'
 | [],i,r,r',w,h,h'=>by
  simp [Instr.findNow] at h
  simp [Instr.findAsking] at h'
  rw [← h,← h']
 | e::es,i,r,r',w,h,h'=>by
  unfold Instr.findNow at h
  have key:∀ b,Instr.sameNow td k e.key=some b->(Op.equal kt k e.key).run P w = .ok b w:=by
   intro b hb
   generalize e.key=kk at hb ⊢
   unfold Instr.sameNow at hb
   split at hb
   · split at hb
     · rename_i hkk
       subst hkk
       cases hb
       exact run_equalIn_int (P:=P) w 9999 kt _ _ _ _ hu
     · cases hb
   · cases hb; rw [beq_toListBytes]; exact run_equalIn_string (P:=P) w 9999 kt _ _ hu
   · cases hb; exact run_equalIn_bool' (P:=P) w 9999 kt _ _ hu
   · cases hb
  split at h
  · rename_i hs
    cases h
    simp only [Instr.findAsking,Sem.run_bind,key _ hs,Result.andThen_ok,if_true,Sem.run_pure] at h'
    cases h'; rfl
  · rename_i hs
    simp only [Instr.findAsking,Sem.run_bind,key _ hs,Result.andThen_ok,Bool.false_eq_true,if_false] at h'
    exact Z9D hu h h'
  · cases h
theorem Z8M {kt:TypeId} {k k':Value} (hk:VR μ k k') {es:List (Value × Value)} {es':List MapEntry} {r:Option (Nat × Value)} (hko:∃ td,P.underlying kt=some td) (e:Z8L P kt k es 0=some r) (he:EsR μ es es') (w:World) :
 ∃ r',(Instr.findKey kt k' es').run P w = .ok r' w/\Zm6 μ r r':=by
 obtain ⟨td,hu⟩:=hko
 obtain ⟨r',h1,h2⟩:=Z5X hk e he w
 refine ⟨r', ?_,h2⟩
 simp only [Instr.findKey,Sem.run_bind,run_underlying hu,Result.andThen_ok]
 split
 · rename_i q hq
   rw [Z9D hu hq h1]
   rfl
 · exact h1
theorem Z8C {d:Nat} {t:TypeId} {v:Value} (h:Z7L P d t v=true):∃ td,P.underlying t=some td:=by
 cases d with
 | zero=>simp [Z7L] at h
 | succ d=>unfold Z7L at h; split at h <;> first | exact ⟨_,by assumption⟩ | cases h
theorem Z6p {t:TypeId} {ke:TypeId × TypeId} (h:ZmG P t=some ke):P.underlying t=some (.map ke.1 ke.2):=by
 unfold ZmG at h
 split at h
 · cases h; assumption
 · cases h
theorem Z2s {b:Nat} {es:Array MapEntry} {clk:Nat} (h:w.heap[b]? = some (.map es clk)):(getObj b).run P w = .ok (.map es clk) w:=by
 simp [getObj,Sem.run,h]
theorem Zdb (hR:R μ A w) {t:TypeId} {m m' k k' v:Value} {ok:Bool} (e:Z5t P A t m k ok=some v) (hm:VR μ m m') (hk:VR μ k k') :
 ∃ v',(Instr.lookup t m' k' ok).run P w = .ok v' w/\VR μ v v':=by
 simp only [Z5t,Option.bind_eq_some_iff] at e
 obtain ⟨ke,hke,e⟩:=e
 obtain ⟨hkok,e⟩:=Z05 e
 simp only [Option.bind_eq_some_iff] at e
 obtain ⟨z,hz,e⟩:=e
 obtain ⟨hpz,e⟩:=Z05 e
 simp only [Option.bind_eq_some_iff] at e
 obtain ⟨es,hes,r,hr,e⟩:=e
 have hu:=Z6p hke
 have hentries:(m' = .map none/\es=[]) ∨ ∃ (b:Nat) (es':Array MapEntry) (clk:Nat),m' = .map (some b)/\w.heap[b]? = some (.map es' clk)/\EsR μ es es'.toList:=by
  split at hes
  · cases hes
    cases hm
    exact .inl ⟨rfl,rfl⟩
  · rename_i i
    split at hes
    · cases hes
      rename_i hg
      cases hm with
      | map hm =>
       have hb:=hR.blk _ _ hm
       rw [hg] at hb
       obtain ⟨es',clk,h1,h2⟩:=hb
       exact .inr ⟨_,es',clk,rfl,h1,h2⟩
    · cases hes
  · cases hes
 have hrun:∃ es':Array MapEntry,EsR μ es es'.toList /\ ∀ x,((Instr.checkKey es'.isEmpty 10000 ke.1 k').run P w = .ok () w)->(Instr.findKey ke.1 k' es'.toList).run P w = .ok x w →
  (Instr.lookup t m' k' ok).run P w=(do
   let (v,ok') ← match x with
    | some (_,v)=>pure (v,true)
    | none=>pure (← zeroValue ke.2,false)
   pure (if ok then .tuple #[v,.bool ok'] else v):Sem Value).run P w:=by
  rcases hentries with ⟨rfl,rfl⟩ | ⟨b,es',clk,rfl,h1,h2⟩
  · refine ⟨#[],⟨rfl,by simp⟩,fun x hc hx=>?_⟩
    simp only [Instr.lookup,Sem.run_bind,run_underlying hu,Result.andThen_ok,Sem.run_pure,hc,hx]
    cases x <;> rfl
  · refine ⟨es',h2,fun x hc hx=>?_⟩
    simp only [Instr.lookup,Sem.run_bind,run_underlying hu,Result.andThen_ok,Z2s h1,Sem.run_pure,hc,hx]
    cases x <;> rfl
 obtain ⟨es',he,hrun⟩:=hrun
 obtain ⟨r',h1,h2⟩:=Z8M (P:=P) hk (Z8C hkok) hr he w
 have hck:=Z8D Z13 hkok hk (es'.isEmpty) 10000 w (by decide)
 rw [hrun r' hck h1]
 cases r with
 | none =>
  cases r' with
  | some _=>exact h2.elim
  | none =>
   simp only at e
   have hvz:VR μ z z:=VR.plainL hpz
   cases ok with
   | true =>
    simp at e; subst e
    exact ⟨.tuple #[z,.bool false],by simp [Z0y hz],VR.tuple_iff.2 (VRs.cons hvz (VRs.cons (.bool _) (VRs.nil μ)))⟩
   | false =>
    simp at e; subst e
    exact ⟨z,by simp [Z0y hz],hvz⟩
 | some p =>
  cases r' with
  | none=>exact h2.elim
  | some p' =>
   obtain ⟨i,x⟩:=p
   obtain ⟨j,y⟩:=p'
   obtain ⟨rfl,hv⟩:=h2
   simp only at e
   cases ok with
   | true =>
    simp at e; subst e
    exact ⟨.tuple #[y,.bool true],by simp,VR.tuple_iff.2 (VRs.cons hv (VRs.cons (.bool _) (VRs.nil μ)))⟩
   | false =>
    simp at e; subst e
    exact ⟨y,by simp,hv⟩
theorem EsR.append {es fs:List (Value × Value)} {es' fs':List MapEntry} (h:EsR μ es es') (k:EsR μ fs fs'):EsR μ (es++fs) (es'++fs'):=by
 refine ⟨by simp [h.1,k.1],fun n x y hx hy=>?_⟩
 rw [List.getElem?_append] at hx hy
 rw [h.1] at hx
 split at hx
 · rename_i hn; rw [if_pos hn] at hy; exact h.2 n x y hx hy
 · rename_i hn; rw [if_neg hn] at hy; exact k.2 _ x y hx hy
theorem EsR.one {k v:Value} {e:MapEntry} (h1:VR μ k e.key) (h2:VR μ v e.val):EsR μ [(k,v)] [e]:=by
 refine ⟨rfl,fun n x y hx hy=>?_⟩
 cases n with
 | zero=>simp at hx hy; subst hx; subst hy; exact ⟨h1,h2⟩
 | succ n=>simp at hx
theorem VR.plain_eq {v v':Value} (h:Z2G v=true) (hv:VR μ v v'):v'=v:=by
 cases hv <;> simp [Z2G] at h <;> rfl
theorem VRs.plain_eq {xs ys:List Value} (h:xs.all Z2G=true) (hv:VRs μ xs ys):ys=xs:=by
 induction xs generalizing ys with
 | nil=>exact hv.nil_left
 | cons x xs ih =>
  obtain ⟨y,zs,rfl,h1,h2⟩:=hv.left
  simp only [List.all_cons,Bool.and_eq_true] at h
  rw [h1.plain_eq h.1,ih h.2 h2]
theorem VR.plainL_eq {v v':Value} (h:Ab.plainL v=true) (hv:VR μ v v'):v'=v:=by
 cases v with
 | agg cs =>
  obtain ⟨cs',rfl,hr⟩:=hv.agg_left
  have:=VRs.plain_eq h hr
  congr 1
  exact Array.ext' this
 | _=>exact hv.plain_eq h
theorem EsR.set {es:List (Value × Value)} {es':List MapEntry} (h:EsR μ es es') {j:Nat} {k v:Value} {e:MapEntry} (h1:VR μ k e.key) (h2:VR μ v e.val):EsR μ (es.set j (k,v)) (es'.set j e):=by
 refine ⟨by simp [h.1],fun n x y hx hy=>?_⟩
 rw [List.getElem?_set] at hx hy
 by_cases hj:j=n
 · simp only [hj,if_true] at hx hy
   split at hx
   · split at hy
     · cases hx; cases hy; exact ⟨h1,h2⟩
     · cases hy
   · cases hx
 · simp only [hj,if_false] at hx hy
   exact h.2 n x y hx hy
theorem Z5R {b:Nat} {es:Array MapEntry} {clk:Nat} (h:w.heap[b]? = some (.map es clk)) (o:Obj):(setObj b o).run P w = .ok () { w with heap:=w.heap.setIfInBounds b o }:=by
 simp [setObj,Sem.run,h]
theorem Ext.setObj {c:Nat} {own:Nat->Prop} (hR:R μ A w) {i:Nat} {m:ME} (hm:μ i=some m) (hw:wrB (HeapC.get A i)=true) {blk:ABlk} (hn:wrB (some blk)=true) {o:Obj}
 (hb:∀ h:Array Obj,h[m.b]? = some o->Z6P μ m h (some blk)) :
 Ext μ A c w own μ (HeapC.set A i blk) c { w with heap:=w.heap.setIfInBounds m.b o }:=by
 refine Ext.write hR hm hw hn rfl rfl rfl (by simp) (fun b hne=>by simp only; rw [Array.getElem?_setIfInBounds_ne (Ne.symm hne)]) (hb _ ?_)
 have:=hR.lt i m hm
 simp [this]
theorem Z60 {c:Nat} {own:Nat->Prop} (hR:R μ A w) {t:TypeId} {m m' k k' v v':Value} {A':H} (e:Z0D P A t m k v=some A') (hm:VR μ m m') (hk:VR μ k k') (hv:VR μ v v') :
 ∃ w',(Instr.mapUpdate t m' k' v').run P w = .ok () w'/\Ext μ A c w own μ A' c w':=by
 simp only [Z0D,Option.bind_eq_some_iff] at e
 obtain ⟨ke,hke,e1⟩:=e
 obtain ⟨hkok,e⟩:=Z05 e1
 clear e1
 simp only [Bool.and_eq_true] at hkok
 obtain ⟨hkok,hpk⟩:=hkok
 have hu:=Z6p hke
 split at e
 · rename_i i
   split at e
   · rename_i es hg
     simp only [Option.bind_eq_some_iff] at e
     obtain ⟨r,hr,e⟩:=e
     cases hm with
     | @map _ me hm =>
      have hb:=hR.blk _ _ hm
      rw [hg] at hb
      obtain ⟨es',clk,h1,h2⟩:=hb
      obtain ⟨r',h3,h4⟩:=Z8M (P:=P) hk (Z8C hkok) hr h2 w
      have hck:=Z8D Z13 hkok hk false 10000 w (by decide)
      have hw:wrB (HeapC.get A i)=true:=by rw [hg]; rfl
      cases r with
      | some p =>
       obtain ⟨j,x⟩:=p
       cases r' with
       | none=>exact h4.elim
       | some p' =>
        obtain ⟨j',y⟩:=p'
        obtain ⟨rfl,_⟩:=h4
        simp only at e
        split at e
        · rename_i old ov hj
          obtain ⟨hs,e⟩:=Z05 e
          simp only [Bool.and_eq_true] at hs
          cases e
          have hjl:j<es'.size:=by have:=(List.getElem?_eq_some_iff.1 hj).1; have:=h2.1; simp at this; omega
          have hje:es'[j]? = some es'[j]:=Array.getElem?_eq_getElem hjl
          have hold:=(h2.2 j (old,ov) es'[j] hj (by simpa using hje)).1
          have ho:=hold.plainL_eq hs.1
          have hk2:=hk.plainL_eq hpk
          refine ⟨_, ?_,Ext.setObj hR hm hw rfl (o:=.map (es'.setIfInBounds j { es'[j] with key:=k',val:=v' }) clk) (fun h hh=>⟨_,clk,hh, ?_⟩)⟩
          · have hks:(Instr.keyThatStays es'[j].key k').run P w = .ok k' w:=by
             rw [ho,hk2]
             simp [Instr.keyThatStays,hs.2]
            simp only [Instr.mapUpdate,Sem.run_bind,run_underlying hu,Result.andThen_ok,Z2s h1,hck,h3,hje,Option.map_some,Option.getD_some,hks]
            rw [Z5R h1]
            congr 4
          · rw [Array.toList_setIfInBounds]
            exact h2.set hk hv
        · cases e
      | none =>
       cases r' with
       | some _=>exact h4.elim
       | none =>
        simp only at e
        cases e
        refine ⟨_, ?_,Ext.setObj hR hm hw rfl (o:=.map (es'.push { key:=k',val:=v',born:=clk }) (clk+1)) (fun h hh=>⟨_,_,hh, ?_⟩)⟩
        · simp only [Instr.mapUpdate,Sem.run_bind,run_underlying hu,Result.andThen_ok,Z2s h1,hck,h3]
          rw [Z5R h1]
        · rw [Array.toList_push]
          exact h2.append (EsR.one hk hv)
   · cases e
 · cases e
theorem Zlt (hR:R μ A w) {t:TypeId} {x x' v:Value} {ts':List TypeId} {xs':List Value} {ty:TypeId} (e:ZbZ P A t x=some v) (hx:VR μ x x') :
 ∃ v',(Builtin.len_ (t::ts').toArray ty (x'::xs').toArray).run P w = .ok v' w/\VR μ v v':=by
 unfold ZbZ at e
 split at e
 · rename_i hu; cases e; obtain rfl:=hx.str_left
   exact ⟨goInt _,by simp [Builtin.len_,run_underlying hu],VR.int .i64 _⟩
 · rename_i hu; cases e
   exact ⟨goInt _,by simp only [Builtin.len_,List.getElem?_toArray,List.getElem?_cons_zero,Sem.run_bind,run_underlying hu,Result.andThen_ok,Sem.run_pure],VR.int .i64 _⟩
 · rename_i hu; cases e
   cases hx with
   | sl0=>exact ⟨goInt _,by simp [Builtin.len_,run_underlying hu],VR.int .i64 _⟩
   | sl=>exact ⟨goInt _,by simp [Builtin.len_,run_underlying hu],VR.int .i64 _⟩
   | slE=>exact ⟨goInt _,by simp [Builtin.len_,run_underlying hu],VR.int .i64 _⟩
 · rename_i hu; cases e
   cases hx
   exact ⟨goInt _,by simp [Builtin.len_,run_underlying hu],VR.int .i64 _⟩
 · rename_i hu
   split at e
   · rename_i hg
     cases e
     cases hx with
     | map hm =>
      have hb:=hR.blk _ _ hm
      rw [hg] at hb
      obtain ⟨es',clk,h1,h2⟩:=hb
      refine ⟨goInt es'.size,by simp only [Builtin.len_,List.getElem?_toArray,List.getElem?_cons_zero,Sem.run_bind,run_underlying hu,Result.andThen_ok,Sem.run_pure,Z2s h1], ?_⟩
      rw [h2.1]
      simp only [Array.length_toList]
      exact VR.int .i64 _
   · cases e
 · cases e
theorem Zj4 {x y x' y' v:Value} (e:max2 x y=some v) (hx:VR μ x x') (hy:VR μ y y'):(Builtin.max2 x' y').run P w = .ok v w/\VR μ v v:=by
 unfold max2 at e
 split at e
 · obtain ⟨_,e⟩:=Z05 e; cases e; obtain rfl:=hx.int_left; obtain rfl:=hy.int_left; exact ⟨rfl,.int _ _⟩
 · cases e
theorem Zj2 {x y x' y' v:Value} (e:min2 x y=some v) (hx:VR μ x x') (hy:VR μ y y'):(Builtin.min2 x' y').run P w = .ok v w/\VR μ v v:=by
 unfold min2 at e
 split at e
 · obtain ⟨_,e⟩:=Z05 e; cases e; obtain rfl:=hx.int_left; obtain rfl:=hy.int_left; exact ⟨rfl,.int _ _⟩
 · cases e
theorem Z6Z {f:Value->Value->Option Value} {g:Value->Value->Sem Value}
 (h:∀ {x y x' y' v:Value},f x y=some v->VR μ x x'->VR μ y y' -> ∃ v',(g x' y').run P w = .ok v' w/\VR μ v v') :
 ∀ {xs xs':List Value} {a a' v:Value},xs.foldlM f a=some v->VRs μ xs xs'->VR μ a a' -> ∃ v',(xs'.foldlM g a').run P w = .ok v' w/\VR μ v v'
 | [],xs',a,a',v,e,hx,ha=>by rw [hx.nil_left]; simp at e; subst e; exact ⟨a',rfl,ha⟩
 | x::xs,xs',a,a',v,e,hx,ha=>by
  obtain ⟨y,ys,rfl,h1,h2⟩:=hx.left
  rw [List.foldlM_cons] at e
  simp only [bind,Option.bind_eq_some_iff] at e
  obtain ⟨b,hb,e⟩:=e
  obtain ⟨b',h3,h4⟩:=h hb ha h1
  obtain ⟨v',h5,h6⟩:=Z6Z h e h2 h4
  exact ⟨v',by rw [List.foldlM_cons]; simp only [Sem.run_bind,h3,Result.andThen_ok,h5],h6⟩
end Go.Ab

namespace Go.Ab
open Go
variable {H:Type} [HeapC H] {P:Program} {μ:Mu} {A:H} {w:World}
theorem ZbN (need:Nat) (h256:256<=need):∀ (r c:Nat),c<=2*need->Builtin.growBy need r c<=2*need
 | 0,c,h=>h
 | r+1,c,h=>by
  unfold Builtin.growBy
  split
  · exact h
  · exact ZbN need h256 r _ qO
theorem Z9x {need c:Nat} (h:c<need):Builtin.nextslicecap need c<=2*need:=by
 unfold Builtin.nextslicecap
 split
 · omega
 · split
   · omega
   · exact ZbN need qO 4 c qO
def SrcR (P:Program) (μ:Mu) (w:World) (xs:List Value) (ap:Sem (Array Value)):Prop :=
 ∃ ys:List Value,VRs μ xs ys /\ ∀ w':World,w'.heap=w.heap->ap.run P w' = .ok ys.toArray w'
theorem cell?_heap {w w':World} (h:w'.heap=w.heap) (a:Addr):w'.cell? a=w.cell? a:=by simp [World.cell?,h]
theorem Z5W (hR:R μ A w) {sz:Nat} {x x':Value} {cs:List Value} {n:Nat} (e:Z0A A sz x=some (cs,n)) (hx:VR μ x x') :
 (Builtin.lenOf x').run P w = .ok n w/\SrcR P μ w cs (Builtin.firstCells sz n x'):=by
 unfold Z0A at e
 split at e
 · obtain ⟨hn,e⟩:=Z05 e
   cases e
   have hn:=Nat.eq_of_beq_eq_true hn
   subst hn
   cases hx
   exact ⟨rfl,[],VRs.nil μ,fun w' _=>rfl⟩
 · rename_i i o n0 c
   simp only [Option.bind_eq_some_iff] at e
   obtain ⟨cs0,hcs,e⟩:=e
   cases e
   cases hx with
   | @sl _ _ _ _ c' m hm hc hz =>
    obtain ⟨hl,cs',h1,h2⟩:=Z1G hR hm hcs
    refine ⟨rfl,cs',h1,fun w' hw'=>?_⟩
    simp only [Builtin.firstCells]
    exact Z2E (P:=P) (w:=w') (cs:=cs') (by rw [← h1.1]; exact hl) (fun j v hv=>by rw [Z5Z,cell?_heap hw']; exact h2 j v hv)
   | @slE _ _ x m hm =>
    obtain ⟨hl,_⟩:=Z1G hR hm hcs
    simp at hl
    subst hl
    exact ⟨rfl,[],VRs.nil μ,fun w' hw'=>by simp [Builtin.firstCells,loadCells,loadCellsFrom]⟩
 · rename_i s
   obtain ⟨hs,e⟩:=Z05 e
   cases e
   obtain rfl:=hx.str_left
   refine ⟨rfl,s.data.toList.map fun b=>.int .u8 b.toNat, ?_,fun w' _=>?_⟩
   rotate_left
   · simp only [Builtin.firstCells,Sem.run_pure]
     congr 1
     apply Array.ext'
     simp
   · exact VRs.plain (List.all_eq_true.2 (by intro x hx; simp only [List.mem_map] at hx; obtain ⟨b,_,rfl⟩:=hx; rfl))
 · cases e
theorem Z5h (z:Array Value) (n:Nat):Builtin.zeroCells z n=(Z1n z.toList n).toArray:=by
 apply Array.ext'
 simpa [Builtin.zeroCells] using Z61 z n
theorem ZiE {s':Value} {sLen cap' n size by':Nat} {el:TypeId} {zv:Value} (hz:Z6Q P el=some zv) (hplain:plainL zv=true) {need:Nat} (hneed:need=sLen+n)
 {old new:List Value} {ap:Sem (Array Value)} (hold:∀ w':World,w'.heap=w.heap->(Builtin.firstCells size sLen s').run P w' = .ok old.toArray w')
 (hap:∀ w':World,w'.heap=w.heap->ap.run P w' = .ok new.toArray w') :
 ∃ (newCap:Nat) (w':World),need<=newCap/\(do
  let newCap ← choose (.appendCap need cap' el)
  askRoom (newCap*by')
  let old ← Builtin.firstCells size sLen s'
  let new ← ap
  let rest:=Builtin.zeroCells (← zeroValue el).cells (newCap-need)
  pure (.slice (some (← newRow el (old++new++rest))) need newCap):Sem Value).run P w = .ok (.slice (some ⟨w.heap.size,0,none⟩) need newCap) w' ∧
  w'.heap=w.heap.push (.cells (old++new++Z1n zv.cells.toList (newCap-need)).toArray el)/\w'.os=w.os/\w'.tape=w.tape/\w'.output=w.output:=by
 have hq:(Question.appendCap need cap' el).forced=false:=rfl
 let w1:World:={ w with drawn:=w.drawn+1 }
 let nc:=(Question.appendCap need cap' el).cut (w.tape w.drawn (.appendCap need cap' el))
 have hnc:need<=nc:=by show need<=need+_; omega
 refine ⟨nc,{ w1 with heap:=w1.heap.push (.cells (old++new++Z1n zv.cells.toList (nc-need)).toArray el) },hnc, ?_,rfl,rfl,rfl,rfl⟩
 have h1:(choose (.appendCap need cap' el)).run P w = .ok nc w1:=by rw [run_choose,hq]; rfl
 simp only [Sem.run_bind,h1,Result.andThen_ok,run_askRoom,hold w1 rfl,hap w1 rfl,Z0y hz,Z5h,newRow,run_newObj,Sem.run_pure]
 simp [w1]
def Z0Z (el:TypeId) (size:Nat) (s:Value) (n:Nat) (ap:Sem (Array Value)) (by':Nat):Sem Value :=
 match s with
 | .slice base sLen sCap =>
  if sLen+n<=sCap then do
   let new ← ap
   if let some a:=base then storeCells (a.add (sLen*size)) new.toList
   pure (.slice base (sLen+n) sCap)
  else do
   let newCap ← choose (.appendCap (sLen+n) sCap el)
   askRoom (newCap*by')
   let old ← Builtin.firstCells size sLen s
   let new ← ap
   let rest:=Builtin.zeroCells (← zeroValue el).cells (newCap-(sLen+n))
   pure (.slice (some (← newRow el (old++new++rest))) (sLen+n) newCap)
 | _=>stuck ""
theorem Zi7 {m:ME} {cs cs':List Value} {rest:List Value} {h:Array Obj} {E:TypeId} {e:Nat} {μ':Mu} (hcs:VRs μ' cs cs') (hm:m.s=0)
 (hh:h[m.b]? = some (.cells (cs'++rest).toArray E)) (ho:m.opn=some (e,(cs'++rest).length)):Z6P μ' m h (some (.cells false (some e) cs)):=by
 refine ⟨(cs'++rest).toArray,E,(0,0),hh,fun k x hx=>?_,fun _=>rfl,by rw [ho]; simp⟩
 obtain ⟨y,hy,hv⟩:=hcs.get hx
 have hlt:=(List.getElem?_eq_some_iff.1 hy).1
 exact ⟨y,by rw [hm,Nat.zero_add,List.getElem?_toArray,List.getElem?_append_left hlt]; exact hy,hv⟩
theorem R.kill (hR:R μ A w) (i:Nat):R μ (HeapC.set A i .dead) w where
 blk:=fun j mj hj=>by
  rw [HeapC.get_set]
  by_cases e:j=i
  · simp only [e,if_true]; trivial
  · simp only [e,if_false]; exact hR.blk j mj hj
 inj:=fun a b ma mb ha hb hn=>by
  rw [HeapC.get_set,HeapC.get_set]
  by_cases ea:a=i <;> by_cases eb:b=i
  · exact absurd (ea.trans eb.symm) hn
  · simp only [ea,if_true]; intro h; simp [Z2o] at h
  · simp only [eb,if_true]; intro _ h; simp [Z2o] at h
  · simp only [ea,eb,if_false]; exact hR.inj a b ma mb ha hb hn
 lt:=hR.lt
theorem Ext.kill {c:Nat} {own:Nat->Prop} (hR:R μ A w) {i:Nat} (hi:(μ i).isSome=true):Ext μ A c w own μ (HeapC.set A i .dead) c w :=
 { Ext.refl (own:=own) (c:=c) hR with
  rel:=hR.kill i
  af:=fun j h1 _ _=>by
   rw [HeapC.get_set,if_neg]
   intro e; subst e; rw [h1] at hi; cases hi
  wrm:=fun j mj hj h=>by
   rw [HeapC.get_set] at h
   by_cases e:j=i
   · simp [e,wrB] at h
   · simpa [e] using h
  dd:=fun j mj hj h=>by
   rw [HeapC.get_set]
   by_cases e:j=i
   · simp [e,Z2o]
   · simpa [e] using h }
theorem Z3N {c:Nat} (hR:R μ A w) {id:Nat} (hid:μ id=none) {el:TypeId} {sz by' cap' len n:Nat} {zv s':Value} (hz:Z6Q P el=some zv) (hplain:plainL zv=true) (hzs:zv.cells.size=sz)
 {old old' new ys:List Value} (ho:VRs μ old old') (hn:VRs μ new ys) (hol:old.length=len*sz) (hnl:new.length=n*sz) {ap:Sem (Array Value)}
 (hold:∀ w':World,w'.heap=w.heap->(Builtin.firstCells sz len s').run P w' = .ok old'.toArray w') (hap:∀ w':World,w'.heap=w.heap->ap.run P w' = .ok ys.toArray w') :
 ∃ v' μ' w',(do
  let newCap ← choose (.appendCap (len+n) cap' el)
  askRoom (newCap*by')
  let old ← Builtin.firstCells sz len s'
  let new ← ap
  let rest:=Builtin.zeroCells (← zeroValue el).cells (newCap-(len+n))
  pure (.slice (some (← newRow el (old++new++rest))) (len+n) newCap):Sem Value).run P w = .ok v' w' ∧
  VR μ' (.slice (some ⟨id,0,none⟩) (len+n) (len+n)) v'/\Ext μ A c w (fun i=>i=id) μ' (HeapC.set A id (.cells false (some sz) (old++new))) c w':=by
 obtain ⟨nc,w',h1,h2,h3,h4,h5,h6⟩:=ZiE (P:=P) (w:=w) (cap':=cap') (by':=by') hz hplain (n:=n) (need:=len+n) rfl hold hap
 have hlen:((old'++ys)++Z1n zv.cells.toList (nc-(len+n))).length=nc*sz:=by
  have e1:=ho.1
  have e2:=hn.1
  simp only [List.length_append,Z1p,Array.length_toList,hzs]
  rw [← e1,← e2,hol,hnl,← Nat.add_mul,← Nat.add_mul]
  congr 1; omega
 refine ⟨.slice (some ⟨w.heap.size,0,none⟩) (len+n) nc,μ.upd id ⟨w.heap.size,0,some (sz,nc*sz)⟩,w',h2, ?_,Ext.alloc hR hid rfl rfl h4 h5 h6 h3 ?_⟩
 · have:=VR.sl (μ:=μ.upd id ⟨w.heap.size,0,some (sz,nc*sz)⟩) (o:=0) (l:=len+n) (c:=len+n) (c':=nc) (Mu.upd_self μ id _) h1 (.inr ⟨sz,nc*sz,rfl,by simp⟩)
   simpa using this
 · exact Zi7 (E:=el) (rest:=Z1n zv.cells.toList (nc-(len+n))) ((ho.append hn).mono (Mu.le_upd hid)) rfl (by rw [h3]; simp) (by rw [hlen])
theorem Ext.inplace {c:Nat} (hR:R μ A w) {i id:Nat} (hid:μ id=none) {m me:ME} (hm:μ i=some m) (hw:wrB (HeapC.get A i)=true) (hb:me.b=m.b) {blk:ABlk} (hro:roB (some blk)=false)
 {w':World} (os:w'.os=w.os) (tape:w'.tape=w.tape) (output:w'.output=w.output) (size:w'.heap.size=w.heap.size)
 (oth:∀ b,b ≠ m.b->w'.heap[b]? = w.heap[b]?) (hblk:Z6P (μ.upd id me) me w'.heap (some blk)) :
 Ext μ A c w (fun j=>j=id) (μ.upd id me) (HeapC.set (HeapC.set A i .dead) id blk) c w':=by
 have hle:μ.le (μ.upd id me):=Mu.le_upd hid
 have hii:i ≠ id:=by intro e; subst e; rw [hid] at hm; cases hm
 have hne:∀ j mj,μ j=some mj->j ≠ id:=fun j mj hj e=>by subst e; rw [hid] at hj; cases hj
 have hcase:∀ j mj,(μ.upd id me) j=some mj->(j=id/\mj=me) ∨ (j ≠ id/\μ j=some mj):=by
  intro j mj hj
  unfold Mu.upd at hj
  by_cases e:j=id
  · simp [e] at hj; exact .inl ⟨e,hj.symm⟩
  · simp [e] at hj; exact .inr ⟨e,hj⟩
 have hget:∀ j,HeapC.get (HeapC.set (HeapC.set A i .dead) id blk) j=if j=id then some blk else if j=i then some .dead else HeapC.get A j:=by
  intro j; rw [HeapC.get_set,HeapC.get_set]
 have hdiff:∀ j mj,μ j=some mj->j ≠ i->Z2o (HeapC.get A j)=false->mj.b ≠ m.b:=fun j mj hj hji hd =>
  hR.inj j i mj m hj hm hji hd (Z1x hw) (by rw [Z4I hw]; simp)
 refine { mu:=hle,new:=fun j h1 h2=>?_,cle:=Nat.le_refl _,rel:=⟨?_, ?_, ?_⟩,af:=fun j h1 _ h3=>?_,os:=os,tape:=tape,output:=output,size:=by omega,fr:=fun b h hn=>oth b (fun e=>hn i m hm hw e.symm),wrm:=fun j mj hj h=>?_,dd:=fun j mj hj h=>by rw [hget,if_neg (hne j mj hj)]; by_cases e:j=i <;> simp [e,Z2o] <;> exact h,newb:=fun j mj h1 h2=>?_ }
 · cases e:(μ.upd id me) j with
   | none=>exact absurd e h2
   | some mj =>
    rcases hcase j mj e with ⟨rfl,_⟩ | ⟨_,e'⟩
    · exact .inl rfl
    · rw [h1] at e'; cases e'
 · intro j mj hj
   rw [hget]
   rcases hcase j mj hj with ⟨rfl,rfl⟩ | ⟨e,hj'⟩
   · simpa using hblk
   · simp only [e,if_false]
     by_cases hji:j=i
     · simp only [hji,if_true]; trivial
     · simp only [hji,if_false]
       have h0:=hR.blk j mj hj'
       cases hd:Z2o (HeapC.get A j) with
       | true =>
        unfold Z2o at hd
        split at hd
        · rename_i hg; rw [hg]; trivial
        · cases hd
       | false=>exact (h0.congr (oth _ (hdiff j mj hj' hji hd))).mono hle
 · intro a b ma mb ha hb' hn
   rw [hget,hget]
   rcases hcase a ma ha with ⟨ea,rfl⟩ | ⟨ea,ha'⟩ <;> rcases hcase b mb hb' with ⟨eb,rfl⟩ | ⟨eb,hb''⟩
   · exact absurd (ea.trans eb.symm) hn
   · simp only [eb,if_false]
     by_cases hbi:b=i
     · simp only [hbi,if_true]; intro _ h; simp [Z2o] at h
     · simp only [hbi,if_false]
       intro _ h2 _ e
       exact hdiff b mb hb'' hbi h2 qO
   · simp only [ea,if_false]
     by_cases hai:a=i
     · simp only [hai,if_true]; intro h; simp [Z2o] at h
     · simp only [hai,if_false]
       intro h1 _ _ e
       exact hdiff a ma ha' hai h1 qO
   · simp only [ea,eb,if_false]
     by_cases hai:a=i
     · simp only [hai,if_true]; intro h; simp [Z2o] at h
     · by_cases hbi:b=i
       · simp only [hbi,if_true]; intro _ h; simp [Z2o] at h
       · simp only [hai,hbi,if_false]
         exact hR.inj a b ma mb ha' hb'' hn
 · intro j mj hj
   rcases hcase j mj hj with ⟨_,rfl⟩ | ⟨_,hj'⟩
   · have:=hR.lt i m hm; omega
   · have:=hR.lt j mj hj'; omega
 · rw [hget,if_neg h3,if_neg]
   intro e; subst e; rw [hm] at h1; cases h1
 · rw [hget,if_neg (hne j mj hj)] at h
   by_cases hji:j=i
   · subst hji; exact hw
   · simpa [hji] using h
 · rcases hcase j mj h2 with ⟨_,rfl⟩ | ⟨_,hj'⟩
   · exact .inr ⟨i,m,hm,hb.symm,hw⟩
   · rw [h1] at hj'; cases hj'
theorem ZbT {c:Nat} (hR:R μ A w) {id:Nat} (hid:μ id=none) {el:TypeId} {sz by':Nat} {zv:Value} (hz:Z6Q P el=some zv) (hplain:plainL zv=true) (hzs:zv.cells.size=sz)
 {s s' v:Value} {new:List Value} {n:Nat} {A':H} (e:appTo A id sz by' s new n=some (v,A')) (hs:VR μ s s') (hnl:new.length=n*sz)
 {ap:Sem (Array Value)} (hap:SrcR P μ w new ap) :
 ∃ v' μ' w',(Z0Z el sz s' n ap by').run P w = .ok v' w'/\VR μ' v v'/\Ext μ A c w (fun i=>i=id) μ' A' c w':=by
 unfold appTo at e
 split at e
 · rename_i base len cap
   obtain ⟨ys,hyr,hap'⟩:=hap
   have hys:=hap' w rfl
   cases hfit:Nat.ble (len+n) cap with
   | true =>
    rw [hfit] at e
    have hfit:=Nat.le_of_ble_eq_true hfit
    simp only [cond_true] at e
    cases hs with
    | sl0 =>
     simp only at e
     obtain ⟨h0,e⟩:=Z05 e
     cases e
     refine ⟨_,μ,w, ?_,.sl0 _ _,Ext.refl hR⟩
     simp only [Z0Z,hfit,if_true,Sem.run_bind,hys,Result.andThen_ok,Sem.run_pure]
    | @sl i o _ _ c' m hm hc hz' =>
     simp only at e
     have hfit':len+n<=c':=by omega
     cases h0:Nat.beq new.length 0 with
     | true =>
      rw [h0] at e
      simp only [cond_true,Option.some.injEq,Prod.mk.injEq] at e
      obtain ⟨rfl,rfl⟩:=e
      have h0:=Nat.eq_of_beq_eq_true h0
      have hy0:ys=[]:=List.eq_nil_of_length_eq_zero (by rw [← hyr.1,h0])
      subst hy0
      refine ⟨.slice (some ⟨m.b,m.s+o,none⟩) (len+n) c',μ,w, ?_,.sl hm hc hz',Ext.refl hR⟩
      simp only [Z0Z,hfit',if_true,Sem.run_bind,hys,Result.andThen_ok,storeCells,Sem.run_pure]
     | false =>
      rw [h0] at e
      simp only [cond_false,Option.bind_eq_some_iff] at e
      obtain ⟨h1,hw,e⟩:=e
      cases e
      obtain ⟨w',hrun,hext⟩:=Z29 (P:=P) (c0:=c) (own:=fun i=>i=id) hR hm hyr hw
      refine ⟨.slice (some ⟨m.b,m.s+o,none⟩) (len+n) c',μ,w', ?_,.sl hm hc hz',hext⟩
      simp only [Z0Z,hfit',if_true,Sem.run_bind,hys,Result.andThen_ok,Z5Z,Nat.add_assoc] at hrun ⊢
      simp only [hrun,Result.andThen_ok,Sem.run_pure]
    | @slE i o x m hm =>
     have hn0:n=0:=by omega
     subst hn0
     have hnl0:new.length=0:=by simpa using hnl
     simp only [hnl0,show Nat.beq 0 0=true from rfl,cond_true] at e
     have hy0:ys=[]:=List.eq_nil_of_length_eq_zero (by rw [← hyr.1,hnl0])
     subst hy0
     have e:(Value.slice (some ⟨i,o,none⟩) (0+0) 0,A)=(v,A'):=by simpa using e
     cases e
     refine ⟨.slice (some ⟨m.b,x,none⟩) 0 0,μ,w, ?_,.slE hm,Ext.refl hR⟩
     simp only [Z0Z,Nat.le_refl,if_true,Sem.run_bind,hys,Result.andThen_ok,storeCells,Sem.run_pure,Nat.add_zero]
   | false =>
    rw [hfit] at e
    have hfit:¬ len+n<=cap:=by intro h; rw [Nat.ble_eq_true_of_le h] at hfit; cases hfit
    simp only [cond_false,Z1M] at e
    obtain ⟨hb,e⟩:=Z05 e
    simp only [Bool.and_eq_true] at hb
    have hflat:=hb.2
    have hb:=Nat.le_of_ble_eq_true hb.1
    cases hs with
    | sl0 =>
     simp only at e
     obtain ⟨h0,e⟩:=Z05 e
     have h0:=Nat.eq_of_beq_eq_true h0
     subst h0
     cases e
     obtain ⟨v',μ',w',h1,h2,h3⟩:=Z3N (c:=c) (cap':=cap) (by':=by') (len:=0) (n:=n) (s':=.slice none 0 cap) hR hid hz hplain hzs (VRs.nil μ) hyr (by simp) hnl (fun w' _=>rfl) hap'
     exact ⟨v',μ',w',by simp only [Z0Z,hfit,if_false]; exact h1,h2,h3⟩
    | @sl i o _ _ c' m hm hc hz' =>
     simp only [Option.bind_eq_some_iff] at e
     obtain ⟨old,hold,e⟩:=e
     obtain ⟨hol,old',hor,hocell⟩:=Z1G hR hm hold
     have hfc:∀ w':World,w'.heap=w.heap->(Builtin.firstCells sz len (.slice (some ⟨m.b,m.s+o,none⟩) len c')).run P w' = .ok old'.toArray w':=fun w' hw'=>by
      simp only [Builtin.firstCells]
      exact Z2E (P:=P) (w:=w') (cs:=old') (by rw [← hor.1]; exact hol) (fun j v hv=>by rw [Z5Z,cell?_heap hw']; exact hocell j v hv)
     have hblk:=hR.blk i m hm
     split at e
     · rename_i ro opn cs0 hg
       rw [hg] at hblk
       obtain ⟨C,E,fr,hC1,hC2,hC3,hC4⟩:=hblk
       cases opn with
       | none =>
        simp only [Option.map_none] at hC4
        simp only [Option.some.injEq,Prod.mk.injEq] at e
        obtain ⟨rfl,rfl⟩:=e
        have hcc:cap=c':=by
         rcases hz' with h | ⟨e',Z,h,_⟩
         · exact h
         · rw [hC4] at h; cases h
        subst hcc
        obtain ⟨v',μ',w',h1,h2,h3⟩:=Z3N (c:=c) (cap':=cap) (by':=by') (len:=len) (n:=n) (s':=.slice (some ⟨m.b,m.s+o,none⟩) len cap) hR hid hz hplain hzs hor hyr hol hnl hfc hap'
        exact ⟨v',μ',w',by simp only [Z0Z,hfit,if_false]; exact h1,h2,h3⟩
       | some e0 =>
        simp only [Option.map_some] at hC4
        obtain ⟨hro,e1⟩:=Z05 e
        clear e
        simp only [Bool.and_eq_true,Bool.not_eq_true'] at hro
        obtain ⟨he0,hro⟩:=hro
        have he0:=Nat.eq_of_beq_eq_true he0
        subst he0
        subst hro
        simp only [Option.some.injEq,Prod.mk.injEq] at e1
        obtain ⟨rfl,rfl⟩:=e1
        have hfr:=hC3 rfl
        subst hfr
        have hKill:=Ext.kill (c:=c) (own:=fun _=>False) hR (i:=i) (by rw [hm]; rfl)
        by_cases hin:len+n<=c'
        · -- in place
          have hZ:m.s+o+c'*e0<=C.size:=by
           rcases hz' with h | ⟨e',Z,h,hle⟩
           · omega
           · rw [hC4] at h; cases h; exact hle
          have hys_len:ys.length=n*e0:=by rw [← hyr.1,hnl]
          have hmul:(len+n)*e0<=c'*e0:=Nat.mul_le_mul_right e0 hin
          rw [Nat.add_mul] at hmul
          have hst:=run_storeCells_at (P:=P) m.b (m.s+o+len*e0) E ys 0 C w hC1 qO (hyr.flat hflat)
          refine ⟨.slice (some ⟨m.b,m.s+o,none⟩) (len+n) c',μ.upd id ⟨m.b,m.s+o,some (e0,C.size)⟩,_, ?_, ?_,
           Ext.inplace (me:=⟨m.b,m.s+o,some (e0,C.size)⟩) (w':=w.setRow m.b (C.toList.take (m.s+o+len*e0+0)++ys++C.toList.drop (m.s+o+len*e0+0+ys.length)).toArray)
            hR hid hm (by rw [hg]; rfl) rfl rfl rfl rfl rfl (setRow_size _ _ _) (fun b hbn=>setRow_other _ _ _ _ hbn) ?_⟩
          · simp only [Z0Z,hin,if_true,Sem.run_bind,hys,Result.andThen_ok,Z5Z,hst,Sem.run_pure]
          · have:=VR.sl (μ:=μ.upd id ⟨m.b,m.s+o,some (e0,C.size)⟩) (o:=0) (l:=len+n) (c:=len+n) (c':=c') (Mu.upd_self μ id _) hin (.inr ⟨e0,C.size,rfl,by simpa using hZ⟩)
            simpa using this
          · refine ⟨_,E,(0,0),setRow_heap w m.b C _ E (0,0) hC1,fun k x hk=>?_,fun _=>rfl, ?_⟩
            · have hol':old'.length=len*e0:=by rw [← hor.1,hol]
              rw [List.getElem?_append] at hk
              split at hk
              · rename_i hlt
                obtain ⟨y,hy,hv⟩:=hor.get hk
                have hcell:=hocell k y hy
                refine ⟨y, ?_,hv.mono (Mu.le_upd hid)⟩
                have hCk:C[m.s+o+k]? = some y:=by simpa [World.cell?,hC1] using hcell
                have hCl:=(Array.getElem?_eq_some_iff.1 hCk).1
                simp only [List.getElem?_toArray,Nat.add_zero]
                rw [List.getElem?_append_left (by simp; omega),List.getElem?_append_left (by simp; omega),List.getElem?_take,if_pos qO]
                simpa using hCk
              · rename_i hge
                obtain ⟨y,hy,hv⟩:=hyr.get hk
                have hyl:=(List.getElem?_eq_some_iff.1 hy).1
                refine ⟨y, ?_,hv.mono (Mu.le_upd hid)⟩
                simp only [List.getElem?_toArray,Nat.add_zero]
                rw [List.getElem?_append_left (by simp; omega),List.getElem?_append_right (by simp; omega)]
                rw [← hy]; congr 1; simp; omega
            · simp; omega
        · obtain ⟨v',μ',w',h1,h2,h3⟩:=Z3N (c:=c) (cap':=c') (by':=by') (len:=len) (n:=n) (s':=.slice (some ⟨m.b,m.s+o,none⟩) len c') hKill.rel hid hz hplain hzs hor hyr hol hnl hfc hap'
          refine ⟨v',μ',w',by simp only [Z0Z,hin,if_false]; exact h1,h2, ?_⟩
          exact (hKill.trans h3 (fun _ h=>h.elim) (fun _ h=>.inr h)).weaken (fun i h=>h.elim False.elim (fun e=>e))
     · cases e
    | @slE i o x m hm =>
     simp only [Option.bind_eq_some_iff] at e
     obtain ⟨old,hold,e⟩:=e
     obtain ⟨hol,old',hor,hocell⟩:=Z1G hR hm hold
     have hol0:old=[]:=List.eq_nil_of_length_eq_zero (by simpa using hol)
     subst hol0
     have hfc:∀ w':World,w'.heap=w.heap->(Builtin.firstCells sz 0 (.slice (some ⟨m.b,x,none⟩) 0 0)).run P w' = .ok ([]:List Value).toArray w':=fun w' hw'=>by
      simp [Builtin.firstCells,loadCells,loadCellsFrom]
     split at e
     · rename_i ro opn cs0 hg
       cases opn with
       | none =>
        simp only [Option.some.injEq,Prod.mk.injEq] at e
        obtain ⟨rfl,rfl⟩:=e
        obtain ⟨v',μ',w',h1,h2,h3⟩:=Z3N (c:=c) (cap':=0) (by':=by') (len:=0) (n:=n) (s':=.slice (some ⟨m.b,x,none⟩) 0 0) hR hid hz hplain hzs (VRs.nil μ) hyr (by simp) hnl hfc hap'
        exact ⟨v',μ',w',by simp only [Z0Z,hfit,if_false]; exact h1,h2,h3⟩
       | some e0 =>
        obtain ⟨hro,e1⟩:=Z05 e
        clear e
        simp only [Option.some.injEq,Prod.mk.injEq] at e1
        obtain ⟨rfl,rfl⟩:=e1
        have hKill:=Ext.kill (c:=c) (own:=fun _=>False) hR (i:=i) (by rw [hm]; rfl)
        obtain ⟨v',μ',w',h1,h2,h3⟩:=Z3N (c:=c) (cap':=0) (by':=by') (len:=0) (n:=n) (s':=.slice (some ⟨m.b,x,none⟩) 0 0) hKill.rel hid hz hplain hzs (VRs.nil μ) hyr (by simp) hnl hfc hap'
        refine ⟨v',μ',w',by simp only [Z0Z,hfit,if_false]; exact h1,h2, ?_⟩
        exact (hKill.trans h3 (fun _ h=>h.elim) (fun _ h=>.inr h)).weaken (fun i h=>h.elim False.elim (fun e=>e))
     · cases e
 · cases e
theorem ZbS {st xt el:TypeId} (hu:P.underlying st=some (.slice el)) {sz by' n:Nat} (hsz:Z1A P el=some sz) (hby:Z91 P el=some by') {s' x':Value} {b l c:Nat} {base:Option Addr}
 (hs:s' = .slice base l c) {td:TypeDesc} (hxt:P.underlying xt=some td) (hni:∀ k,td ≠ .int k) (hlen:(Builtin.lenOf x').run P w = .ok n w) (hneed:¬ l+n<=c->(l+n)*(by'+1)<=17592186044416) {ty:TypeId} :
 (Builtin.append_ #[st,xt] ty #[s',x']).run P w=(Z0Z el sz s' n (Builtin.firstCells sz n x') by').run P w:=by
 subst hs
 have hi:∃ i,P.info? el=some i/\i.bytes=by':=by simpa [Z91,Option.map_eq_some_iff] using hby
 obtain ⟨inf,hinf,hbytes⟩:=hi
 have h0:(#[st,xt]:Array TypeId)[0]? = some st:=rfl
 have h1:(#[st,xt]:Array TypeId)[1]? = some xt:=rfl
 have h2:(#[Value.slice base l c,x']:Array Value)[0]? = some (.slice base l c):=rfl
 have h3:(#[Value.slice base l c,x']:Array Value)[1]? = some x':=rfl
 have hmax:IntKind.i64.max=9223372036854775807:=by decide
 by_cases hfit:l+n<=c
 · cases td
   case int k=>exact absurd rfl (hni k)
   all_goals
    simp only [Builtin.append_,h0,h1,h2,h3,Sem.run_bind,run_underlying hu,run_underlying hxt,Result.andThen_ok,Z0i hsz,Sem.run_pure,Bool.false_eq_true,if_false,hlen,Z0Z,hfit,if_true,Bool.not_false]
    cases base <;> simp only [Sem.run_bind,Sem.run_pure]
 · have hneed:=hneed hfit
   have hle:l+n<=17592186044416:=Nat.le_trans (Nat.le_mul_of_pos_right _ qO) hneed
   have hbig:¬ (((l+n:Nat):Int) > IntKind.i64.max/\((false:Bool)=true ∨ by'=0)):=by rw [hmax]; omega
   have hcap:¬ (Builtin.nextslicecap (l+n) c*by' > 2 ^ 48):=by
    have h9:=Z9x (need:=l+n) (c:=c) qO
    have h10:Builtin.nextslicecap (l+n) c*by'<=2*(l+n)*by':=Nat.mul_le_mul_right _ h9
    have h11:2*(l+n)*by'<=2*((l+n)*(by'+1)):=by rw [Nat.mul_assoc]; exact Nat.mul_le_mul_left 2 (Nat.mul_le_mul_left _ qO)
    omega
   cases td
   case int k=>exact absurd rfl (hni k)
   all_goals
    simp only [Builtin.append_,h0,h1,h2,h3,Sem.run_bind,run_underlying hu,run_underlying hxt,Result.andThen_ok,Z0i hsz,Sem.run_pure,Bool.false_eq_true,if_false,hlen,Z0Z,hfit,Bool.not_false,if_true,
     Z0H hinf,hbytes]
    rw [if_neg (by rw [hmax]; omega)]
    simp only [Sem.run_bind,Z0H hinf,hbytes,Result.andThen_ok]
    rw [if_neg hcap]
    simp only [Sem.run_bind,Z0H hinf,hbytes,Result.andThen_ok,Sem.run_pure]
def Z81 (el:TypeId) (n sz:Nat):Sem (Array Value) :=
 if n*sz=0 then pure #[]
 else do pure (Builtin.zeroCells (← zeroValue el).cells n)
theorem Zbj {st xt el:TypeId} (hu:P.underlying st=some (.slice el)) {sz by' n:Nat} (hsz:Z1A P el=some sz) (hby:Z91 P el=some by') {s':Value} {b l c:Nat} {base:Option Addr}
 (hs:s' = .slice base l c) {q k:IntKind} (hxt:P.underlying xt=some (.int q)) (hn1:n<=17592186044416) (hn2:n*by'<=17592186044416) (hneed:¬ l+n<=c->(l+n)*(by'+1)<=17592186044416) {ty:TypeId} :
 (Builtin.append_ #[st,xt] ty #[s',.int k n]).run P w=(Z0Z el sz s' n (Z81 el n sz) by').run P w:=by
 subst hs
 have hi:∃ i,P.info? el=some i/\i.bytes=by':=by simpa [Z91,Option.map_eq_some_iff] using hby
 obtain ⟨inf,hinf,hbytes⟩:=hi
 have h0:(#[st,xt]:Array TypeId)[0]? = some st:=rfl
 have h1:(#[st,xt]:Array TypeId)[1]? = some xt:=rfl
 have h2:(#[Value.slice base l c,.int k n]:Array Value)[0]? = some (.slice base l c):=rfl
 have h3:(#[Value.slice base l c,.int k n]:Array Value)[1]? = some (.int k n):=rfl
 have hmax:IntKind.i64.max=9223372036854775807:=by decide
 have hwrap:IntKind.i64.wrap (n:Int)=n:=Z6R qO qO
 have hneg:¬ ((n:Int)<0):=by omega
 clear hmax
 have hmul:¬ ((n:Int)*(by':Int) > 2 ^ 48):=by
  rw [← Int.natCast_mul]
  omega
 have hpre:(Builtin.append_ #[st,xt] ty #[.slice base l c,.int k n]).run P w=(Builtin.append_ #[st,xt] ty #[.slice base l c,.int k n]).run P w:=rfl
 conv at hpre=>rhs; unfold Builtin.append_
 simp only [h0,h1,h2,h3,Sem.run_bind,run_underlying hu,run_underlying hxt,Result.andThen_ok,Z0i hsz,Sem.run_pure,if_true,asInt,asIntOf,hwrap] at hpre
 rw [if_neg hneg] at hpre
 simp only [Sem.run_bind,Z0H hinf,hbytes,Result.andThen_ok] at hpre
 rw [if_neg hmul] at hpre
 simp only [Sem.run_bind,Sem.run_pure,Result.andThen_ok,Int.toNat_natCast] at hpre
 rw [hpre]
 clear hpre hwrap hneg hmul
 by_cases hfit:l+n<=c
 · simp only [Sem.run_bind,Z0Z,hfit,if_true,Bool.not_true,Bool.false_eq_true,if_false,Z81]
   cases base <;> simp only [Sem.run_bind,Sem.run_pure]
 · have hneed:=hneed hfit
   have hle:l+n<=17592186044416:=Nat.le_trans (Nat.le_mul_of_pos_right _ qO) hneed
   have hcap:¬ (Builtin.nextslicecap (l+n) c*by' > 2 ^ 48):=by
    have h9:=Z9x (need:=l+n) (c:=c) qO
    have h10:Builtin.nextslicecap (l+n) c*by'<=2*(l+n)*by':=Nat.mul_le_mul_right _ h9
    have h11:2*(l+n)*by'<=2*((l+n)*(by'+1)):=by rw [Nat.mul_assoc]; exact Nat.mul_le_mul_left 2 (Nat.mul_le_mul_left _ qO)
    omega
   simp only [Sem.run_bind,Z0Z,hfit,if_false,Bool.not_true,Bool.false_eq_true,Z81,Z0H hinf,hbytes,Result.andThen_ok]
   rw [if_neg (by have hmax:IntKind.i64.max=9223372036854775807:=(by decide); rw [hmax]; omega)]
   simp only [Sem.run_bind,Z0H hinf,hbytes,Result.andThen_ok]
   rw [if_neg hcap]
   simp only [Sem.run_bind,Z0H hinf,hbytes,Result.andThen_ok,Sem.run_pure]
theorem VR.slice_left {base:Option Addr} {l c:Nat} {v':Value} (h:VR μ (.slice base l c) v'):∃ base' c',v' = .slice base' l c'/\c<=c':=by
 cases h with
 | sl0=>exact ⟨_,_,rfl,Nat.le_refl _⟩
 | sl hm hc hz=>exact ⟨_,_,rfl,hc⟩
 | slE hm=>exact ⟨_,_,rfl,Nat.le_refl _⟩
theorem Z9z {t:TypeId}:Z9A P t=true ↔ ∃ k,P.underlying t=some (.int k):=by
 unfold Z9A
 split
 · exact ⟨fun _=>⟨_,by assumption⟩,fun _=>rfl⟩
 · rename_i h
   constructor
   · intro h'; cases h'
   · intro h'; obtain ⟨k,hk⟩:=h'; exact absurd hk (h k)
theorem Zam {id sz by':Nat} {base:Option Addr} {len cap n:Nat} {new:List Value} {r:Value × H} (e:appTo A id sz by' (.slice base len cap) new n=some r) :
 ¬ len+n<=cap->(len+n)*(by'+1)<=17592186044416:=by
 intro h
 simp only [appTo] at e
 have hb:Nat.ble (len+n) cap=false:=by
  cases hh:Nat.ble (len+n) cap with
  | true=>exact absurd (Nat.le_of_ble_eq_true hh) h
  | false=>rfl
 rw [hb] at e
 simp only [cond_false,Z1M] at e
 obtain ⟨hc,_⟩:=Z05 e
 simp only [Bool.and_eq_true] at hc
 exact Nat.le_of_ble_eq_true hc.1
theorem Z7s (hR:R μ A w) {sz:Nat} {x x':Value} {cs:List Value} {n:Nat} (e:Z0A A sz x=some (cs,n)) (hx:VR μ x x'):cs.length=n*sz:=by
 unfold Z0A at e
 split at e
 · obtain ⟨hn,e1⟩:=Z05 e
   cases e1
   simp
 · simp only [Option.bind_eq_some_iff] at e
   obtain ⟨cs0,hcs,e⟩:=e
   cases e
   cases hx with
   | sl hm hc hz=>exact (Z1G hR hm hcs).1
   | slE hm=>exact (Z1G hR hm hcs).1
 · obtain ⟨hs,e1⟩:=Z05 e
   cases e1
   have:=Nat.eq_of_beq_eq_true hs
   rw [this]; simp
 · cases e
theorem Zde {c:Nat} (hR:R μ A w) {id:Nat} (hid:μ id=none) {ts:List TypeId} {args args':List Value} {v:Value} {A':H} {ty:TypeId} (e:Zbn P A id ts args=some (v,A')) (ha:VRs μ args args')
 : ∃ v' μ' w',(Builtin.append_ ts.toArray ty args'.toArray).run P w = .ok v' w'/\VR μ' v v'/\Ext μ A c w (fun i=>i=id) μ' A' c w':=by
 unfold Zbn at e
 split at e
 · rename_i st rest s x
   obtain ⟨s',as1,rfl,hs,ha1⟩:=ha.left
   obtain ⟨x',as2,rfl,hx,ha2⟩:=ha1.left
   rw [ha2.nil_left]
   simp only [Option.bind_eq_some_iff] at e
   obtain ⟨el,hel,sz,hsz,by',hby,z,hz,e⟩:=e
   obtain ⟨hzc,e2⟩:=Z05 e
   clear e
   have e:=e2
   clear e2
   simp only [Bool.and_eq_true] at hzc
   obtain ⟨h4,h5⟩:=hzc
   have h5:=Nat.eq_of_beq_eq_true h5
   have hu:=Z4y hel
   split at e
   · rename_i xt
     simp only [Option.bind_eq_some_iff] at e
     obtain ⟨xd,hxd,e⟩:=e
     cases s with
     | slice base l cp =>
      obtain ⟨base',c',rfl,hcc⟩:=hs.slice_left
      cases hit:Z9A P xt with
      | true =>
       rw [hit] at e
       simp only [cond_true,Option.bind_eq_some_iff] at e
       obtain ⟨n,hn,e⟩:=e
       obtain ⟨hc,e⟩:=Z05 e
       simp only [Bool.and_eq_true,decide_eq_true_eq] at hc
       obtain ⟨⟨h1,h2⟩,h3⟩:=hc
       obtain ⟨q,hq⟩:=Z9z.1 hit
       obtain ⟨k,rfl⟩:=Z6J hn
       obtain rfl:=hx.int_left
       obtain ⟨m,rfl⟩:=Int.eq_ofNat_of_zero_le h1
       rw [Int.toNat_natCast] at e
       have hzr:VRs μ (Z1n z.cells.toList m) (Z1n z.cells.toList m):=Z3I (VR.plainL (μ:=μ) h4).cells m
       have hsrc:SrcR P μ w (Z1n z.cells.toList m) (Z81 el m sz):=by
        refine ⟨Z1n z.cells.toList m,hzr,fun w' _=>?_⟩
        unfold Z81
        by_cases hm0:m*sz=0
        · rw [if_pos hm0]
          have:(Z1n z.cells.toList m).length=0:=by rw [Z1p,Array.length_toList,h5]; exact hm0
          rw [List.eq_nil_of_length_eq_zero this]; rfl
        · rw [if_neg hm0]
          simp only [Sem.run_bind,Z0y hz,Result.andThen_ok,Sem.run_pure,Z5h]
       obtain ⟨v',μ',w',r1,r2,r3⟩:=ZbT (P:=P) (w:=w) (c:=c) hR hid hz h4 h5 e hs (by rw [Z1p,Array.length_toList,h5]) hsrc
       refine ⟨v',μ',w', ?_,r2,r3⟩
       have hnd:=Zam e
       rw [← r1]
       have hmb:m*by'<=17592186044416:=by
        have h2':((m:Int)*(by':Int))<=17592186044416:=h2
        rw [← Int.natCast_mul] at h2'
        omega
       exact Zbj (P:=P) (w:=w) (b:=0) hu hsz hby rfl hq qO hmb (fun h=>hnd qO)
      | false =>
       rw [hit] at e
       simp only [cond_false,Option.bind_eq_some_iff] at e
       obtain ⟨⟨cs,n⟩,hsrc,e⟩:=e
       obtain ⟨hlen,hS⟩:=Z5W (P:=P) hR hsrc hx
       have hcl:=Z7s hR hsrc hx
       obtain ⟨v',μ',w',r1,r2,r3⟩:=ZbT (P:=P) (w:=w) (c:=c) hR hid hz h4 h5 e hs hcl hS
       refine ⟨v',μ',w', ?_,r2,r3⟩
       have hnd:=Zam e
       rw [← r1]
       refine ZbS (P:=P) (w:=w) (b:=0) hu hsz hby rfl hxd (fun k hk=>?_) hlen (fun h=>hnd qO)
       have:Z9A P xt=true:=Z9z.2 ⟨k,by rw [hxd,hk]⟩
       rw [hit] at this; cases this
     | _ =>
      exfalso
      cases hit:Z9A P xt <;> rw [hit] at e <;> simp [appTo,Option.bind_eq_some_iff] at e
   · cases e
 · cases e
theorem Zie {c:Nat} {own:Nat->Prop} (hR:R μ A w) {ts:List TypeId} {args args':List Value} {v:Value} {A':H} {ty:TypeId} (e:Zlx P A ts args=some (v,A')) (ha:VRs μ args args') :
 ∃ v' w',(Builtin.copy_ ts.toArray ty args'.toArray).run P w = .ok v' w'/\VR μ v v'/\Ext μ A c w own μ A' c w':=by
 unfold Zlx at e
 split at e
 · rename_i dt rest base dl dc sb sl sc
   obtain ⟨d',as1,rfl,hd,ha1⟩:=ha.left
   obtain ⟨s',as2,rfl,hs,ha2⟩:=ha1.left
   rw [ha2.nil_left]
   simp only [Option.bind_eq_some_iff] at e
   obtain ⟨el,hel,sz,hsz,e⟩:=e
   have hu:=Z4y hel
   obtain ⟨sb',sc',rfl,hscc⟩:=hs.slice_left
   have h0:((dt::rest).toArray:Array TypeId)[0]? = some dt:=rfl
   split at e
   · obtain ⟨hdl,e⟩:=Z05 e
     cases e
     have hdl:=Nat.eq_of_beq_eq_true hdl
     subst hdl
     cases hd
     refine ⟨goInt 0,w, ?_,VR.int .i64 _,Ext.refl hR⟩
     have hfc:(Builtin.firstCells sz 0 (.slice sb' sl sc')).run P w = .ok #[] w:=by
      cases sb' with
      | none=>rfl
      | some a=>simp [Builtin.firstCells,loadCells,loadCellsFrom]
     simp [Builtin.copy_,run_underlying hu,Builtin.lenOf,Z0i hsz,hfc]
   · rename_i i o
     simp only [Option.bind_eq_some_iff] at e
     obtain ⟨⟨cs,n⟩,hsrc,A1,hw,e⟩:=e
     cases e
     have hs2:VR μ (.slice sb (Nat.min sl dl) sc) (.slice sb' (Nat.min sl dl) sc'):=by
      cases hs with
      | sl0=>exact .sl0 _ _
      | sl hm hc hz=>exact .sl hm hc hz
      | slE hm=>rw [show Nat.min 0 dl=0 from Nat.zero_min dl]; exact .slE hm
     obtain ⟨hlen,ys,hyr,hrun⟩:=Z5W (P:=P) hR hsrc hs2
     have hn:n=Nat.min sl dl:=by
      unfold Z0A at hsrc
      split at hsrc
      · obtain ⟨hn,h9⟩:=Z05 hsrc
        cases h9
        rename_i heq
        cases heq
        exact (Nat.eq_of_beq_eq_true hn).symm
      · rename_i heq
        cases heq
        simp only [Option.bind_eq_some_iff] at hsrc
        obtain ⟨_,_,h9⟩:=hsrc
        cases h9; rfl
      · rename_i heq; cases heq
      · cases hsrc
     have hrun':(Builtin.firstCells sz (Nat.min sl dl) (.slice sb' sl sc')).run P w = .ok ys.toArray w:=by
      have:=hrun w rfl
      rw [hn] at this
      cases sb' <;> simpa [Builtin.firstCells] using this
     cases hd with
     | @sl _ _ _ _ c' m hm hc hz =>
      obtain ⟨w',hst,hext⟩:=Z29 (P:=P) (c0:=c) (own:=own) hR hm hyr hw
      refine ⟨goInt (Nat.min sl dl),w', ?_,VR.int .i64 _,hext⟩
      simp [Builtin.copy_,run_underlying hu,Builtin.lenOf,Z0i hsz,hrun',hst]
     | @slE _ _ x m hm =>
      have h00:Nat.min sl 0=0:=Nat.min_zero sl
      rw [h00] at hn hrun'
      have hcl:=Z7s hR hsrc hs2
      rw [hn] at hcl
      have hc0:cs=[]:=List.eq_nil_of_length_eq_zero (by simpa using hcl)
      subst hc0
      have hy0:ys=[]:=hyr.nil_left
      subst hy0
      obtain ⟨w',hst,hext⟩:=Z29 (P:=P) (c0:=c) (own:=own) hR hm hyr hw
      have hww:w=w':=by simpa [storeCells] using hst
      subst hww
      refine ⟨goInt (Nat.min sl 0),w, ?_,VR.int .i64 _,hext⟩
      simp [Builtin.copy_,run_underlying hu,Builtin.lenOf,Z0i hsz,hrun',storeCells]
   · cases e
 · cases e
theorem Zgd {c:Nat} {own:Nat->Prop} (hR:R μ A w) {ts:List TypeId} {args args':List Value} {v:Value} {A':H} {ty:TypeId} (e:ZeY P A ts args=some (v,A')) (ha:VRs μ args args')
 (hts:∀ t,ts.head? = some t -> ∃ td,P.underlying t=some td) :
 ∃ v' w',(Builtin.clear_ ts.toArray ty args'.toArray).run P w = .ok v' w'/\VR μ v v'/\Ext μ A c w own μ A' c w':=by
 unfold ZeY at e
 split at e
 · rename_i t rest x
   obtain ⟨x',as1,rfl,hx,ha1⟩:=ha.left
   rw [ha1.nil_left]
   obtain ⟨td,htd⟩:=hts t rfl
   have hv:VR μ (.tuple #[]) (.tuple #[]):=VR.tuple_iff.2 (VRs.nil μ)
   split at e
   · cases e
     cases hx
     refine ⟨.tuple #[],w, ?_,hv,Ext.refl hR⟩
     simp only [Builtin.clear_,List.getElem?_toArray,List.getElem?_cons_zero,Sem.run_bind,run_underlying htd,Result.andThen_ok]
     cases td <;> simp
   · rename_i i o n cp
     simp only [Option.bind_eq_some_iff] at e
     obtain ⟨el,hel,sz,hsz,z,hz,e⟩:=e
     obtain ⟨hzc,e⟩:=Z05 e
     simp only [Option.bind_eq_some_iff] at e
     obtain ⟨A1,hw,e⟩:=e
     cases e
     simp only [Bool.and_eq_true] at hzc
     have hzr:VRs μ (Z1n z.cells.toList n) (Z1n z.cells.toList n):=Z3I (VR.plainL (μ:=μ) hzc.1).cells n
     have hu:=Z4y hel
     cases hx with
     | @sl _ _ _ _ c' m hm hc hz' =>
      obtain ⟨w',hst,hext⟩:=Z29 (P:=P) (c0:=c) (own:=own) hR hm hzr hw
      refine ⟨.tuple #[],w', ?_,hv,hext⟩
      cases n with
      | zero =>
       have hww:w=w':=by simpa [storeCells,Z1n] using hst
       subst hww
       simp [Builtin.clear_,run_underlying hu]
      | succ n =>
       simp only [Builtin.clear_,List.getElem?_toArray,List.getElem?_cons_zero,Sem.run_bind,run_underlying hu,Result.andThen_ok,Z0y hz,Z5h]
       simp [hst]
     | @slE _ _ x m hm =>
      obtain ⟨w',hst,hext⟩:=Z29 (P:=P) (c0:=c) (own:=own) hR hm hzr hw
      have hww:w=w':=by simpa [storeCells,Z1n] using hst
      subst hww
      refine ⟨.tuple #[],w, ?_,hv,hext⟩
      simp [Builtin.clear_,run_underlying hu]
   · cases e
 · cases e
end Go.Ab
