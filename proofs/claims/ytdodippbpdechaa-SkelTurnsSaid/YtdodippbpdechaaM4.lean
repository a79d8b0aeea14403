/- Parts of a proof: AbCan AbDraw AbDrawW AbRegion. Conditions: none. -/
import Derived.Test.YtdodippbpdechaaM3
set_option linter.all false
set_option maxRecDepth 100000
namespace Go.Ab
open Go
variable {H:Type} [HeapC H] {P:Program} {μ:Mu} {A:H} {w:World}
structure Can (ops:Array Oper) (base nt:Nat) (f:Nat->Tm × H × Nat) (v:Nat->Value) (n:Nat) (M:Nat->Mu) (W:Nat->World) (ts:Nat->Array Value):Prop where
 tm:∀ k,k<=n->TmR (M k) (f k).1 nt (ts k)
 rel:∀ k,k<=n->R (M k) (f k).2.1 (W k)
 fresh:∀ k,k<=n->Z1Y (M k) (f k).2.2
 own:∀ k,k<=n -> ∀ j,Zij base k j->M k j=none
 bc:∀ k,k<=n->base<(f k).2.2
 ext:∀ k,k<n -> ∀ oper,ops[k]? = some oper->Ext (M k) (f k).2.1 (f k).2.2 (W k) (fun j=>j=256*base+k/\2<=cls oper.op/\Z0T ops (f k).1 oper=some true) (M (k+1)) (f (k+1)).2.1 (f (k+1)).2.2 (W (k+1))
 val:∀ k,k<n -> ∃ v',VR (M (k+1)) (v k) v'
theorem can_ex {o:Orc H} (hO:OS P o) {ops:Array Oper} {base nt:Nat} {f:Nat->Tm × H × Nat} {v:Nat->Value} (hT:Tr P o ops base nt f v)
 {μ0:Mu} {w0:World} {a0:Act} (ht:TmR μ0 (f 0).1 nt a0.tmps) (hR:R μ0 (f 0).2.1 w0) (hfr:Z1Y μ0 (f 0).2.2) (hown:∀ j,Zij base 0 j->μ0 j=none) (hbc:base<(f 0).2.2) :
 ∀ n,n<=ops.size -> ∃ M W ts,M 0=μ0/\W 0=w0/\Can ops base nt f v n M W ts:=by
 intro n
 induction n with
 | zero =>
  intro _
  refine ⟨fun _=>μ0,fun _=>w0,fun _=>a0.tmps,rfl,rfl, ?_, ?_, ?_, ?_, ?_, ?_, ?_⟩
  · intro k hk; have:k=0:=by omega
    subst this; exact ht
  · intro k hk; have:k=0:=by omega
    subst this; exact hR
  · intro k hk; have:k=0:=by omega
    subst this; exact hfr
  · intro k hk; have:k=0:=by omega
    subst this; exact hown
  · intro k hk; have:k=0:=by omega
    subst this; exact hbc
  · intro k hk; omega
  · intro k hk; omega
 | succ n ih =>
  intro hn
  obtain ⟨M,W,ts,hM0,hW0,hC⟩:=ih qO
  have hi:ops[n]? = some ops[n]:=Array.getElem?_eq_getElem qO
  obtain ⟨h1,h2⟩:=hT.step n _ hi
  have hid:M n (256*base+n)=none:=by
   obtain ⟨_,_,hlt,_,_⟩:=Z1c h1
   exact hC.own n (Nat.le_refl _) _ ⟨by omega,by omega⟩
  have hstep:=Zau (n:=0) (ro:=none) (Q:=fun _ _ _=>False) (a:=⟨ts n,[]⟩)
   (K:=fun a' w'=>∃ v' μ',a'=(⟨ts n,[]⟩:Act).put ops[n].dst v'/\VR μ' (v n) v'/\Ext (M n) (f n).2.1 (f n).2.2 (W n) (fun j=>j=256*base+n/\2<=cls ops[n].op/\Z0T ops (f n).1 ops[n]=some true) μ' (f (n+1)).2.1 (f (n+1)).2.2 w')
   hO hi h1 (hC.tm n (Nat.le_refl _)) (hC.rel n (Nat.le_refl _)) hid (hC.fresh n (Nat.le_refl _)) (fun v' μ' w' hv hE=>⟨v',μ',rfl,hv,hE⟩)
  obtain ⟨a',w',v',μ',rfl,hv,hE⟩:=Zgh hstep
  obtain ⟨_,_,hlt,hd,_⟩:=Z1c h1
  have hE':=hE.weaken (own':=fun j=>j=256*base+n) (fun j h=>h.1)
  have hbn:=hC.bc n (Nat.le_refl _)
  have hne:∀ k,k<=n->k ≠ n+1:=fun k hk=>by omega
  have hnew:∀ k,¬ k<=n->k<=n+1->k=n+1:=fun k h1 h2=>by omega
  refine ⟨fun k=>if k<=n then M k else μ',fun k=>if k<=n then W k else w',fun k=>if k<=n then ts k else ((⟨ts n,[]⟩:Act).put ops[n].dst v').tmps,by simp [hM0],by simp [hW0], ?_, ?_, ?_, ?_, ?_, ?_, ?_⟩
  · intro k hk
    by_cases h:k<=n
    · simp only [h,if_true]; exact hC.tm k h
    · simp only [h,if_false]
      have:=hnew k h hk; subst this
      rw [h2]
      exact TmR.put ((hC.tm n (Nat.le_refl _)).mono hE.mu) hd hv
  · intro k hk
    by_cases h:k<=n
    · simp only [h,if_true]; exact hC.rel k h
    · simp only [h,if_false]
      have:=hnew k h hk; subst this
      exact hE.rel
  · intro k hk
    by_cases h:k<=n
    · simp only [h,if_true]; exact hC.fresh k h
    · simp only [h,if_false]
      have:=hnew k h hk; subst this
      exact hE'.fresh (hC.fresh n (Nat.le_refl _)) (fun j hj=>by omega)
  · intro k hk j hj
    by_cases h:k<=n
    · simp only [h,if_true]; exact hC.own k h j hj
    · simp only [h,if_false]
      have:=hnew k h hk; subst this
      cases e:μ' j with
      | none=>rfl
      | some m =>
       have h0:=hC.own n (Nat.le_refl _) j ⟨by have:=hj.1; omega,hj.2⟩
       rcases hE'.new j h0 (by rw [e]; simp) with h | ⟨h,_⟩
       · have:=hj.1; omega
       · have:=hj.2; omega
  · intro k hk
    by_cases h:k<=n
    · exact hC.bc k h
    · have:=hnew k h hk; subst this
      have:=hE.cle; omega
  · intro k hk oper hop
    by_cases h:k+1<=n
    · have h':k<=n:=by omega
      simp only [h,h',if_true]; exact hC.ext k qO oper hop
    · have:k=n:=by omega
      subst this
      simp only [Nat.le_refl,if_true,h,if_false]
      rw [hi] at hop
      cases hop
      exact hE
  · intro k hk
    by_cases h:k+1<=n
    · simp only [h,if_true]; exact hC.val k qO
    · have:k=n:=by omega
      subst this
      simp only [h,if_false]
      exact ⟨v',hv⟩
section
variable {ops:Array Oper} {base nt n:Nat} {f:Nat->Tm × H × Nat} {v:Nat->Value} {M:Nat->Mu} {W:Nat->World} {ts:Nat->Array Value}
def Dn (M:Nat->Mu) (k i:Nat):Prop:=M k i ≠ none
theorem Can.mono1 (hC:Can ops base nt f v n M W ts) (hn:n<=ops.size) {k i:Nat} (hk:k<n) (h:Dn M k i):Dn M (k+1) i:=by
 have hi:ops[k]? = some ops[k]:=Array.getElem?_eq_getElem qO
 unfold Dn at h ⊢
 cases e:M k i with
 | none=>exact absurd e h
 | some m=>rw [(hC.ext k hk _ hi).mu i m e]; simp
theorem Can.mono (hC:Can ops base nt f v n M W ts) (hn:n<=ops.size) {k l i:Nat} (hkl:k<=l) (hl:l<=n) (h:Dn M k i):Dn M l i:=by
 induction l with
 | zero =>
  have:k=0:=by omega
  subst this; exact h
 | succ l ih =>
  by_cases e:k=l+1
  · subst e; exact h
  · exact hC.mono1 hn qO (ih qO qO)
theorem Can.lt (hC:Can ops base nt f v n M W ts) {k i:Nat} (hk:k<=n) (h:Dn M k i):i<256*(f k).2.2:=by
 by_cases hh:256*(f k).2.2<=i
 · exact absurd (hC.fresh k hk i hh) h
 · omega
theorem Can.notown (hC:Can ops base nt f v n M W ts) {k i:Nat} (hk:k<=n) (h:Dn M k i):¬ Zij base k i:=fun ho=>h (hC.own k hk i ho)
theorem Can.supv (hC:Can ops base nt f v n M W ts) {k:Nat} (hk:k<n):Sup (Dn M (k+1)) (v k) :=
 let ⟨v',h⟩:=hC.val k hk; ⟨M (k+1),v',h,fun i h=>h⟩
theorem Can.suptm (hC:Can ops base nt f v n M W ts) {k t:Nat} {x:Value} (hk:k<=n) (h:(f k).1 t=some x):Sup (Dn M k) x :=
 let ⟨v',_,h⟩:=(hC.tm k hk).val t x h; ⟨M k,v',h,fun i h=>h⟩
theorem Can.suph (hC:Can ops base nt f v n M W ts) {k i:Nat} (hk:k<=n) (h:Dn M k i):Zih (Dn M k) (HeapC.get (f k).2.1 i):=by
 unfold Dn at h
 cases e:M k i with
 | none=>exact absurd e h
 | some m=>exact ⟨M k,m,_,(hC.rel k hk).blk i m e,fun i h=>h⟩
theorem Can.cmono (hC:Can ops base nt f v n M W ts) (hn:n<=ops.size) {k l:Nat} (hkl:k<=l) (hl:l<=n):(f k).2.2<=(f l).2.2:=by
 induction l with
 | zero =>
  have:k=0:=by omega
  subst this; exact Nat.le_refl _
 | succ l ih =>
  by_cases e:k=l+1
  · subst e; exact Nat.le_refl _
  · have hi:ops[l]? = some ops[l]:=Array.getElem?_eq_getElem qO
    exact Nat.le_trans (ih qO qO) (hC.ext l qO _ hi).cle
theorem Can.wr (hC:Can ops base nt f v n M W ts) (hn:n<=ops.size) {k l i:Nat} (hkl:k<=l) (hl:l<=n) (h:Dn M k i) (hw:wrB (HeapC.get (f l).2.1 i)=true):wrB (HeapC.get (f k).2.1 i)=true:=by
 induction l with
 | zero =>
  have:k=0:=by omega
  subst this; exact hw
 | succ l ih =>
  by_cases e:k=l+1
  · subst e; exact hw
  · have hi:ops[l]? = some ops[l]:=Array.getElem?_eq_getElem qO
    have hd:=hC.mono hn (show k<=l by omega) qO h
    unfold Dn at hd
    cases e:M l i with
    | none=>exact absurd e hd
    | some m=>exact ih qO qO ((hC.ext l qO _ hi).wrm i m e hw)
theorem Can.dd (hC:Can ops base nt f v n M W ts) (hn:n<=ops.size) {k l i:Nat} (hkl:k<=l) (hl:l<=n) (h:Dn M k i) (hw:Z2o (HeapC.get (f k).2.1 i)=true):Z2o (HeapC.get (f l).2.1 i)=true:=by
 induction l with
 | zero =>
  have:k=0:=by omega
  subst this; exact hw
 | succ l ih =>
  by_cases e:k=l+1
  · subst e; exact hw
  · have hi:ops[l]? = some ops[l]:=Array.getElem?_eq_getElem qO
    have hd:=hC.mono hn (show k<=l by omega) qO h
    unfold Dn at hd
    cases e:M l i with
    | none=>exact absurd e hd
    | some m=>exact (hC.ext l qO _ hi).dd i m e (ih qO qO)
theorem Can.af (hC:Can ops base nt f v n M W ts) (hn:n<=ops.size) {k i:Nat} (hk:k<n) (h:¬ Dn M k i) (hi:i<256*(f k).2.2) (hne:i ≠ 256*base+k):HeapC.get (f (k+1)).2.1 i=HeapC.get (f k).2.1 i:=by
 have ho:ops[k]? = some ops[k]:=Array.getElem?_eq_getElem qO
 refine (hC.ext k hk _ ho).af i ?_ hi (fun hh=>hne hh.1)
 cases e:M k i with
 | none=>rfl
 | some m=>exact absurd (by unfold Dn; rw [e]; simp) h
theorem Can.newn (hC:Can ops base nt f v n M W ts) (hn:n<=ops.size) {k i:Nat} (hk:k<n) {oper:Oper} (ho:ops[k]? = some oper) (h:¬ Dn M k i) (h':Dn M (k+1) i) :
 (i=256*base+k/\2<=cls oper.op/\Z0T ops (f k).1 oper=some true) ∨ (256*(f k).2.2<=i/\i<256*(f (k+1)).2.2):=by
 refine (hC.ext k hk _ ho).new i ?_ h'
 cases e:M k i with
 | none=>rfl
 | some m=>exact absurd (by unfold Dn; rw [e]; simp) h
end
theorem VR.rid {v v':Value} (h:VR μ v v') {i:Nat} (e:Z2t v=some i):μ i ≠ none:=by
 cases h with
 | ptr h=>simp [Z2t] at e; subst e; rw [h]; simp
 | sl h _ _=>simp [Z2t] at e; subst e; rw [h]; simp
 | slE h=>simp [Z2t] at e; subst e; rw [h]; simp
 | map h=>simp [Z2t] at e; subst e; rw [h]; simp
 | _=>simp [Z2t] at e
theorem cls_le (op:Op):cls op<=3:=by
 unfold cls; split <;> decide
theorem Zbv {o:Orc H} {ops:Array Oper} {base j nt c c1:Nat} {tm:Tm} {A A1:H} {oper:Oper} {x:Value} (hc:cls oper.op ≠ 3) (e:Z0V P o ops base j nt tm A c oper=some (x,A1,c1)) :
 c1=c /\ ∃ upd:Option ABlk,A1=(match upd with | none=>A | some b=>HeapC.set A (256*base+j) b) ∧
  (upd=none ∨ (∃ b,upd=some b/\wrB (some b)=true/\Z2t x=some (256*base+j)/\2<=cls oper.op/\Z0T ops tm oper=some true)) ∧
  (upd=none -> ¬ (2<=cls oper.op/\Z0T ops tm oper=some true)) ∧
  ∀ {H':Type} [HeapC H'] (o':Orc H') (tm':Tm) (h':H') (c':Nat),(∀ t ∈ Z2w ops oper,tm t=tm' t)->(cls oper.op=1 -> ∀ y,rid ops tm oper=some y->HeapC.get h' y=HeapC.get A y) →
   Z0V P o' ops base j nt tm' h' c' oper=some (x,(match upd with | none=>h' | some b=>HeapC.set h' (256*base+j) b),c'):=by
 obtain ⟨b,hb,hlt,hd,he⟩:=Z1c e
 have hwc:∀ tm':Tm,(∀ t ∈ Z2w ops oper,tm t=tm' t)->Z0T ops tm' oper=some b:=by
  intro tm' htm
  rw [← hb]
  unfold Z0T
  cases hg:oper.guard with
  | none=>rfl
  | some p =>
   obtain ⟨g,want⟩:=p
   simp only
   cases hd:(ops[g]?).bind (·.dst) with
   | none=>rfl
   | some d =>
    have:tm d=tm' d:=htm d (by simp only [Z2w,hg,hd]; simp)
    simp only [Option.bind_some,this]
 have hge:∀ {H':Type} [HeapC H'] (o':Orc H') (tm':Tm) (h':H') (c':Nat),(∀ t ∈ Z2w ops oper,tm t=tm' t) →
  Z0V P o' ops base j nt tm' h' c' oper=cond b (Z0m P o' (256*base+j) tm h' c' oper.op) (some (undef,h',c')):=by
  intro H' _ o' tm' h' c' htm
  simp only [Z0V,hwc tm' htm,Option.bind_some]
  have h1:Nat.blt j 256=true:=by simp [Nat.blt]; omega
  have h2:∀ X Y:Option (Value × H' × Nat),cond (Nat.blt j 256 && (match oper.dst with | some d=>Nat.blt d nt | none=>true)) X Y=X:=by
   intro X Y
   cases hdd:oper.dst with
   | none=>rw [h1]; rfl
   | some d =>
    have:Nat.blt d nt=true:=Nat.ble_eq_true_of_le (hd d hdd)
    rw [h1]; simp only [this]; rfl
  refine (h2 _ _).trans ?_
  rw [Zag (tm:=tm') (tm':=tm) (fun y hy=>?_)]
  refine Z8W fun t ht=>(htm t ?_).symm
  subst ht
  simp only [Z2w,List.mem_append,List.mem_filterMap]
  exact .inl ⟨_,hy,rfl⟩
 rcases he with ⟨rfl,he⟩ | ⟨rfl,he⟩
 · have hcc:cls oper.op=0 ∨ cls oper.op=1 ∨ cls oper.op=2:=by have:=cls_le oper.op; omega
   rcases hcc with h0 | h1 | h2
   · obtain ⟨rfl,rfl,hf⟩:=ZlU (H':=H) h0 he
     refine ⟨rfl,none,rfl,.inl rfl,fun _ h=>by omega,fun o' tm' h' c' htm _=>?_⟩
     rw [hge o' tm' h' c' htm]
     exact (ZlU h0 he).2.2 o' h' c'
   · obtain ⟨rfl,rfl,hf⟩:=ZlV (H':=H) h1 he
     refine ⟨rfl,none,rfl,.inl rfl,fun _ h=>by omega,fun o' tm' h' c' htm hr=>?_⟩
     rw [hge o' tm' h' c' htm]
     refine (ZlV h1 he).2.2 o' h' c' (fun y hy=>hr h1 y ?_)
     simp only [rid,hb]; exact hy
   · obtain ⟨rfl,bb,hA,hw,hf⟩:=ZlW (H':=H) h2 he
     have hrid:Z2t x=some (256*base+j):=by
      cases hop:oper.op <;> rw [hop] at h2 <;> try (simp [cls] at h2; done)
      case call k =>
       obtain ⟨callee,args,ats⟩:=k
       cases callee with
       | builtin b=>cases b <;> simp [cls] at h2
       | _=>simp [cls] at h2
      all_goals
       rw [hop] at he
       simp only [Z0m,Option.bind_eq_some_iff] at he
      case alloc t =>
       obtain ⟨z,hz,he⟩:=he
       obtain ⟨_,e1⟩:=Z05 he
       cases e1; rfl
      case box t y =>
       obtain ⟨z,hz,he⟩:=he
       obtain ⟨_,e1⟩:=Z05 he
       cases e1; rfl
      case buildSlice t len ps =>
       obtain ⟨vs,hvs,cs,hcs,he⟩:=he
       cases he; rfl
      case makeMap t r =>
       cases r with
       | none=>cases he; rfl
       | some y =>
        simp only [Option.bind_eq_some_iff] at he
        obtain ⟨_,_,_,_,_,_,he⟩:=he
        cases he; rfl
      case makeSlice t l k =>
       obtain ⟨_,_,_,_,_,_,he⟩:=he
       cases he; rfl
     refine ⟨rfl,some bb,hA,.inr ⟨bb,rfl,hw,hrid,by omega,hb⟩,(fun h=>by cases h),@fun H' _ o' tm' h' c' htm _=>?_⟩
     rw [hge o' tm' h' c' htm]
     obtain ⟨_,bb',hA',_,hf'⟩:=ZlW (H':=H') h2 he
     have hbb:bb'=bb:=by
      have:=HeapC.get_set A (256*base+j) bb (256*base+j)
      rw [← hA,hA',HeapC.get_set] at this
      simpa using this
     rw [← hbb]
     exact hf' o' h' c'
 · cases he
   refine ⟨rfl,none,rfl,.inl rfl,(fun _ (h:2<=cls oper.op/\Z0T ops tm oper=some true)=>by rw [hb] at h; cases h.2),fun o' tm' h' c' htm _=>?_⟩
   rw [hge o' tm' h' c' htm]
   rfl
end Go.Ab

namespace Go.Ab
open Go
variable {H:Type} [HeapC H] {H':Type} [HeapC H'] {P:Program} {μ:Mu} {A:H} {w:World}
theorem R.cong {A':H'} (hR:R μ A w) (h:∀ i,μ i ≠ none->HeapC.get A' i=HeapC.get A i):R μ A' w where
 blk:=fun i m hm=>by rw [h i (by rw [hm]; simp)]; exact hR.blk i m hm
 inj:=fun i j mi mj hi hj hne=>by rw [h i (by rw [hi]; simp),h j (by rw [hj]; simp)]; exact hR.inj i j mi mj hi hj hne
 lt:=hR.lt
theorem Z6h {ops:Array Oper} {tm tm':Tm} {oper:Oper} (h:∀ t ∈ Z2w ops oper,tm t=tm' t):Z0T ops tm oper=Z0T ops tm' oper:=by
 unfold Z0T
 cases hg:oper.guard with
 | none=>rfl
 | some p =>
  obtain ⟨g,want⟩:=p
  simp only
  cases hd:(ops[g]?).bind (·.dst) with
  | none=>rfl
  | some d =>
   have:tm d=tm' d:=h d (by simp only [Z2w,hg,hd]; simp)
   simp only [Option.bind_some,this]
theorem Zby {o:Orc H} {ops:Array Oper} {base i nt c:Nat} {tm tm':Tm} {oper:Oper} (h:∀ t ∈ Z2w ops oper,tm t=tm' t):Z0V P o ops base i nt tm A c oper=Z0V P o ops base i nt tm' A c oper:=by
 simp only [Z0V,Z6h h]
 rw [Zag (tm:=tm) (tm':=tm')]
 intro x hx
 refine Z8W fun t ht=>h t ?_
 subst ht
 simp only [Z2w,List.mem_append,List.mem_filterMap]
 exact .inl ⟨_,hx,rfl⟩
theorem Zfd {x:Value} (h:Z2G x=true):Z2t x=none:=by
 unfold Z2G at h
 split at h <;> first | rfl | cases h
def tmS (ops:Array Oper) (v:Nat->Value) (tm0:Tm) (s:Nat->Bool):Nat->Tm
 | 0=>tm0
 | k+1=>cond (s k) (Z6O (tmS ops v tm0 s k) ((ops[k]?).bind (·.dst)) (v k)) (tmS ops v tm0 s k)
def upS (s:Nat->Bool) (j:Nat):Nat->Bool:=fun k=>s k || Nat.beq k j
theorem Z4F (s:Nat->Bool) (j:Nat):upS s j j=true:=by simp [upS]
theorem Z9p {s:Nat->Bool} {j k:Nat} (h:k ≠ j):upS s j k=s k:=by
 have:Nat.beq k j=false:=by rw [Bool.eq_false_iff]; intro hh; exact h (Nat.eq_of_beq_eq_true hh)
 simp [upS,this]
theorem Zar {s:Nat->Bool} {j k:Nat} (h:upS s j k=true):s k=true ∨ k=j:=by
 simp only [upS,Bool.or_eq_true] at h
 exact h.imp id Nat.eq_of_beq_eq_true
theorem Z8q {tm:Tm} {d:Option Tmp} {x:Value} {t:Nat} (h:d ≠ some t):Z6O tm d x t=tm t:=by
 cases d with
 | none=>rfl
 | some d =>
  have:Nat.beq t d=false:=by rw [Bool.eq_false_iff]; intro hh; exact h (by rw [Nat.eq_of_beq_eq_true hh])
  simp [Z6O,this]
theorem ZgI {tm tm':Tm} {d:Option Tmp} {x:Value} {t:Nat} (h:d=some t):Z6O tm d x t=Z6O tm' d x t:=by
 subst h; simp [Z6O]
theorem ZaA {tm tm':Tm} {d:Option Tmp} {x:Value} {t:Nat} (h:tm t=tm' t):Z6O tm d x t=Z6O tm' d x t:=by
 cases d with
 | none=>exact h
 | some d=>simp only [Z6O]; cases Nat.beq t d <;> simp [h]
structure Cx (P:Program) (o:Orc H) (ops:Array Oper) (base nt:Nat) (f:Nat->Tm × H × Nat) (v:Nat->Value) (M:Nat->Mu) (W:Nat->World) (ts:Nat->Array Value):Prop where
 reg:Z8o ops=true
 tr:Tr P o ops base nt f v
 can:Can ops base nt f v ops.size M W ts
 lw:∀ i j a b,ops[i]? = some a->ops[j]? = some b->cls a.op=1->cls b.op=3->(msk ops j).testBit i=false->(msk ops i).testBit j=false →
  ∀ x,rid ops (f i).1 a=some x->HeapC.get (f j).2.1 x=HeapC.get (f (j+1)).2.1 x
section
variable {o:Orc H} {ops:Array Oper} {base nt:Nat} {f:Nat->Tm × H × Nat} {v:Nat->Value} {M:Nat->Mu} {W:Nat->World} {ts:Nat->Array Value}
theorem Z8H {ops:Array Oper} {k:Nat} (h:k<ops.size):∃ oper,ops[k]? = some oper:=⟨ops[k],Array.getElem?_eq_getElem h⟩
theorem Z21 {ops:Array Oper} {k:Nat} {oper:Oper} (h:ops[k]? = some oper):k<ops.size:=(Array.getElem?_eq_some_iff.1 h).1
theorem Cx.k256 (cx:Cx P o ops base nt f v M W ts) {k:Nat} (h:k<ops.size):k<256:=by
 obtain ⟨oper,ho⟩:=Z8H h
 obtain ⟨_,_,hlt,_⟩:=Z1c (cx.tr.step k oper ho).1
 exact hlt
def Z7p (ops:Array Oper) (s:Nat->Bool):Prop:=∀ k o,s k=true->ops[k]? = some o -> ∀ e ∈ o.after.toList,Region.binds .any e=true->s e.on=true
theorem Zas {ops:Array Oper} {a b:Oper} {t:Nat} (hd:a.dst=some t) (h:t ∈ Z2w ops b ∨ b.dst=some t):Zf3 ops a b=true:=by
 simp only [Zf3,hd,Bool.or_eq_true,List.contains_iff_mem]
 rcases h with h | h
 · exact .inl h
 · exact .inr (by rw [h]; simp)
theorem Cx.reads (cx:Cx P o ops base nt f v M W ts) {s:Nat->Bool} (hs:Z7p ops s) {j:Nat} {oper:Oper} (hj:ops[j]? = some oper) (hns:s j=false)
 (hp:∀ e ∈ oper.after.toList,Region.binds .any e=true->s e.on=true) {t:Nat} (ht:t ∈ Z2w ops oper) :
 ∀ m,m<=ops.size->tmS ops v (f 0).1 s m t=(f (min m j)).1 t:=by
 have hE:=Z3M cx.reg
 intro m
 induction m with
 | zero=>intro _; simp [tmS]
 | succ m ih =>
  intro hm
  have ih:=ih qO
  obtain ⟨om,hom⟩:=Z8H (show m<ops.size by omega)
  simp only [tmS,hom,Option.bind_some]
  rcases Nat.lt_trichotomy m j with hlt | heq | hgt
  · have e1:min (m+1) j=m+1:=by omega
    have e2:min m j=m:=by omega
    rw [e2] at ih
    rw [e1,(cx.tr.step m om hom).2]
    by_cases hd:om.dst=some t
    · have hb:s m=true:=by
       rcases Z5y cx.reg hlt hom hj with hb | ⟨h1,_,_⟩
       · exact Z2S hE (S:=fun k=>s k=true) hs j m oper hj hp hb
       · rw [Zas hd (.inl ht)] at h1; cases h1
      rw [hb]
      exact ZgI hd
    · rw [Z8q hd]
      cases s m
      · exact ih
      · simp only [cond_true]; rw [Z8q hd]; exact ih
  · subst heq
    rw [hns]
    simpa [Nat.min_eq_right] using ih
  · have e1:min (m+1) j=j:=by omega
    have e2:min m j=j:=by omega
    rw [e2] at ih
    rw [e1,← ih]
    by_cases hd:om.dst=some t
    · have hb:s m=false:=by
       rw [Bool.eq_false_iff]
       intro hsm
       rcases Z5y cx.reg hgt hj hom with hb | ⟨_,h1,_⟩
       · have:=Z2S hE (S:=fun k=>s k=true) hs m j om hom (hs m om hsm hom) hb
         rw [hns] at this; cases this
       · rw [Zas hd (.inl ht)] at h1; cases h1
      rw [hb]; rfl
    · cases s m
      · rfl
      · simp only [cond_true]; exact Z8q hd
theorem Cx.read (cx:Cx P o ops base nt f v M W ts) {s:Nat->Bool} (hs:Z7p ops s) {j:Nat} {oper:Oper} (hj:ops[j]? = some oper) (hns:s j=false)
 (hp:∀ e ∈ oper.after.toList,Region.binds .any e=true->s e.on=true) {t:Nat} (ht:t ∈ Z2w ops oper):tmS ops v (f 0).1 s ops.size t=(f j).1 t:=by
 rw [cx.reads hs hj hns hp ht ops.size (Nat.le_refl _)]
 have:=Z21 hj
 rw [Nat.min_eq_right qO]
theorem Cx.tmUp (cx:Cx P o ops base nt f v M W ts) {s:Nat->Bool} (hs:Z7p ops s) {j:Nat} {oper:Oper} (hj:ops[j]? = some oper) (hns:s j=false) (t:Nat) :
 ∀ m,m<=ops.size->tmS ops v (f 0).1 (upS s j) m t=if j<m then Z6O (tmS ops v (f 0).1 s m) oper.dst (v j) t else tmS ops v (f 0).1 s m t:=by
 have hE:=Z3M cx.reg
 intro m
 induction m with
 | zero=>intro _; simp [tmS]
 | succ m ih =>
  intro hm
  have ih:=ih qO
  obtain ⟨om,hom⟩:=Z8H (show m<ops.size by omega)
  simp only [tmS,hom,Option.bind_some]
  rcases Nat.lt_trichotomy m j with hlt | heq | hgt
  · rw [if_neg qO] at ih ⊢
    rw [Z9p qO]
    cases s m
    · exact ih
    · exact ZaA ih
  · subst heq
    rw [if_neg qO] at ih
    rw [if_pos qO,Z4F,hns]
    rw [hj] at hom; cases hom
    exact ZaA ih
  · rw [if_pos qO] at ih ⊢
    rw [Z9p qO]
    cases hsm:s m
    · exact ih
    · simp only [cond_true]
      by_cases hd:oper.dst=some t
      · have hne:om.dst ≠ some t:=by
         intro hd'
         rcases Z5y cx.reg hgt hj hom with hb | ⟨h1,_,_⟩
         · have:=Z2S hE (S:=fun k=>s k=true) hs m j om hom (hs m om hsm hom) hb
           rw [hns] at this; cases this
         · rw [Zas hd (.inr hd')] at h1; cases h1
        rw [Z8q hne,ih]
        exact ZgI hd
      · rw [Z8q hd] at ih ⊢
        exact ZaA ih
theorem Cx.tmAll (cx:Cx P o ops base nt f v M W ts) {s:Nat->Bool} (hs:∀ k,k<ops.size->s k=true):∀ m,m<=ops.size -> ∀ t,tmS ops v (f 0).1 s m t=(f m).1 t:=by
 intro m
 induction m with
 | zero=>intro _ t; rfl
 | succ m ih =>
  intro hm t
  obtain ⟨om,hom⟩:=Z8H (show m<ops.size by omega)
  simp only [tmS,hom,Option.bind_some,hs m qO,cond_true,(cx.tr.step m om hom).2]
  exact ZaA (ih qO t)
def vbF (f:Nat->Tm × H × Nat) (base n p:Nat):FH:=⟨fun i=>if 256*base+p<=i/\i<256*base+n then HeapC.get (f (i-256*base+1)).2.1 i else HeapC.get (f p).2.1 i⟩
theorem Zaq {n p k:Nat} (h:p<=k) (h':k<n):HeapC.get (vbF f base n p) (256*base+k)=HeapC.get (f (k+1)).2.1 (256*base+k):=by
 show (if _ then _ else _)=_
 rw [if_pos ⟨by omega,by omega⟩,Nat.add_sub_cancel_left]
theorem Z83 {n p i:Nat} (h:¬ (256*base+p<=i/\i<256*base+n)):HeapC.get (vbF f base n p) i=HeapC.get (f p).2.1 i:=by
 show (if _ then _ else _)=_
 rw [if_neg h]
theorem Cx.vbD (cx:Cx P o ops base nt f v M W ts) {p i:Nat} (hp:p<=ops.size) (h:Dn M p i):HeapC.get (vbF f base ops.size p) i=HeapC.get (f p).2.1 i:=by
 refine Z83 fun hh=>cx.can.notown hp h ⟨hh.1, ?_⟩
 have:ops.size<=256:=by
  by_cases e:ops.size=0
  · omega
  · have:=cx.k256 (show ops.size-1<ops.size by omega); omega
 omega
def nWr (ops:Array Oper) (k:Nat):Prop:=∀ oper,ops[k]? = some oper->cls oper.op ≠ 3
theorem Cx.walk1 (cx:Cx P o ops base nt f v M W ts) {k:Nat} (hk:k<ops.size) (h:nWr ops k) :
 (f (k+1)).2.2=(f k).2.2 /\ ∀ i,i ≠ 256*base+k->HeapC.get (f (k+1)).2.1 i=HeapC.get (f k).2.1 i:=by
 obtain ⟨oper,ho⟩:=Z8H hk
 obtain ⟨hc,upd,hA,_,_,_⟩:=Zbv (h oper ho) (cx.tr.step k oper ho).1
 refine ⟨hc,fun i hi=>?_⟩
 rw [hA]
 cases upd with
 | none=>rfl
 | some b=>simp only [HeapC.get_set,hi,if_false]
theorem Cx.walk (cx:Cx P o ops base nt f v M W ts) {p q:Nat} (hpq:p<=q) (hq:q<=ops.size) (h:∀ k,p<=k->k<q->nWr ops k) :
 (f q).2.2=(f p).2.2 /\ ∀ i,(∀ k,p<=k->k<q->i ≠ 256*base+k)->HeapC.get (f q).2.1 i=HeapC.get (f p).2.1 i:=by
 induction q with
 | zero =>
  have:p=0:=by omega
  subst this; exact ⟨rfl,fun _ _=>rfl⟩
 | succ q ih =>
  by_cases e:p=q+1
  · subst e; exact ⟨rfl,fun _ _=>rfl⟩
  · obtain ⟨h1,h2⟩:=ih qO qO (fun k a b=>h k a qO)
    obtain ⟨h3,h4⟩:=cx.walk1 (show q<ops.size by omega) (h q qO qO)
    refine ⟨h3.trans h1,fun i hi=>?_⟩
    rw [h4 i (hi q qO qO),h2 i (fun k a b=>hi k a qO)]
theorem ZgU (ops:Array Oper):∀ d p,ops.size-p=d->p<=ops.size -> ∃ p',p<=p'/\p'<=ops.size/\(p'=ops.size ∨ ∃ oper,ops[p']? = some oper/\cls oper.op=3) /\ ∀ k,p<=k->k<p'->nWr ops k:=by
 intro d
 induction d with
 | zero=>intro p hd hp; exact ⟨p,Nat.le_refl _,hp,.inl qO,fun k a b=>by omega⟩
 | succ d ih =>
  intro p hd hp
  obtain ⟨oper,ho⟩:=Z8H (show p<ops.size by omega)
  by_cases hc:cls oper.op=3
  · exact ⟨p,Nat.le_refl _,hp,.inr ⟨oper,ho,hc⟩,fun k a b=>by omega⟩
  · obtain ⟨p',h1,h2,h3,h4⟩:=ih (p+1) qO qO
    refine ⟨p',by omega,h2,h3,fun k a b=>?_⟩
    by_cases e:k=p
    · subst e; intro oper' ho'; rw [ho] at ho'; cases ho'; exact hc
    · exact h4 k qO b
def Gd (f:Nat->Tm × H × Nat) (μ0:Mu) (w0:World) (m:ME):Prop:=w0.heap.size<=m.b ∨ ∃ j mj,μ0 j=some mj/\mj.b=m.b/\wrB (HeapC.get (f 0).2.1 j)=true
structure Inv (ops:Array Oper) (base nt:Nat) (f:Nat->Tm × H × Nat) (v:Nat->Value) (M:Nat->Mu) (μ0:Mu) (w0:World) (df:List Deferred) (s:Nat->Bool) (p:Nat) (μ:Mu) (a:Act) (w:World):Prop where
 hpn:p<=ops.size
 pre:∀ k oper,k<p->ops[k]? = some oper->cls oper.op=3->s k=true
 nW:∀ k,s k=true->p<=k->nWr ops k
 wp:p=ops.size ∨ ∃ oper,ops[p]? = some oper/\cls oper.op=3
 cl:Z7p ops s
 le0:μ0.le μ
 dom:∀ i,μ i ≠ none->Dn M p i ∨ ∃ k,s k=true/\p<=k/\k<ops.size/\i=256*base+k/\wrB (HeapC.get (f (k+1)).2.1 i)=true/\Dn M (k+1) i
 ny:∀ k,k<p->s k=false->μ (256*base+k)=none/\HeapC.get (f p).2.1 (256*base+k)=HeapC.get (f (k+1)).2.1 (256*base+k)
 rel:R μ (vbF f base ops.size p) w
 tmr:TmR μ (tmS ops v (f 0).1 s ops.size) nt a.tmps
 df:a.defers=df
 os:w.os=w0.os
 tape:w.tape=w0.tape
 output:w.output=w0.output
 size:w0.heap.size<=w.heap.size
 fr:∀ b,b<w0.heap.size->(∀ i m,μ0 i=some m->wrB (HeapC.get (f 0).2.1 i)=true->m.b ≠ b)->w.heap[b]? = w0.heap[b]?
 newb:∀ i m,μ0 i=none->μ i=some m->Gd f μ0 w0 m
variable {μ0:Mu} {w0:World} {df:List Deferred}
theorem Inv.gd (cx:Cx P o ops base nt f v M W ts) (hM:M 0=μ0) {s:Nat->Bool} {p:Nat} {a:Act} (I:Inv ops base nt f v M μ0 w0 df s p μ a w) {i:Nat} {m:ME} (hm:μ i=some m)
 (hw:wrB (HeapC.get (vbF f base ops.size p) i)=true):Gd f μ0 w0 m:=by
 cases e:μ0 i with
 | none=>exact I.newb i m e hm
 | some m0 =>
  have:=I.le0 i m0 e
  rw [hm] at this; cases this
  have hd0:Dn M 0 i:=by unfold Dn; rw [hM,e]; simp
  have hdp:=cx.can.mono (Nat.le_refl _) (Nat.zero_le p) I.hpn hd0
  rw [cx.vbD I.hpn hdp] at hw
  exact .inr ⟨i,_,e,rfl,cx.can.wr (Nat.le_refl _) (Nat.zero_le p) I.hpn hd0 hw⟩
theorem Gd.ne {b:Nat} {m:ME} (h:Gd f μ0 w0 m) (hb:b<w0.heap.size) (hn:∀ i m,μ0 i=some m->wrB (HeapC.get (f 0).2.1 i)=true->m.b ≠ b):m.b ≠ b:=by
 rcases h with h | ⟨j,mj,h1,h2,h3⟩
 · omega
 · rw [← h2]; exact hn j mj h1 h3
theorem ZbQ {s:Nat->Bool} (hs:Z7p ops s) {j:Nat} {oper:Oper} (hj:ops[j]? = some oper) (hp:∀ e ∈ oper.after.toList,Region.binds .any e=true->s e.on=true):Z7p ops (upS s j):=by
 intro k o' hk ho e he hb
 have hor:s e.on=true->upS s j e.on=true:=fun h=>by simp [upS,h]
 rcases Zar hk with h | rfl
 · exact hor (hs k o' h ho e he hb)
 · rw [hj] at ho; cases ho; exact hor (hp e he hb)
theorem Inv.step_nw (cx:Cx P o ops base nt f v M W ts) (hM:M 0=μ0) {s:Nat->Bool} {p:Nat} {a:Act} (I:Inv ops base nt f v M μ0 w0 df s p μ a w) {j:Nat} {oper:Oper} (hj:ops[j]? = some oper) (hns:s j=false)
 (hp:∀ e ∈ oper.after.toList,Region.binds .any e=true->s e.on=true) (hc:cls oper.op ≠ 3) {ro:Option Nat} {n:Nat} {K:Act->World->Prop} {Q:Exit->Act->World->Prop}
 (hK:∀ μ' a' w',Inv ops base nt f v M μ0 w0 df (upS s j) p μ' a' w'->K a' w'):wpOpIn (wd ro) n P ops Q j K a w:=by
 have hE:=Z3M cx.reg
 have hjn:=Z21 hj
 have hj256:=cx.k256 hjn
 obtain ⟨hst,hput⟩:=cx.tr.step j oper hj
 obtain ⟨hcc,upd,hA,hu1,hu2,hall⟩:=Zbv hc hst
 have hread:∀ t ∈ Z2w ops oper,(f j).1 t=tmS ops v (f 0).1 s ops.size t:=fun t ht=>(cx.read I.cl hj hns hp ht).symm
 have hb0:=cx.can.bc 0 (Nat.zero_le _)
 have hbp:base<(f p).2.2:=cx.can.bc p I.hpn
 have hheap:cls oper.op=1 -> ∀ y,rid ops (f j).1 oper=some y->HeapC.get (vbF f base ops.size p) y=HeapC.get (f j).2.1 y:=by
  intro h1 y hy
  have hdy:Dn M j y:=by
   have hval:∃ t x,(f j).1 t=some x/\Z2t x=some y:=by
    have:∃ z x,Z0g (f j).1 z=some x/\Z2t x=some y:=by
     unfold rid at hy
     split at hy
     · unfold Z8m at hy
       split at hy
       · simp only [Option.bind_eq_some_iff] at hy; obtain ⟨x,a1,a2⟩:=hy; exact ⟨_,x,a1,a2⟩
       · simp only [Option.bind_eq_some_iff] at hy; obtain ⟨x,a1,a2⟩:=hy; exact ⟨_,x,a1,a2⟩
       · simp only [Option.bind_eq_some_iff] at hy; obtain ⟨x,a1,a2⟩:=hy; exact ⟨_,x,a1,a2⟩
       · simp only [Option.bind_eq_some_iff] at hy; obtain ⟨z,_,x,a1,a2⟩:=hy; exact ⟨z,x,a1,a2⟩
       · cases hy
     · cases hy
    obtain ⟨z,x,a1,a2⟩:=this
    cases z with
    | tmp t=>exact ⟨t,x,a1,a2⟩
    | const cst =>
     simp only [Z0g] at a1
     cases hpl:Z2G cst with
     | false=>simp [hpl] at a1
     | true =>
      simp [hpl] at a1; subst a1
      rw [Zfd hpl] at a2; cases a2
    | global g=>simp [Z0g] at a1
    | func g=>simp [Z0g] at a1; subst a1; simp [Z2t] at a2
   obtain ⟨t,x,hx,hrx⟩:=hval
   obtain ⟨x',_,hv⟩:=(cx.can.tm j qO).val t x hx
   exact hv.rid hrx
  have hny:∀ k,j<=k->k<ops.size->y ≠ 256*base+k:=fun k hk hkn e=>cx.can.notown qO hdy ⟨by omega,by have:=cx.k256 hkn; omega⟩
  have hone:∀ k,k<ops.size->(∀ ok,ops[k]? = some ok->cls ok.op=3->(msk ops k).testBit j=false/\(msk ops j).testBit k=false)->y ≠ 256*base+k->HeapC.get (f (k+1)).2.1 y=HeapC.get (f k).2.1 y:=by
   intro k hk hun hyk
   obtain ⟨ok,hok⟩:=Z8H hk
   by_cases h3:cls ok.op=3
   · obtain ⟨u1,u2⟩:=hun ok hok h3
     exact (cx.lw j k oper ok hj hok h1 h3 u1 u2 y hy).symm
   · exact (cx.walk1 hk (fun o' ho'=>by rw [hok] at ho'; cases ho'; exact h3)).2 y hyk
  have hback:∀ k,p<=k->k<j -> ∀ ok,ops[k]? = some ok->cls ok.op=3->(msk ops k).testBit j=false/\(msk ops j).testBit k=false:=by
   intro k hpk hkj ok hok h3
   refine ⟨?_, ?_⟩
   · rw [Bool.eq_false_iff]; intro hb; have:=ZlH hE k j hb; omega
   · rw [Bool.eq_false_iff]
     intro hb
     have hsk:=Z2S hE (S:=fun k=>s k=true) I.cl j k oper hj hp hb
     exact I.nW k hsk hpk ok hok h3
  have hfwd:∀ k,j<=k->k<p -> ∀ ok,ops[k]? = some ok->cls ok.op=3->(msk ops k).testBit j=false/\(msk ops j).testBit k=false:=by
   intro k hjk hkp ok hok h3
   refine ⟨?_, ?_⟩
   · rw [Bool.eq_false_iff]; intro hb
     have hsk:=I.pre k ok hkp hok h3
     have:=Z2S hE (S:=fun k=>s k=true) I.cl k j ok hok (I.cl k ok hsk hok) hb
     rw [hns] at this; cases this
   · rw [Bool.eq_false_iff]; intro hb; have:=ZlH hE j k hb; omega
  by_cases hown:256*base+p<=y/\y<256*base+ops.size
  · -- a block that this region laid
    obtain ⟨k,rfl⟩:∃ k,y=256*base+k:=⟨y-256*base,by omega⟩
    have hpk:p<=k:=by omega
    have hkn:k<ops.size:=by omega
    have hkj:k<j:=by
     by_cases hh:k<j
     · exact hh
     · exact absurd rfl (hny k qO hkn)
    rw [Zaq hpk hkn]
    have:∀ q,k+1<=q->q<=j->HeapC.get (f q).2.1 (256*base+k)=HeapC.get (f (k+1)).2.1 (256*base+k):=by
     intro q
     induction q with
     | zero=>intro h; omega
     | succ q ih =>
      intro h h'
      by_cases e:k=q
      · subst e; rfl
      · rw [hone q qO (hback q qO qO) qO,ih qO qO]
    exact (this j qO (Nat.le_refl _)).symm
  · rw [Z83 hown]
    by_cases hpj:p<=j
    · have:∀ q,p<=q->q<=j->HeapC.get (f q).2.1 y=HeapC.get (f p).2.1 y:=by
       intro q
       induction q with
       | zero =>
        intro h _; have:p=0:=by omega
        subst this; rfl
       | succ q ih =>
        intro h h'
        by_cases e:p=q+1
        · subst e; rfl
        · rw [hone q qO (hback q qO qO) qO,ih qO qO]
      exact (this j hpj (Nat.le_refl _)).symm
    · have:∀ q,j<=q->q<=p->HeapC.get (f q).2.1 y=HeapC.get (f j).2.1 y:=by
       have hpn:=I.hpn
       intro q
       induction q with
       | zero =>
        intro h _; have:j=0:=by omega
        subst this; rfl
       | succ q ih =>
        intro h h'
        by_cases e:j=q+1
        · subst e; rfl
        · rw [hone q qO (hfwd q qO qO) (hny q qO qO),ih qO qO]
      exact this p qO (Nat.le_refl _)
 have hFH:=hall (H':=FH) (fun _ _ _ _ _=>none) (tmS ops v (f 0).1 s ops.size) (vbF f base ops.size p) (f p).2.2 hread hheap
 have hON:OS (H:=FH) P (fun _ _ _ _ _=>none):=⟨(fun _ _ _ _ _ _ h=>by cases h),(fun _ _ _ _ _ _ _ _ _ _ _ _ h=>by cases h)⟩
 have hid:μ (256*base+j)=none:=by
  cases e:μ (256*base+j) with
  | none=>rfl
  | some m =>
   by_cases hjp:j<p
   · have:=(I.ny j hjp hns).1; rw [e] at this; cases this
   · rcases I.dom _ (by rw [e]; simp) with hD | ⟨k,h1,_,_,h2,_⟩
     · exact absurd ⟨by omega,by omega⟩ (cx.can.notown I.hpn hD)
     · have:k=j:=by omega
       subst this; rw [hns] at h1; cases h1
 have hfresh:Z1Y μ (f p).2.2:=by
  intro i hi
  cases e:μ i with
  | none=>rfl
  | some m =>
   rcases I.dom i (by rw [e]; simp) with hD | ⟨k,_,_,h1,h2,_⟩
   · have:=cx.can.lt I.hpn hD; omega
   · have:=cx.k256 h1; omega
 refine Zau hON hj hFH I.tmr I.rel hid hfresh fun v' μ1 w1 hv hE1=>hK μ1 _ w1 ?_
 have hnewid:∀ i,μ i=none->μ1 i ≠ none->i=256*base+j/\2<=cls oper.op/\Z0T ops (f j).1 oper=some true:=by
  intro i h0 h1
  rcases hE1.new i h0 h1 with ⟨h,h2,h3⟩ | ⟨h,h'⟩
  · exact ⟨h,h2,by rw [Z6h hread]; exact h3⟩
  · omega
 have hupd:∀ i,μ i=none->μ1 i ≠ none -> ∃ b,upd=some b/\wrB (some b)=true/\Z2t (v j)=some (256*base+j):=by
  intro i h0 h1
  obtain ⟨_,h2,h3⟩:=hnewid i h0 h1
  rcases hu1 with h | ⟨b,hb,hw,hr,_,_⟩
  · exact absurd ⟨h2,h3⟩ (hu2 h)
  · exact ⟨b,hb,hw,hr⟩
 have hgd:∀ i m,μ0 i=none->μ1 i=some m->Gd f μ0 w0 m:=by
  intro i m h0 h1
  cases e:μ i with
  | some m' =>
   have:=hE1.mu i m' e
   rw [h1] at this; cases this
   exact I.newb i _ h0 e
  | none =>
   rcases hE1.newb i m e h1 with h | ⟨k,mk,hk,hkb,hkw⟩
   · exact .inl (Nat.le_trans I.size h)
   · have:=I.gd cx hM hk hkw
     unfold Gd at this ⊢
     rw [← hkb]; exact this
 refine { hpn:=I.hpn,pre:=?_,nW:=?_,wp:=I.wp,cl:=ZbQ I.cl hj hp,le0:=fun i m h=>hE1.mu i m (I.le0 i m h),dom:=?_,ny:=?_,rel:=?_,tmr:=?_,df:=?_,os:=hE1.os.trans I.os,tape:=hE1.tape.trans I.tape,output:=hE1.output.trans I.output,size:=Nat.le_trans I.size hE1.size,fr:=?_,newb:=hgd }
 · intro k ok hk hok h3
   have:=I.pre k ok hk hok h3
   simp [upS,this]
 · intro k hk hpk
   rcases Zar hk with h | rfl
   · exact I.nW k h hpk
   · intro o' ho'; rw [hj] at ho'; cases ho'; exact hc
 · intro i hi
   cases e:μ i with
   | some m =>
    rcases I.dom i (by rw [e]; simp) with hD | ⟨k,h1,h2⟩
    · exact .inl hD
    · exact .inr ⟨k,by simp [upS,h1],h2⟩
   | none =>
    obtain ⟨b,hb,hw,hr⟩:=hupd i e hi
    obtain ⟨rfl,_,_⟩:=hnewid i e hi
    have hDj:Dn M (j+1) (256*base+j):=by
     obtain ⟨x',hx⟩:=cx.can.val j hjn
     exact hx.rid hr
    by_cases hjp:j<p
    · exact .inl (cx.can.mono (Nat.le_refl _) (show j+1<=p by omega) I.hpn hDj)
    · refine .inr ⟨j,Z4F s j,by omega,hjn,rfl, ?_,hDj⟩
      rw [hA,hb]
      simp only [HeapC.get_set,if_true]
      exact hw
 · intro k hk hsk
   have hkj:k ≠ j:=by intro e; subst e; rw [Z4F] at hsk; cases hsk
   rw [Z9p hkj] at hsk
   obtain ⟨h1,h2⟩:=I.ny k hk hsk
   refine ⟨?_,h2⟩
   cases e:μ1 (256*base+k) with
   | none=>rfl
   | some m =>
    have:=(hnewid _ h1 (by rw [e]; simp)).1
    omega
 · refine hE1.rel.cong fun i hi=>?_
   cases hu:upd with
   | none=>rfl
   | some b =>
    simp only
    rw [HeapC.get_set]
    by_cases e:i=256*base+j
    · subst e
      have hAb:HeapC.get (f (j+1)).2.1 (256*base+j)=some b:=by rw [hA,hu]; simp only [HeapC.get_set,if_true]
      simp only [if_true]
      by_cases hjp:j<p
      · rw [Z83 qO,(I.ny j hjp hns).2,hAb]
      · rw [Zaq qO hjn,hAb]
    · simp only [e,if_false]
 · obtain ⟨_,_,_,hd,_⟩:=Z1c hst
   have h0:=TmR.put (a:=a) (I.tmr.mono hE1.mu) hd hv
   refine ⟨h0.size,fun t x hx=>h0.val t x ?_⟩
   rw [cx.tmUp I.cl hj hns t ops.size (Nat.le_refl _),if_pos hjn] at hx
   exact hx
 · rw [← I.df]; cases oper.dst <;> rfl
 · intro b hb hn
   rw [hE1.fr b (Nat.lt_of_lt_of_le hb I.size) ?_,I.fr b hb hn]
   intro i m hm hw
   exact (I.gd cx hM hm hw).ne hb hn
end
end Go.Ab

namespace Go.Ab
open Go
variable {H:Type} [HeapC H] {P:Program} {μ:Mu} {A:H} {w:World}
variable {o:Orc H} {ops:Array Oper} {base nt:Nat} {f:Nat->Tm × H × Nat} {v:Nat->Value} {M:Nat->Mu} {W:Nat->World} {ts:Nat->Array Value}
variable {μ0:Mu} {w0:World} {df:List Deferred}
theorem Mu.on_none {D:Nat->Prop} {i:Nat} (h:μ i=none):μ.on D i=none:=by unfold Mu.on; split <;> simp [h]
theorem R.onD {D:Nat->Prop} (hR:R μ A w) (hs:∀ i,D i->Zih D (HeapC.get A i)):R (μ.on D) A w where
 blk:=fun i m h=>let ⟨hd,hm⟩:=Mu.on_some h; (hR.blk i m hm).onS (hs i hd)
 inj:=fun i j mi mj hi hj=>hR.inj i j mi mj (Mu.on_some hi).2 (Mu.on_some hj).2
 lt:=fun i m h=>hR.lt i m (Mu.on_some h).2
theorem Z1K {b:Option ABlk} (h:wrB b=true):Z2o b=false:=by
 unfold wrB at h; unfold Z2o
 split <;> simp_all
theorem Z6m {b:Option ABlk} (h:wrB b=true):roB b=false:=by
 unfold wrB at h; unfold roB
 split <;> simp_all
theorem Inv.step_w (hO:OS P o) (cx:Cx P o ops base nt f v M W ts) (hM:M 0=μ0) {s:Nat->Bool} {p:Nat} {a:Act} (I:Inv ops base nt f v M μ0 w0 df s p μ a w) {j:Nat} {oper:Oper} (hj:ops[j]? = some oper) (hns:s j=false)
 (hp:∀ e ∈ oper.after.toList,Region.binds .any e=true->s e.on=true) (hc:cls oper.op=3) {ro:Option Nat} {n:Nat} {K:Act->World->Prop} {Q:Exit->Act->World->Prop}
 (hK:∀ p' μ' a' w',Inv ops base nt f v M μ0 w0 df (upS s j) p' μ' a' w'->K a' w'):wpOpIn (wd ro) n P ops Q j K a w:=by
 have hE:=Z3M cx.reg
 have hjn:=Z21 hj
 have hjp:j=p:=by
  rcases Nat.lt_trichotomy j p with h | h | h
  · have:=I.pre j oper h hj hc; rw [hns] at this; cases this
  · exact h
  · rcases I.wp with h' | ⟨op',ho',hc'⟩
    · omega
    · have hb:(msk ops j).testBit p=true:=by
       rcases Z5y cx.reg h ho' hj with hb | ⟨_,_,h3⟩
       · exact hb
       · exact absurd ⟨hc',hc⟩ h3
      have hsp:=Z2S hE (S:=fun k=>s k=true) I.cl j p oper hj hp hb
      exact absurd hc' (I.nW p hsp (Nat.le_refl _) op' ho')
 subst hjp
 have hj256:=cx.k256 hjn
 obtain ⟨hst,hput⟩:=cx.tr.step j oper hj
 have hread:∀ t ∈ Z2w ops oper,tmS ops v (f 0).1 s ops.size t=(f j).1 t:=fun t ht=>cx.read I.cl hj hns hp ht
 have hpn:=I.hpn
 have hbp:base<(f j).2.2:=cx.can.bc j hpn
 have hμr:R (μ.on (Dn M j)) (f j).2.1 w:=by
  have h0:R (μ.on (Dn M j)) (vbF f base ops.size j) w:=I.rel.onD fun i hd=>by rw [cx.vbD hpn hd]; exact cx.can.suph hpn hd
  refine h0.cong fun i hi=>?_
  cases e:(μ.on (Dn M j)) i with
  | none=>exact absurd e hi
  | some m=>exact (cx.vbD hpn (Mu.on_some e).1).symm
 have hid:(μ.on (Dn M j)) (256*base+j)=none:=Mu.on_not (fun hd=>cx.can.notown hpn hd ⟨by omega,by omega⟩)
 have hfresh:Z1Y (μ.on (Dn M j)) (f j).2.2:=fun i hi=>Mu.on_not (fun hd=>by have:=cx.can.lt hpn hd; omega)
 let tm1:Tm:=fun t=>if t ∈ Z2w ops oper then (f j).1 t else none
 have htm1:TmR (μ.on (Dn M j)) tm1 nt a.tmps:=by
  refine ⟨I.tmr.size,fun t x hx=>?_⟩
  have hx':t ∈ Z2w ops oper/\(f j).1 t=some x:=by
   simp only [tm1] at hx
   split at hx
   · rename_i h; exact ⟨h,hx⟩
   · cases hx
  obtain ⟨x',h1,h2⟩:=I.tmr.val t x (by rw [hread t hx'.1]; exact hx'.2)
  exact ⟨x',h1,h2.onS (cx.can.suptm hpn hx'.2)⟩
 have hst1:Z0V P o ops base j nt tm1 (f j).2.1 (f j).2.2 oper=some (v j,(f (j+1)).2.1,(f (j+1)).2.2):=by
  rw [Zby (tm':=(f j).1)]
  · exact hst
  · intro t ht; simp only [tm1,ht,if_true]
 obtain ⟨p',hp1,hp2,hp3,hp4⟩:=ZgU ops _ (j+1) rfl qO
 obtain ⟨hwc,hwk⟩:=cx.walk hp1 hp2 hp4
 refine Zau hO hj hst1 htm1 hμr hid hfresh fun v' μ1 w1 hv hE1=>?_
 have hDmono:∀ i,Dn M j i->Dn M (j+1) i:=fun i h=>cx.can.mono1 (Nat.le_refl _) hjn h
 have hDp':∀ i,Dn M (j+1) i->Dn M p' i:=fun i h=>cx.can.mono (Nat.le_refl _) hp1 hp2 h
 have hEid:∀ i,μ i ≠ none -> ¬ Dn M (j+1) i -> ∃ k,s k=true/\j<k/\k<ops.size/\i=256*base+k/\wrB (HeapC.get (f (k+1)).2.1 i)=true/\Dn M (k+1) i:=by
  intro i h1 h2
  rcases I.dom i h1 with h | ⟨k,a1,a2,a3⟩
  · exact absurd (hDmono i h) h2
  · refine ⟨k,a1, ?_,a3⟩
    rcases Nat.lt_or_eq_of_le a2 with h | h
    · exact h
    · subst h; rw [hns] at a1; cases a1
 have hμ1E:∀ k,k<ops.size->(μ.on (Dn M j)) (256*base+k)=none->μ1 (256*base+k) ≠ none->k=j:=by
  intro k hk h0 h1
  have:=cx.k256 hk
  rcases hE1.new _ h0 h1 with h | h
  · have:=h.1; omega
  · omega
 have hDold:∀ i m,μ i=some m->Dn M (j+1) i->Dn M j i:=by
  intro i m hm hd
  rcases I.dom i (by rw [hm]; simp) with h | ⟨k,a1,a2,a3,a4,_⟩
  · exact h
  · have hk256:=cx.k256 a3
    have hkj:k ≠ j:=by intro e; subst e; rw [hns] at a1; cases a1
    exact absurd (show Zij base (j+1) i from ⟨by omega,by omega⟩) (cx.can.notown qO hd)
 let μ2:Mu:=fun i=>if M (j+1) i=none then μ i else μ1 i
 have hμ2D:∀ i,Dn M (j+1) i->μ2 i=μ1 i:=fun i h=>by simp only [μ2]; rw [if_neg h]
 have hμ2N:∀ i,¬ Dn M (j+1) i->μ2 i=μ i:=fun i h=>by
  simp only [μ2]
  rw [if_pos]
  cases e:M (j+1) i with
  | none=>rfl
  | some m=>exact absurd (by unfold Dn; rw [e]; simp) h
 have hle2:μ.le μ2:=by
  intro i m hm
  by_cases hd:Dn M (j+1) i
  · rw [hμ2D i hd]
    have h0:=hDold i m hm hd
    exact hE1.mu i m (by rw [Mu.on_of h0]; exact hm)
  · rw [hμ2N i hd]; exact hm
 have hle1:(μ1.on (Dn M (j+1))).le μ2:=by
  intro i m hm
  obtain ⟨hd,h1⟩:=Mu.on_some hm
  rw [hμ2D i hd]; exact h1
 have hv2:VR μ2 (v j) v':=(hv.onS (cx.can.supv hjn)).mono hle1
 have hgd1:∀ i m,μ0 i=none->μ1 i=some m->Gd f μ0 w0 m:=by
  intro i m h0 h1
  cases e:(μ.on (Dn M j)) i with
  | some m' =>
   have:=hE1.mu i m' e
   rw [h1] at this; cases this
   exact I.newb i _ h0 (Mu.on_some e).2
  | none =>
   rcases hE1.newb i m e h1 with h | ⟨k,mk,hk,hkb,hkw⟩
   · exact .inl (Nat.le_trans I.size h)
   · obtain ⟨hd,hk'⟩:=Mu.on_some hk
     have:=I.gd cx hM hk' (by rw [cx.vbD hpn hd]; exact hkw)
     unfold Gd at this ⊢
     rw [← hkb]; exact this
 have hvbE:∀ k,s k=true->j<k->k<ops.size->HeapC.get (vbF f base ops.size j) (256*base+k)=HeapC.get (f (k+1)).2.1 (256*base+k):=fun k _ h1 h2=>Zaq qO h2
 have hvb'E:∀ k,s k=true->j<k->k<ops.size->HeapC.get (vbF f base ops.size p') (256*base+k)=HeapC.get (f (k+1)).2.1 (256*base+k):=by
  intro k _ h1 h2
  by_cases hkp:p'<=k
  · exact Zaq hkp h2
  · rw [Z83 qO]
    have hk1:k+1<=p':=by omega
    exact (cx.walk hk1 hp2 (fun q a b=>hp4 q qO b)).2 _ (fun q a b=>by omega)
 have hvb'D:∀ i,Dn M (j+1) i->HeapC.get (vbF f base ops.size p') i=HeapC.get (f (j+1)).2.1 i:=by
  intro i hd
  rw [cx.vbD hp2 (hDp' i hd)]
  refine hwk i fun k a b=>?_
  have:=cx.k256 (show k<ops.size by omega)
  intro e
  exact cx.can.notown (show j+1<=ops.size by omega) hd ⟨by omega,by omega⟩
 have hEfr:∀ i m,μ i=some m -> ¬ Dn M (j+1) i->w1.heap[m.b]? = w.heap[m.b]?:=by
  intro i m hm hnd
  obtain ⟨k,a1,a2,a3,rfl,a5,_⟩:=hEid i (by rw [hm]; simp) hnd
  refine hE1.fr m.b (I.rel.lt _ m hm) fun i' m' hi' hw'=>?_
  obtain ⟨hd',hi''⟩:=Mu.on_some hi'
  have hwv:wrB (HeapC.get (vbF f base ops.size j) i')=true:=by rw [cx.vbD hpn hd']; exact hw'
  refine I.rel.inj i' _ m' m hi'' hm (fun e=>hnd (e ▸ hDmono _ hd')) (Z1K hwv) ?_ (by rw [Z6m hwv]; simp)
  rw [hvbE k a1 a2 a3]; exact Z1K a5
 have hcross:∀ i e mi me,μ1 i=some mi->Dn M (j+1) i->μ e=some me -> ¬ Dn M (j+1) e->Z2o (HeapC.get (f (j+1)).2.1 i)=false->mi.b ≠ me.b:=by
  intro i e mi me hi hdi he hde hdead
  obtain ⟨k,a1,a2,a3,rfl,a5,_⟩:=hEid e (by rw [he]; simp) hde
  have hvE:wrB (HeapC.get (vbF f base ops.size j) (256*base+k))=true:=by rw [hvbE k a1 a2 a3]; exact a5
  cases e0:(μ.on (Dn M j)) i with
  | some m0 =>
   have:=hE1.mu i m0 e0
   rw [hi] at this; cases this
   obtain ⟨hd0,hm0⟩:=Mu.on_some e0
   refine I.rel.inj i _ mi me hm0 he (fun e=>hde (e ▸ hdi)) ?_ (Z1K hvE) (by rw [Z6m hvE]; simp)
   rw [cx.vbD hpn hd0]
   cases hdd:Z2o (HeapC.get (f j).2.1 i) with
   | false=>rfl
   | true=>have:=hE1.dd i mi e0 hdd; rw [this] at hdead; cases hdead
  | none =>
   have hlt:=I.rel.lt _ me he
   rcases hE1.newb i mi e0 hi with h | ⟨q,mq,hq,hqb,hqw⟩
   · omega
   · obtain ⟨hdq,hmq⟩:=Mu.on_some hq
     rw [← hqb]
     have hwq:wrB (HeapC.get (vbF f base ops.size j) q)=true:=by rw [cx.vbD hpn hdq]; exact hqw
     exact I.rel.inj q _ mq me hmq he (fun e=>hde (e ▸ hDmono _ hdq)) (Z1K hwq) (Z1K hvE) (by rw [Z6m hwq]; simp)
 refine hK p' μ2 _ w1 ?_
 refine { hpn:=hp2,pre:=?_,nW:=?_,wp:=hp3,cl:=ZbQ I.cl hj hp,le0:=fun i m h=>hle2 i m (I.le0 i m h),dom:=?_,ny:=?_,rel:=⟨?_, ?_, ?_⟩,tmr:=?_,df:=?_,os:=hE1.os.trans I.os,tape:=hE1.tape.trans I.tape,output:=hE1.output.trans I.output,size:=Nat.le_trans I.size hE1.size,fr:=?_,newb:=?_ }
 · intro k ok hk hok h3
   rcases Nat.lt_trichotomy k j with h | h | h
   · have:=I.pre k ok h hok h3; simp [upS,this]
   · subst h; exact Z4F s k
   · exact absurd h3 (hp4 k qO hk ok hok)
 · intro k hk hpk
   rcases Zar hk with h | rfl
   · exact I.nW k h qO
   · omega
 · intro i hi
   by_cases hd:Dn M (j+1) i
   · exact .inl (hDp' i hd)
   · rw [hμ2N i hd] at hi
     obtain ⟨k,a1,a2,a3,a4,a5,a6⟩:=hEid i hi hd
     by_cases hkp:p'<=k
     · exact .inr ⟨k,by simp [upS,a1],hkp,a3,a4,a5,a6⟩
     · exact .inl (cx.can.mono (Nat.le_refl _) (show k+1<=p' by omega) hp2 a6)
 · intro k hk hsk
   have hkj:k ≠ j:=by intro e; subst e; rw [Z4F] at hsk; cases hsk
   rw [Z9p hkj] at hsk
   have hkn:k<ops.size:=by omega
   have hk256:=cx.k256 hkn
   by_cases hlt:k<j
   · obtain ⟨h1,h2⟩:=I.ny k hlt hsk
     have hr0:(μ.on (Dn M j)) (256*base+k)=none:=Mu.on_none h1
     refine ⟨?_, ?_⟩
     · by_cases hd:Dn M (j+1) (256*base+k)
       · rw [hμ2D _ hd]
         cases e:μ1 (256*base+k) with
         | none=>rfl
         | some m=>exact absurd (hμ1E k hkn hr0 (by rw [e]; simp)) hkj
       · rw [hμ2N _ hd]; exact h1
     · rw [hwk _ (fun q a b=>by omega),← h2]
       exact hE1.af _ hr0 qO (fun h=>hkj (by have:=h.1; omega))
   · have hnd:¬ Dn M (j+1) (256*base+k):=fun hd=>cx.can.notown qO hd ⟨by omega,by omega⟩
     refine ⟨?_, ?_⟩
     · rw [hμ2N _ hnd]
       cases e:μ (256*base+k) with
       | none=>rfl
       | some m =>
        obtain ⟨k',a1,a2,a3,a4,_⟩:=hEid _ (by rw [e]; simp) hnd
        have:k'=k:=by omega
        subst this; rw [hsk] at a1; cases a1
     · exact (cx.walk (show k+1<=p' by omega) hp2 (fun q a b=>hp4 q qO b)).2 _ (fun q a b=>by omega)
 · intro i m hm
   by_cases hd:Dn M (j+1) i
   · rw [hμ2D i hd] at hm
     rw [hvb'D i hd]
     exact ((hE1.rel.blk i m hm).onS (cx.can.suph qO hd)).mono hle1
   · rw [hμ2N i hd] at hm
     obtain ⟨k,a1,a2,a3,rfl,a5,_⟩:=hEid i (by rw [hm]; simp) hd
     have h0:=I.rel.blk _ m hm
     rw [hvbE k a1 a2 a3] at h0
     rw [hvb'E k a1 a2 a3]
     exact (h0.congr (hEfr _ m hm hd)).mono hle2
 · intro x y mx my hx hy hne h1 h2 h3
   by_cases hdx:Dn M (j+1) x <;> by_cases hdy:Dn M (j+1) y
   · rw [hμ2D x hdx] at hx; rw [hμ2D y hdy] at hy
     rw [hvb'D x hdx] at h1 h3; rw [hvb'D y hdy] at h2 h3
     exact hE1.rel.inj x y mx my hx hy hne h1 h2 h3
   · rw [hμ2D x hdx] at hx; rw [hμ2N y hdy] at hy
     rw [hvb'D x hdx] at h1
     exact hcross x y mx my hx hdx hy hdy h1
   · rw [hμ2N x hdx] at hx; rw [hμ2D y hdy] at hy
     rw [hvb'D y hdy] at h2
     exact (hcross y x my mx hy hdy hx hdx h2).symm
   · rw [hμ2N x hdx] at hx; rw [hμ2N y hdy] at hy
     obtain ⟨k,a1,a2,a3,e1,a5,_⟩:=hEid x (by rw [hx]; simp) hdx
     obtain ⟨l,b1,b2,b3,e2,b5,_⟩:=hEid y (by rw [hy]; simp) hdy
     subst e1; subst e2
     have hvx:wrB (HeapC.get (vbF f base ops.size j) (256*base+k))=true:=by rw [hvbE k a1 a2 a3]; exact a5
     have hvy:wrB (HeapC.get (vbF f base ops.size j) (256*base+l))=true:=by rw [hvbE l b1 b2 b3]; exact b5
     exact I.rel.inj _ _ mx my hx hy hne (Z1K hvx) (Z1K hvy) (by rw [Z6m hvx]; simp)
 · intro i m hm
   by_cases hd:Dn M (j+1) i
   · rw [hμ2D i hd] at hm; exact hE1.rel.lt i m hm
   · rw [hμ2N i hd] at hm; exact Nat.lt_of_lt_of_le (I.rel.lt i m hm) hE1.size
 · obtain ⟨_,_,_,hd,_⟩:=Z1c hst
   have h0:=TmR.put (a:=a) (I.tmr.mono hle2) hd hv2
   refine ⟨h0.size,fun t x hx=>h0.val t x ?_⟩
   rw [cx.tmUp I.cl hj hns t ops.size (Nat.le_refl _),if_pos hjn] at hx
   exact hx
 · rw [← I.df]; cases oper.dst <;> rfl
 · intro b hb hn
   rw [hE1.fr b (Nat.lt_of_lt_of_le hb I.size) ?_,I.fr b hb hn]
   intro i m hm hw
   obtain ⟨hd,hm'⟩:=Mu.on_some hm
   exact (I.gd cx hM hm' (by rw [cx.vbD hpn hd]; exact hw)).ne hb hn
 · intro i m h0 hm
   by_cases hd:Dn M (j+1) i
   · rw [hμ2D i hd] at hm; exact hgd1 i m h0 hm
   · rw [hμ2N i hd] at hm; exact I.newb i m h0 hm
end Go.Ab

namespace Go.Ab
open Go
variable {H:Type} [HeapC H] {P:Program} {μ:Mu} {A:H} {w:World}
section
variable {o:Orc H} {ops:Array Oper} {base nt:Nat} {f:Nat->Tm × H × Nat} {v:Nat->Value} {M:Nat->Mu} {W:Nat->World} {ts:Nat->Array Value}
variable {μ0:Mu} {w0:World} {df:List Deferred}
theorem Can.new0 (hC:Can ops base nt f v ops.size M W ts) {k i:Nat} (hk:k<=ops.size) (h0:¬ Dn M 0 i) (h:Dn M k i):(256*base<=i/\i<256*base+ops.size) ∨ (256*(f 0).2.2<=i/\i<256*(f k).2.2):=by
 induction k with
 | zero=>exact absurd h h0
 | succ k ih =>
  by_cases hd:Dn M k i
  · rcases ih qO hd with h1 | h1
    · exact .inl h1
    · have:=hC.cmono (Nat.le_refl _) (show k<=k+1 by omega) hk
      exact .inr ⟨h1.1,by omega⟩
  · obtain ⟨oper,ho⟩:=Z8H (show k<ops.size by omega)
    rcases hC.newn (Nat.le_refl _) qO ho hd h with ⟨h1,_⟩ | ⟨h1,h2⟩
    · exact .inl qO
    · have:=hC.cmono (Nat.le_refl _) (Nat.zero_le k) qO
      exact .inr ⟨by omega,h2⟩
theorem Z8p {md:Region.Mode} {listed:Array Bool} {i:Nat}:i ∈ Region.ready md ops listed ↔ ∃ oper,ops[i]? = some oper/\listed.getD i true=false /\ ∀ e ∈ oper.after.toList,Region.binds md e=true->listed.getD e.on false=true:=by
 simp only [Region.ready,List.mem_filter,List.mem_range,Bool.and_eq_true,Bool.not_eq_true']
 constructor
 · rintro ⟨h1,h2,h3⟩
   obtain ⟨oper,ho⟩:=Z8H h1
   refine ⟨oper,ho,h2,fun e he hb=>?_⟩
   rw [ho] at h3
   simp only [Option.map_some,Option.getD_some,Array.all_eq_true'] at h3
   have:=h3 e (by simpa using he)
   simpa [hb] using this
 · rintro ⟨oper,ho,h2,h3⟩
   refine ⟨Z21 ho,h2, ?_⟩
   rw [ho]
   simp only [Option.map_some,Option.getD_some,Array.all_eq_true']
   intro e he
   cases hb:Region.binds md e with
   | false=>simp
   | true=>simp [h3 e (by simpa using he) hb]
def unl (s:Nat->Bool):Nat->Nat
 | 0=>0
 | n+1=>unl s n+cond (s n) 0 1
theorem unl_up {s:Nat->Bool} {j:Nat} (hs:s j=false):∀ n,unl (upS s j) n+(if j<n then 1 else 0)=unl s n:=by
 intro n
 induction n with
 | zero=>simp [unl]
 | succ n ih =>
  simp only [unl]
  by_cases e:n=j
  · subst e
    rw [Z4F,hs]
    simp only [Nat.lt_irrefl,if_false,Nat.add_zero] at ih
    simp [ih]
  · rw [Z9p e]
    by_cases h:j<n
    · rw [if_pos h] at ih; rw [if_pos qO]; omega
    · rw [if_neg h] at ih; rw [if_neg qO]; omega
theorem Ziq {s:Nat->Bool}:∀ n,unl s n=0 -> ∀ k,k<n->s k=true:=by
 intro n
 induction n with
 | zero=>intro _ k hk; omega
 | succ n ih =>
  intro h k hk
  simp only [unl] at h
  by_cases e:k=n
  · subst e
    cases hs:s k with
    | true=>rfl
    | false=>rw [hs] at h; simp at h
  · exact ih qO k qO
theorem Zg8 (hO:OS P o) (cx:Cx P o ops base nt f v M W ts) (hM:M 0=μ0) {ro:Option Nat} {n:Nat} {Q:Exit->Act->World->Prop}
 (hQ:∀ s p μ a w,(∀ k,k<ops.size->s k=true)->Inv ops base nt f v M μ0 w0 df s p μ a w->Q .normal a w) :
 ∀ (fuel:Nat) (listed:Array Bool) (s:Nat->Bool) (p:Nat) (μ:Mu) (a:Act) (w:World),listed.size=ops.size->(∀ k,k<ops.size->listed[k]? = some (s k))->unl s ops.size<=fuel →
  Inv ops base nt f v M μ0 w0 df s p μ a w->wpAnyIn (wd ro) n P .any ops Q fuel listed a w:=by
 have hE:=Z3M cx.reg
 have hget:∀ {listed:Array Bool} {s:Nat->Bool},listed.size=ops.size->(∀ k,k<ops.size->listed[k]? = some (s k)) -> ∀ k d,k<ops.size->listed.getD k d=s k:=by
  intro listed s h1 h2 k d hk
  rw [Array.getD_eq_getD_getElem?,h2 k hk]; rfl
 have hall:∀ {listed:Array Bool} {s:Nat->Bool},listed.size=ops.size->(∀ k,k<ops.size->listed[k]? = some (s k))->Region.ready .any ops listed=[] -> ∀ k,k<ops.size->s k=true:=by
  intro listed s h1 h2 hr k
  induction k using Nat.strongRecOn with
  | _ k ih =>
   intro hk
   cases hs:s k with
   | true=>rfl
   | false =>
    exfalso
    obtain ⟨oper,ho⟩:=Z8H hk
    have:k ∈ Region.ready .any ops listed:=Z8p.2 ⟨oper,ho,by rw [hget h1 h2 k _ hk,hs],fun e he hb=>by
     have hlt:=Z1V _ 0 hE k oper (by simpa using ho) e he hb
     rw [hget h1 h2 e.on _ qO]
     exact ih e.on qO qO⟩
    rw [hr] at this; cases this
 intro fuel
 induction fuel with
 | zero =>
  intro listed s p μ a w h1 h2 h3 I
  have hs:=Ziq ops.size (by omega:unl s ops.size=0)
  refine ⟨?_,hQ s p μ a w hs I⟩
  cases hr:Region.ready .any ops listed with
  | nil=>rfl
  | cons i l =>
   exfalso
   obtain ⟨oper,ho,h4,_⟩:=Z8p.1 (show i ∈ Region.ready .any ops listed by rw [hr]; simp)
   rw [hget h1 h2 i _ (Z21 ho),hs i (Z21 ho)] at h4; cases h4
 | succ fuel ih =>
  intro listed s p μ a w h1 h2 h3 I
  refine ⟨fun hr=>hQ s p μ a w (hall h1 h2 hr) I,fun i hi=>?_⟩
  obtain ⟨oper,ho,h4,h5⟩:=Z8p.1 hi
  have hin:=Z21 ho
  rw [hget h1 h2 i _ hin] at h4
  have hp:∀ e ∈ oper.after.toList,Region.binds .any e=true->s e.on=true:=by
   intro e he hb
   have hlt:=Z1V _ 0 hE i oper (by simpa using ho) e he hb
   rw [← hget h1 h2 e.on false qO]
   exact h5 e he hb
  have hnext:∀ p' μ' a' w',Inv ops base nt f v M μ0 w0 df (upS s i) p' μ' a' w'->wpAnyIn (wd ro) n P .any ops Q fuel (listed.setIfInBounds i true) a' w':=by
   intro p' μ' a' w' I'
   refine ih _ (upS s i) p' μ' a' w' (by simp [h1]) (fun k hk=>?_) ?_ I'
   · by_cases e:k=i
     · subst e; rw [Z4F]; simp [h1,hk]
     · rw [Z9p e,Array.getElem?_setIfInBounds_ne (Ne.symm e)]; exact h2 k hk
   · have:=unl_up h4 ops.size
     rw [if_pos hin] at this
     omega
  by_cases hc:cls oper.op=3
  · exact I.step_w hO cx hM ho h4 hp hc hnext
  · exact I.step_nw cx hM ho h4 hp hc (fun μ' a' w' I'=>hnext p μ' a' w' I')
theorem Zha (cx:Cx P o ops base nt f v M W ts) (hM:M 0=μ0) {a:Act} (ht:TmR μ0 (f 0).1 nt a.tmps) (hR:R μ0 (f 0).2.1 w0) :
 ∃ p,Inv ops base nt f v M μ0 w0 a.defers (fun _=>false) p μ0 a w0:=by
 obtain ⟨p,h1,h2,h3,h4⟩:=ZgU ops _ 0 rfl (Nat.zero_le _)
 obtain ⟨hwc,hwk⟩:=cx.walk h1 h2 h4
 have hD0:∀ i,μ0 i ≠ none->Dn M 0 i:=fun i h=>by unfold Dn; rw [hM]; exact h
 have hDp:∀ i,μ0 i ≠ none->Dn M p i:=fun i h=>cx.can.mono (Nat.le_refl _) (Nat.zero_le p) h2 (hD0 i h)
 have htm:∀ m,tmS ops v (f 0).1 (fun _=>false) m=(f 0).1:=by
  intro m; induction m with
  | zero=>rfl
  | succ m ih=>simp only [tmS,cond_false,ih]
 refine ⟨p,{ hpn:=h2,pre:=?_,nW:=(fun k h=>by cases h),wp:=h3,cl:=(fun k o' h=>by cases h),le0:=fun _ _ h=>h,dom:=fun i h=>.inl (hDp i h),ny:=?_,rel:=?_,tmr:=?_,df:=rfl,os:=rfl,tape:=rfl,output:=rfl,size:=Nat.le_refl _,fr:=fun _ _ _=>rfl,newb:=fun i m a b=>by rw [a] at b; cases b }⟩
 · intro k oper hk ho hc; exact absurd hc (h4 k (Nat.zero_le _) hk oper ho)
 · intro k hk _
   have hkn:k<ops.size:=by omega
   have hk256:=cx.k256 hkn
   refine ⟨?_, ?_⟩
   · cases e:μ0 (256*base+k) with
     | none=>rfl
     | some m=>exact absurd (show Zij base 0 (256*base+k) from ⟨by omega,by omega⟩) (cx.can.notown (Nat.zero_le _) (hD0 _ (by rw [e]; simp)))
   · exact (cx.walk (show k+1<=p by omega) h2 (fun q a b=>h4 q qO b)).2 _ (fun q a b=>by omega)
 · refine hR.cong fun i hi=>?_
   rw [cx.vbD h2 (hDp i hi)]
   refine hwk i fun k _ hk e=>?_
   have hk256:=cx.k256 (show k<ops.size by omega)
   exact cx.can.notown (Nat.zero_le _) (hD0 i hi) ⟨by omega,by omega⟩
 · rw [htm]; exact ht
theorem ZmM (cx:Cx P o ops base nt f v M W ts) (hM:M 0=μ0) {s:Nat->Bool} {p:Nat} {a:Act} (hs:∀ k,k<ops.size->s k=true) (I:Inv ops base nt f v M μ0 w0 df s p μ a w) :
 TmR μ (f ops.size).1 nt a.tmps/\Ext μ0 (f 0).2.1 (f 0).2.2 w0 (Zij base 0) μ (f ops.size).2.1 (f ops.size).2.2 w:=by
 have hp:p=ops.size:=by
  rcases I.wp with h | ⟨oper,ho,hc⟩
  · exact h
  · exact absurd hc (I.nW p (hs p (Z21 ho)) (Nat.le_refl _) oper ho)
 subst hp
 have hD0:∀ i,Dn M 0 i ↔ μ0 i ≠ none:=fun i=>by unfold Dn; rw [hM]
 have hsz:ops.size<=256:=by
  by_cases e:ops.size=0
  · omega
  · have:=cx.k256 (show ops.size-1<ops.size by omega); omega
 have hdom:∀ i,μ i ≠ none->Dn M ops.size i:=fun i h=>by
  rcases I.dom i h with h | ⟨k,_,h1,h2,_⟩
  · exact h
  · omega
 refine ⟨⟨I.tmr.size,fun t x hx=>I.tmr.val t x (by rw [cx.tmAll hs ops.size (Nat.le_refl _)]; exact hx)⟩, ?_⟩
 refine { mu:=I.le0,new:=?_,cle:=cx.can.cmono (Nat.le_refl _) (Nat.zero_le _) (Nat.le_refl _),rel:=?_,af:=?_,os:=I.os,tape:=I.tape,output:=I.output,size:=I.size,fr:=I.fr,wrm:=?_,newb:=I.newb,dd:=?_ }
 · intro i h0 h1
   rcases cx.can.new0 (Nat.le_refl _) (fun h=>(hD0 i).1 h h0) (hdom i h1) with h | h
   · exact .inl ⟨by omega,by omega⟩
   · exact .inr h
 · refine I.rel.cong fun i hi=>?_
   exact (Z83 qO).symm
 · intro i h0 hlt hno
   have hnd:∀ k,k<=ops.size -> ¬ Dn M k i:=by
    intro k hk hd
    rcases cx.can.new0 hk (fun h=>(hD0 i).1 h h0) hd with h | h
    · exact hno ⟨by omega,by omega⟩
    · omega
   have:∀ k,k<=ops.size->HeapC.get (f k).2.1 i=HeapC.get (f 0).2.1 i:=by
    intro k
    induction k with
    | zero=>intro _; rfl
    | succ k ih =>
     intro hk
     have hc:=cx.can.cmono (Nat.le_refl _) (Nat.zero_le k) qO
     rw [cx.can.af (Nat.le_refl _) qO (hnd k qO) qO (fun e=>hno ⟨by omega,by have:=cx.k256 (show k<ops.size by omega); omega⟩),ih qO]
   exact this ops.size (Nat.le_refl _)
 · intro i m hm hw
   exact cx.can.wr (Nat.le_refl _) (Nat.zero_le _) (Nat.le_refl _) ((hD0 i).2 (by rw [hm]; simp)) hw
 · intro i m hm hd
   exact cx.can.dd (Nat.le_refl _) (Nat.zero_le _) (Nat.le_refl _) ((hD0 i).2 (by rw [hm]; simp)) hd
end
theorem Zh2 {ops:Array Oper} {i j:Nat} {a b:Oper} (ha:ops[i]? = some a) (hb:ops[j]? = some b) (h1:cls a.op=1) (h3:cls b.op=3) (u1:(msk ops j).testBit i=false) (u2:(msk ops i).testBit j=false) :
 (i,j) ∈ lws ops:=by
 simp only [lws,List.mem_flatMap,List.mem_filterMap,List.mem_range]
 refine ⟨i,Z21 ha,j,Z21 hb, ?_⟩
 simp only [msk] at u1 u2
 simp only [ha,hb,h1,h3,u1,u2]
 rfl
theorem Ext.ofOwn {c c':Nat} {μ':Mu} {A':H} {w':World} (h:Ext μ A (c+1) w (Zij c 0) μ' A' c' w'):Ext μ A c w (fun _=>False) μ' A' c' w' :=
 { h with
  new:=fun i a b=>.inr (by
   have:=h.cle
   rcases h.new i a b with ⟨h1,h2⟩ | ⟨h1,h2⟩ <;> constructor <;> omega)
  cle:=by have:=h.cle; omega
  af:=fun i a b _=>h.af i a qO (fun hh=>by have:=hh.1; omega) }
theorem ZgE {o:Orc H} (hO:OS P o) (hmix:P.follows .mixedOrders=true) {id:Nat} {ops:Array Oper} {draw:Bool} {nt c c':Nat} {tm tm':Tm} {A':H} {a:Act}
 (e:Z5c P o ops draw nt tm A c=some (tm',A',c')) (ht:TmR μ tm nt a.tmps) (hR:R μ A w) (hfr:Z1Y μ c) {ro:Option Nat} {n:Nat} {Q:Exit->Act->World->Prop}
 (hQ:∀ a' μ' w',TmR μ' tm' nt a'.tmps->a'.defers=a.defers->Ext μ A c w (fun _=>False) μ' A' c' w'->Q .normal a' w'):(Code.region id ops draw).wpIn (wd ro) n P Q a w:=by
 have hfr1:Z1Y μ (c+1):=fun i hi=>hfr i qO
 have hown:∀ j,Zij c 0 j->μ j=none:=fun j hj=>hfr j (by have:=hj.1; omega)
 cases draw with
 | false =>
  refine wpIn_region ?_
  have e':Z1g P o ops c nt ops.toList 0 tm A (c+1)=some (tm',A',c'):=e
  have:=ZbB hO (ops:=ops) (ro:=ro) (n:=n) (Q:=Q) ops.toList 0 tm A (c+1) tm' A' c' μ w a e' (fun k=>by simp) ht hR hfr1 hown qO
   (fun a' μ' w' h1 h2 h3=>hQ a' μ' w' h1 h2 h3.ofOwn)
  rw [List.range_eq_range']
  simpa using this
 | true =>
  refine wpIn_region_any hmix ?_
  obtain ⟨hreg,e1⟩:=Z05 (show cond (Z8o ops) _ none=some (tm',A',c') from e)
  clear e
  have hruns:Z1g P o ops c nt ops.toList 0 tm A (c+1)=some (tm',A',c') ∧
   ∀ (f:Nat->Tm × H × Nat) (v:Nat->Value),f 0=(tm,A,c+1)->Tr P o ops c nt f v -> ∀ i j a b,ops[i]? = some a->ops[j]? = some b->cls a.op=1->cls b.op=3->(msk ops j).testBit i=false->(msk ops i).testBit j=false →
    ∀ x,rid ops (f i).1 a=some x->HeapC.get (f j).2.1 x=HeapC.get (f (j+1)).2.1 x:=by
   cases hl:(lws ops).isEmpty with
   | true =>
    rw [hl] at e1
    refine ⟨e1,fun f v _ _ i j a b ha hb h1 h3 u1 u2=>?_⟩
    have:=Zh2 ha hb h1 h3 u1 u2
    rw [List.isEmpty_iff.1 hl] at this; cases this
   | false =>
    rw [hl] at e1
    simp only [cond_false,Option.bind_eq_some_iff] at e1
    obtain ⟨q,hq,e2⟩:=e1
    obtain ⟨hlw,e3⟩:=Z05 e2
    cases e3
    refine ⟨Z5S _ _ _ _ _ _ hq,fun f v h0 hT i j a b ha hb h1 h3 u1 u2 x hx=>?_⟩
    have hmem:=Zh2 ha hb h1 h3 u1 u2
    have hk:=List.all_eq_true.1 hlw _ hmem
    obtain ⟨l1,l2⟩:=Z7x ops.toList 0 tm A (c+1) q f v hq h0 (fun k oper hk=>by
     have:=hT.step k oper (by simpa using hk); simpa using this)
    have t1:=l1 i a (by simpa using ha)
    have t2:=l1 j b (by simpa using hb)
    have t3:∃ y,q.2.2.2[j+1]? = some (y,(f (j+1)).2.1):=by
     by_cases hjn:j+1<ops.size
     · obtain ⟨b',hb'⟩:=Z8H hjn
       have:=l1 (j+1) b' (by simpa using hb')
       exact ⟨_,by simpa using this⟩
     · have hjj:=Z21 hb
       have:j+1=ops.size:=by omega
       rw [this]
       simpa using l2
    obtain ⟨y,t3⟩:=t3
    simp only [Nat.zero_add] at t1 t2
    simp only [lwOk,t1,t2,t3,hx] at hk
    exact HeapC.eqB_eq _ _ hk
  obtain ⟨hrun,hlw⟩:=hruns
  obtain ⟨f,v,hf0,hfn,hst⟩:=ZbC ops.toList 0 tm A (c+1) tm' A' c' hrun
  simp only [Nat.zero_add] at hst hfn
  have hT:Tr P o ops c nt f v:=⟨fun k oper ho=>hst k oper (by simpa using ho)⟩
  have hsize:ops.toList.length=ops.size:=by simp
  rw [hsize] at hfn
  have hRw:R μ (f 0).2.1 { w with drawn:=w.drawn+1 }:=by rw [hf0]; exact ⟨hR.blk,hR.inj,hR.lt⟩
  obtain ⟨M,W,ts,hM,hW,hC⟩:=can_ex hO hT (a0:=a) (by rw [hf0]; exact ht) hRw (by rw [hf0]; exact hfr1) hown (by rw [hf0]; show c<c+1; omega) ops.size (Nat.le_refl _)
  have cx:Cx P o ops c nt f v M W ts:=⟨hreg,hT,hC,hlw f v hf0 hT⟩
  obtain ⟨p,I⟩:=Zha cx hM (a:=a) (by rw [hf0]; exact ht) hRw
  refine Zg8 hO cx hM (df:=a.defers) (w0:={ w with drawn:=w.drawn+1 }) (fun s p' μ' a' w' hs I'=>?_) ops.size _ (fun _=>false) p μ a _ (by simp) (fun k hk=>by simp [hk]) ?_ I
  · obtain ⟨h1,h2⟩:=ZmM cx hM hs I'
    rw [hfn] at h1 h2
    rw [hf0] at h2
    refine hQ a' μ' w' h1 I'.df ?_
    have h3:=h2.ofOwn
    exact { mu:=h3.mu,new:=h3.new,cle:=h3.cle,rel:=h3.rel,af:=h3.af,os:=h3.os,tape:=h3.tape,output:=h3.output,size:=h3.size,fr:=h3.fr,wrm:=h3.wrm,newb:=h3.newb,dd:=h3.dd }
  · have:∀ n,unl (fun _=>false) n=n:=by
     intro n; induction n with
     | zero=>rfl
     | succ n ih=>simp [unl,ih]
    rw [this]; exact Nat.le_refl _
end Go.Ab
