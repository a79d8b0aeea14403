/- Parts of a proof: AbDrawW AbRegion AbExec AbOrc AbMono. Conditions: none. -/
import Derived.Test.YtdodippbpdechaaM3
import Derived.LoopNIn
set_option linter.all false
set_option maxRecDepth 100000
set_option maxHeartbeats 4000000
namespace Go.Ab
open Go
variable {H:Type} [HeapC H] {P:Program} {μ:Mu} {A:H} {w:World}
variable {o:Orc H} {ops:Array Oper} {base nt:Nat} {f:Nat->Tm × H × Nat} {v:Nat->Value} {M:Nat->Mu} {W:Nat->World} {ts:Nat->Array Value}
variable {μ0:Mu} {w0:World} {df:List Deferred}
theorem Mu.on_none {D:Nat->Prop} {i:Nat} (h:μ i=none):μ.on D i=none:=by unfold Mu.on; split <;> simp [h]
theorem R.onD {D:Nat->Prop} (hR:R μ A w) (hs:∀ i,D i->Zkq D (HeapC.get A i)):R (μ.on D) A w where
 blk:=fun i m h=>let ⟨hd,hm⟩:=Mu.on_some h; (hR.blk i m hm).onS (hs i hd)
 inj:=fun i j mi mj hi hj=>hR.inj i j mi mj (Mu.on_some hi).2 (Mu.on_some hj).2
 lt:=fun i m h=>hR.lt i m (Mu.on_some h).2
theorem Z1O {b:Option ABlk} (h:wrB b=true):Z2w b=false:=by
 unfold wrB at h; unfold Z2w
 split <;> simp_all
theorem Z6K {b:Option ABlk} (h:wrB b=true):roB b=false:=by
 unfold wrB at h; unfold roB
 split <;> simp_all
theorem Inv.step_w (hO:OS P o) (cx:Cx P o ops base nt f v M W ts) (hM:M 0=μ0) {s:Nat->Bool} {p:Nat} {a:Act} (I:Inv ops base nt f v M μ0 w0 df s p μ a w) {j:Nat} {oper:Oper} (hj:ops[j]? = some oper) (hns:s j=false)
 (hp:∀ e ∈ oper.after.toList,Region.binds .any e=true->s e.on=true) (hc:cls oper.op=3) {ro:Option Nat} {n:Nat} {K:Act->World->Prop} {Q:Exit->Act->World->Prop}
 (hK:∀ p' μ' a' w',Inv ops base nt f v M μ0 w0 df (upS s j) p' μ' a' w'->K a' w'):wpOpIn (wd ro) n P ops Q j K a w:=by
 have hE:=Z3W cx.reg
 have hjn:=Z25 hj
 have hjp:j=p:=by
  rcases Nat.lt_trichotomy j p with h | h | h
  · have:=I.pre j oper h hj hc; rw [hns] at this; cases this
  · exact h
  · rcases I.wp with h' | ⟨op',ho',hc'⟩
    · omega
    · have hb:(msk ops j).testBit p=true:=by
       rcases Z5V cx.reg h ho' hj with hb | ⟨_,_,h3⟩
       · exact hb
       · exact absurd ⟨hc',hc⟩ h3
      have hsp:=Z34 hE (S:=fun k=>s k=true) I.cl j p oper hj hp hb
      exact absurd hc' (I.nW p hsp (qG _) op' ho')
 subst hjp
 have hj256:=cx.k256 hjn
 obtain ⟨hst,hput⟩:=cx.tr.step j oper hj
 have hread:∀ t ∈ Z2C ops oper,tmS ops v (f 0).1 s ops.size t=(f j).1 t:=fun t ht=>cx.read I.cl hj hns hp ht
 have hpn:=I.hpn
 have hbp:base<(f j).2.2:=cx.can.bc j hpn
 have hμr:R (μ.on (Dn M j)) (f j).2.1 w:=by
  have h0:R (μ.on (Dn M j)) (vbF f base ops.size j) w:=I.rel.onD fun i hd=>by rw [cx.vbD hpn hd]; exact cx.can.suph hpn hd
  refine h0.cong fun i hi=>?_
  cases e:(μ.on (Dn M j)) i with
  | none=>exact absurd e hi
  | some m=>exact (cx.vbD hpn (Mu.on_some e).1).symm
 have hid:(μ.on (Dn M j)) (256*base+j)=none:=Mu.on_not (fun hd=>cx.can.notown hpn hd ⟨qO,qO⟩)
 have hfresh:Z22 (μ.on (Dn M j)) (f j).2.2:=fun i hi=>Mu.on_not (fun hd=>by have:=cx.can.lt hpn hd; omega)
 let tm1:Tm:=fun t=>if t ∈ Z2C ops oper then (f j).1 t else none
 have htm1:TmR (μ.on (Dn M j)) tm1 nt a.tmps:=by
  refine ⟨I.tmr.size,fun t x hx=>?_⟩
  have hx':t ∈ Z2C ops oper/\(f j).1 t=some x:=by
   simp only [tm1] at hx
   split at hx
   · rename_i h; exact ⟨h,hx⟩
   · cases hx
  obtain ⟨x',h1,h2⟩:=I.tmr.val t x (by rw [hread t hx'.1]; exact hx'.2)
  exact ⟨x',h1,h2.onS (cx.can.suptm hpn hx'.2)⟩
 have hst1:Z15 P o ops base j nt tm1 (f j).2.1 (f j).2.2 oper=some (v j,(f (j+1)).2.1,(f (j+1)).2.2):=by
  rw [Zdo (tm':=(f j).1)]
  · exact hst
  · intro t ht; simp only [tm1,ht,if_true]
 obtain ⟨p',hp1,hp2,hp3,hp4⟩:=Zj5 ops _ (j+1) rfl qO
 obtain ⟨hwc,hwk⟩:=cx.walk hp1 hp2 hp4
 refine Zcx hO hj hst1 htm1 hμr hid hfresh fun v' μ1 w1 hv hE1=>?_
 have hDmono:∀ i,Dn M j i->Dn M (j+1) i:=fun i h=>cx.can.mono1 (qG _) hjn h
 have hDp':∀ i,Dn M (j+1) i->Dn M p' i:=fun i h=>cx.can.mono (qG _) hp1 hp2 h
 have hEid:∀ i,μ i ≠ none -> ¬ Dn M (j+1) i -> ∃ k,s k=true/\j<k/\k<ops.size/\i=256*base+k/\wrB (HeapC.get (f (k+1)).2.1 i)=true/\Dn M (k+1) i:=by
  intro i h1 h2
  rcases I.dom i h1 with h | ⟨k,a1,a2,a3⟩
  · exact absurd (hDmono i h) h2
  · refine ⟨k,a1, ?_,a3⟩
    rcases Nat.lt_or_eq_of_le a2 with h | h
    · exact h
    · subst h; rw [hns] at a1; cases a1
 have hμ1E:∀ k,k<ops.size->(μ.on (Dn M j)) (256*base+k)=none->μ1 (256*base+k) ≠ none->k=j:=by
  intro k hk h0 h1
  have:=cx.k256 hk
  rcases hE1.new _ h0 h1 with h | h
  · have:=h.1; omega
  · omega
 have hDold:∀ i m,μ i=some m->Dn M (j+1) i->Dn M j i:=by
  intro i m hm hd
  rcases I.dom i (by rw [hm]; simp) with h | ⟨k,a1,a2,a3,a4,_⟩
  · exact h
  · have hk256:=cx.k256 a3
    have hkj:k ≠ j:=by intro e; subst e; rw [hns] at a1; cases a1
    exact absurd (show Zks base (j+1) i from ⟨qO,qO⟩) (cx.can.notown qO hd)
 let μ2:Mu:=fun i=>if M (j+1) i=none then μ i else μ1 i
 have hμ2D:∀ i,Dn M (j+1) i->μ2 i=μ1 i:=fun i h=>by simp only [μ2]; rw [if_neg h]
 have hμ2N:∀ i,¬ Dn M (j+1) i->μ2 i=μ i:=fun i h=>by
  simp only [μ2]
  rw [if_pos]
  cases e:M (j+1) i with
  | none=>rfl
  | some m=>exact absurd (by unfold Dn; rw [e]; simp) h
 have hle2:μ.le μ2:=by
  intro i m hm
  by_cases hd:Dn M (j+1) i
  · rw [hμ2D i hd]
    have h0:=hDold i m hm hd
    exact hE1.mu i m (by rw [Mu.on_of h0]; exact hm)
  · rw [hμ2N i hd]; exact hm
 have hle1:(μ1.on (Dn M (j+1))).le μ2:=by
  intro i m hm
  obtain ⟨hd,h1⟩:=Mu.on_some hm
  rw [hμ2D i hd]; exact h1
 have hv2:VR μ2 (v j) v':=(hv.onS (cx.can.supv hjn)).mono hle1
 have hgd1:∀ i m,μ0 i=none->μ1 i=some m->Gd f μ0 w0 m:=by
  intro i m h0 h1
  cases e:(μ.on (Dn M j)) i with
  | some m' =>
   have:=hE1.mu i m' e
   rw [h1] at this; cases this
   exact I.newb i _ h0 (Mu.on_some e).2
  | none =>
   rcases hE1.newb i m e h1 with h | ⟨k,mk,hk,hkb,hkw⟩
   · exact .inl (Nat.le_trans I.size h)
   · obtain ⟨hd,hk'⟩:=Mu.on_some hk
     have:=I.gd cx hM hk' (by rw [cx.vbD hpn hd]; exact hkw)
     unfold Gd at this ⊢
     rw [← hkb]; exact this
 have hvbE:∀ k,s k=true->j<k->k<ops.size->HeapC.get (vbF f base ops.size j) (256*base+k)=HeapC.get (f (k+1)).2.1 (256*base+k):=fun k _ h1 h2=>Zct qO h2
 have hvb'E:∀ k,s k=true->j<k->k<ops.size->HeapC.get (vbF f base ops.size p') (256*base+k)=HeapC.get (f (k+1)).2.1 (256*base+k):=by
  intro k _ h1 h2
  by_cases hkp:p'<=k
  · exact Zct hkp h2
  · rw [Z9O qO]
    have hk1:k+1<=p':=qO
    exact (cx.walk hk1 hp2 (fun q a b=>hp4 q qO b)).2 _ (fun q a b=>qO)
 have hvb'D:∀ i,Dn M (j+1) i->HeapC.get (vbF f base ops.size p') i=HeapC.get (f (j+1)).2.1 i:=by
  intro i hd
  rw [cx.vbD hp2 (hDp' i hd)]
  refine hwk i fun k a b=>?_
  have:=cx.k256 (show k<ops.size by omega)
  intro e
  exact cx.can.notown (show j+1<=ops.size by omega) hd ⟨qO,qO⟩
 have hEfr:∀ i m,μ i=some m -> ¬ Dn M (j+1) i->w1.heap[m.b]? = w.heap[m.b]?:=by
  intro i m hm hnd
  obtain ⟨k,a1,a2,a3,rfl,a5,_⟩:=hEid i (by rw [hm]; simp) hnd
  refine hE1.fr m.b (I.rel.lt _ m hm) fun i' m' hi' hw'=>?_
  obtain ⟨hd',hi''⟩:=Mu.on_some hi'
  have hwv:wrB (HeapC.get (vbF f base ops.size j) i')=true:=by rw [cx.vbD hpn hd']; exact hw'
  refine I.rel.inj i' _ m' m hi'' hm (fun e=>hnd (e ▸ hDmono _ hd')) (Z1O hwv) ?_ (by rw [Z6K hwv]; simp)
  rw [hvbE k a1 a2 a3]; exact Z1O a5
 have hcross:∀ i e mi me,μ1 i=some mi->Dn M (j+1) i->μ e=some me -> ¬ Dn M (j+1) e->Z2w (HeapC.get (f (j+1)).2.1 i)=false->mi.b ≠ me.b:=by
  intro i e mi me hi hdi he hde hdead
  obtain ⟨k,a1,a2,a3,rfl,a5,_⟩:=hEid e (by rw [he]; simp) hde
  have hvE:wrB (HeapC.get (vbF f base ops.size j) (256*base+k))=true:=by rw [hvbE k a1 a2 a3]; exact a5
  cases e0:(μ.on (Dn M j)) i with
  | some m0 =>
   have:=hE1.mu i m0 e0
   rw [hi] at this; cases this
   obtain ⟨hd0,hm0⟩:=Mu.on_some e0
   refine I.rel.inj i _ mi me hm0 he (fun e=>hde (e ▸ hdi)) ?_ (Z1O hvE) (by rw [Z6K hvE]; simp)
   rw [cx.vbD hpn hd0]
   cases hdd:Z2w (HeapC.get (f j).2.1 i) with
   | false=>rfl
   | true=>have:=hE1.dd i mi e0 hdd; rw [this] at hdead; cases hdead
  | none =>
   have hlt:=I.rel.lt _ me he
   rcases hE1.newb i mi e0 hi with h | ⟨q,mq,hq,hqb,hqw⟩
   · omega
   · obtain ⟨hdq,hmq⟩:=Mu.on_some hq
     rw [← hqb]
     have hwq:wrB (HeapC.get (vbF f base ops.size j) q)=true:=by rw [cx.vbD hpn hdq]; exact hqw
     exact I.rel.inj q _ mq me hmq he (fun e=>hde (e ▸ hDmono _ hdq)) (Z1O hwq) (Z1O hvE) (by rw [Z6K hwq]; simp)
 refine hK p' μ2 _ w1 ?_
 refine { hpn:=hp2,pre:=?_,nW:=?_,wp:=hp3,cl:=ZdS I.cl hj hp,le0:=fun i m h=>hle2 i m (I.le0 i m h),dom:=?_,ny:=?_,rel:=⟨?_, ?_, ?_⟩,tmr:=?_,df:=?_,os:=hE1.os.trans I.os,tape:=hE1.tape.trans I.tape,output:=hE1.output.trans I.output,size:=Nat.le_trans I.size hE1.size,fr:=?_,newb:=?_ }
 · intro k ok hk hok h3
   rcases Nat.lt_trichotomy k j with h | h | h
   · have:=I.pre k ok h hok h3; simp [upS,this]
   · subst h; exact Z4Q s k
   · exact absurd h3 (hp4 k qO hk ok hok)
 · intro k hk hpk
   rcases Zcu hk with h | rfl
   · exact I.nW k h qO
   · omega
 · intro i hi
   by_cases hd:Dn M (j+1) i
   · exact .inl (hDp' i hd)
   · rw [hμ2N i hd] at hi
     obtain ⟨k,a1,a2,a3,a4,a5,a6⟩:=hEid i hi hd
     by_cases hkp:p'<=k
     · exact .inr ⟨k,by simp [upS,a1],hkp,a3,a4,a5,a6⟩
     · exact .inl (cx.can.mono (qG _) (show k+1<=p' by omega) hp2 a6)
 · intro k hk hsk
   have hkj:k ≠ j:=by intro e; subst e; rw [Z4Q] at hsk; cases hsk
   rw [ZaR hkj] at hsk
   have hkn:k<ops.size:=qO
   have hk256:=cx.k256 hkn
   by_cases hlt:k<j
   · obtain ⟨h1,h2⟩:=I.ny k hlt hsk
     have hr0:(μ.on (Dn M j)) (256*base+k)=none:=Mu.on_none h1
     refine ⟨?_, ?_⟩
     · by_cases hd:Dn M (j+1) (256*base+k)
       · rw [hμ2D _ hd]
         cases e:μ1 (256*base+k) with
         | none=>rfl
         | some m=>exact absurd (hμ1E k hkn hr0 (by rw [e]; simp)) hkj
       · rw [hμ2N _ hd]; exact h1
     · rw [hwk _ (fun q a b=>qO),← h2]
       exact hE1.af _ hr0 qO (fun h=>hkj (by have:=h.1; omega))
   · have hnd:¬ Dn M (j+1) (256*base+k):=fun hd=>cx.can.notown qO hd ⟨qO,qO⟩
     refine ⟨?_, ?_⟩
     · rw [hμ2N _ hnd]
       cases e:μ (256*base+k) with
       | none=>rfl
       | some m =>
        obtain ⟨k',a1,a2,a3,a4,_⟩:=hEid _ (by rw [e]; simp) hnd
        have:k'=k:=qO
        subst this; rw [hsk] at a1; cases a1
     · exact (cx.walk (show k+1<=p' by omega) hp2 (fun q a b=>hp4 q qO b)).2 _ (fun q a b=>qO)
 · intro i m hm
   by_cases hd:Dn M (j+1) i
   · rw [hμ2D i hd] at hm
     rw [hvb'D i hd]
     exact ((hE1.rel.blk i m hm).onS (cx.can.suph qO hd)).mono hle1
   · rw [hμ2N i hd] at hm
     obtain ⟨k,a1,a2,a3,rfl,a5,_⟩:=hEid i (by rw [hm]; simp) hd
     have h0:=I.rel.blk _ m hm
     rw [hvbE k a1 a2 a3] at h0
     rw [hvb'E k a1 a2 a3]
     exact (h0.congr (hEfr _ m hm hd)).mono hle2
 · intro x y mx my hx hy hne h1 h2 h3
   by_cases hdx:Dn M (j+1) x <;> by_cases hdy:Dn M (j+1) y
   · rw [hμ2D x hdx] at hx; rw [hμ2D y hdy] at hy
     rw [hvb'D x hdx] at h1 h3; rw [hvb'D y hdy] at h2 h3
     exact hE1.rel.inj x y mx my hx hy hne h1 h2 h3
   · rw [hμ2D x hdx] at hx; rw [hμ2N y hdy] at hy
     rw [hvb'D x hdx] at h1
     exact hcross x y mx my hx hdx hy hdy h1
   · rw [hμ2N x hdx] at hx; rw [hμ2D y hdy] at hy
     rw [hvb'D y hdy] at h2
     exact (hcross y x my mx hy hdy hx hdx h2).symm
   · rw [hμ2N x hdx] at hx; rw [hμ2N y hdy] at hy
     obtain ⟨k,a1,a2,a3,e1,a5,_⟩:=hEid x (by rw [hx]; simp) hdx
     obtain ⟨l,b1,b2,b3,e2,b5,_⟩:=hEid y (by rw [hy]; simp) hdy
     subst e1; subst e2
     have hvx:wrB (HeapC.get (vbF f base ops.size j) (256*base+k))=true:=by rw [hvbE k a1 a2 a3]; exact a5
     have hvy:wrB (HeapC.get (vbF f base ops.size j) (256*base+l))=true:=by rw [hvbE l b1 b2 b3]; exact b5
     exact I.rel.inj _ _ mx my hx hy hne (Z1O hvx) (Z1O hvy) (by rw [Z6K hvx]; simp)
 · intro i m hm
   by_cases hd:Dn M (j+1) i
   · rw [hμ2D i hd] at hm; exact hE1.rel.lt i m hm
   · rw [hμ2N i hd] at hm; exact Nat.lt_of_lt_of_le (I.rel.lt i m hm) hE1.size
 · obtain ⟨_,_,_,hd,_⟩:=Z1i hst
   have h0:=TmR.put (a:=a) (I.tmr.mono hle2) hd hv2
   refine ⟨h0.size,fun t x hx=>h0.val t x ?_⟩
   rw [cx.tmUp I.cl hj hns t ops.size (qG _),if_pos hjn] at hx
   exact hx
 · rw [← I.df]; cases oper.dst <;> rfl
 · intro b hb hn
   rw [hE1.fr b (Nat.lt_of_lt_of_le hb I.size) ?_,I.fr b hb hn]
   intro i m hm hw
   obtain ⟨hd,hm'⟩:=Mu.on_some hm
   exact (I.gd cx hM hm' (by rw [cx.vbD hpn hd]; exact hw)).ne hb hn
 · intro i m h0 hm
   by_cases hd:Dn M (j+1) i
   · rw [hμ2D i hd] at hm; exact hgd1 i m h0 hm
   · rw [hμ2N i hd] at hm; exact I.newb i m h0 hm
end Go.Ab

namespace Go.Ab
open Go
variable {H:Type} [HeapC H] {P:Program} {μ:Mu} {A:H} {w:World}
section
variable {o:Orc H} {ops:Array Oper} {base nt:Nat} {f:Nat->Tm × H × Nat} {v:Nat->Value} {M:Nat->Mu} {W:Nat->World} {ts:Nat->Array Value}
variable {μ0:Mu} {w0:World} {df:List Deferred}
theorem Can.new0 (hC:Can ops base nt f v ops.size M W ts) {k i:Nat} (hk:k<=ops.size) (h0:¬ Dn M 0 i) (h:Dn M k i):(256*base<=i/\i<256*base+ops.size) ∨ (256*(f 0).2.2<=i/\i<256*(f k).2.2):=by
 induction k with
 | zero=>exact absurd h h0
 | succ k ih =>
  by_cases hd:Dn M k i
  · rcases ih qO hd with h1 | h1
    · exact .inl h1
    · have:=hC.cmono (qG _) (show k<=k+1 by omega) hk
      exact .inr ⟨h1.1,qO⟩
  · obtain ⟨oper,ho⟩:=Zag (show k<ops.size by omega)
    rcases hC.newn (qG _) qO ho hd h with ⟨h1,_⟩ | ⟨h1,h2⟩
    · exact .inl qO
    · have:=hC.cmono (qG _) (Nat.zero_le k) qO
      exact .inr ⟨qO,h2⟩
theorem Za4 {md:Region.Mode} {listed:Array Bool} {i:Nat}:i ∈ Region.ready md ops listed ↔ ∃ oper,ops[i]? = some oper/\listed.getD i true=false /\ ∀ e ∈ oper.after.toList,Region.binds md e=true->listed.getD e.on false=true:=by
 simp only [Region.ready,List.mem_filter,List.mem_range,qN,Bool.not_eq_true']
 constructor
 · rintro ⟨h1,h2,h3⟩
   obtain ⟨oper,ho⟩:=Zag h1
   refine ⟨oper,ho,h2,fun e he hb=>?_⟩
   rw [ho] at h3
   simp only [Option.map_some,Option.getD_some,Array.all_eq_true'] at h3
   have:=h3 e (by simpa using he)
   simpa [hb] using this
 · rintro ⟨oper,ho,h2,h3⟩
   refine ⟨Z25 ho,h2, ?_⟩
   rw [ho]
   simp only [Option.map_some,Option.getD_some,Array.all_eq_true']
   intro e he
   cases hb:Region.binds md e with
   | false=>simp
   | true=>simp [h3 e (by simpa using he) hb]
def unl (s:Nat->Bool):Nat->Nat
 | 0=>0
 | n+1=>unl s n+cond (s n) 0 1
theorem unl_up {s:Nat->Bool} {j:Nat} (hs:s j=false):∀ n,unl (upS s j) n+(if j<n then 1 else 0)=unl s n:=by
 intro n
 induction n with
 | zero=>simp [unl]
 | succ n ih =>
  simp only [unl]
  by_cases e:n=j
  · subst e
    rw [Z4Q,hs]
    simp only [Nat.lt_irrefl,if_false,qW] at ih
    simp [ih]
  · rw [ZaR e]
    by_cases h:j<n
    · rw [if_pos h] at ih; rw [if_pos qO]; omega
    · rw [if_neg h] at ih; rw [if_neg qO]; omega
theorem ZkC {s:Nat->Bool}:∀ n,unl s n=0 -> ∀ k,k<n->s k=true:=by
 intro n
 induction n with
 | zero=>intro _ k hk; omega
 | succ n ih =>
  intro h k hk
  simp only [unl] at h
  by_cases e:k=n
  · subst e
    cases hs:s k with
    | true=>rfl
    | false=>rw [hs] at h; simp at h
  · exact ih qO k qO
theorem Zil (hO:OS P o) (cx:Cx P o ops base nt f v M W ts) (hM:M 0=μ0) {ro:Option Nat} {n:Nat} {Q:Exit->Act->World->Prop}
 (hQ:∀ s p μ a w,(∀ k,k<ops.size->s k=true)->Inv ops base nt f v M μ0 w0 df s p μ a w->Q .normal a w) :
 ∀ (fuel:Nat) (listed:Array Bool) (s:Nat->Bool) (p:Nat) (μ:Mu) (a:Act) (w:World),listed.size=ops.size->(∀ k,k<ops.size->listed[k]? = some (s k))->unl s ops.size<=fuel →
  Inv ops base nt f v M μ0 w0 df s p μ a w->wpAnyIn (wd ro) n P .any ops Q fuel listed a w:=by
 have hE:=Z3W cx.reg
 have hget:∀ {listed:Array Bool} {s:Nat->Bool},listed.size=ops.size->(∀ k,k<ops.size->listed[k]? = some (s k)) -> ∀ k d,k<ops.size->listed.getD k d=s k:=by
  intro listed s h1 h2 k d hk
  rw [Array.getD_eq_getD_getElem?,h2 k hk]; rfl
 have hall:∀ {listed:Array Bool} {s:Nat->Bool},listed.size=ops.size->(∀ k,k<ops.size->listed[k]? = some (s k))->Region.ready .any ops listed=[] -> ∀ k,k<ops.size->s k=true:=by
  intro listed s h1 h2 hr k
  induction k using Nat.strongRecOn with
  | _ k ih =>
   intro hk
   cases hs:s k with
   | true=>rfl
   | false =>
    exfalso
    obtain ⟨oper,ho⟩:=Zag hk
    have:k ∈ Region.ready .any ops listed:=Za4.2 ⟨oper,ho,by rw [hget h1 h2 k _ hk,hs],fun e he hb=>by
     have hlt:=Z21 _ 0 hE k oper (by simpa using ho) e he hb
     rw [hget h1 h2 e.on _ qO]
     exact ih e.on qO qO⟩
    rw [hr] at this; cases this
 intro fuel
 induction fuel with
 | zero =>
  intro listed s p μ a w h1 h2 h3 I
  have hs:=ZkC ops.size (by omega:unl s ops.size=0)
  refine ⟨?_,hQ s p μ a w hs I⟩
  cases hr:Region.ready .any ops listed with
  | nil=>rfl
  | cons i l =>
   exfalso
   obtain ⟨oper,ho,h4,_⟩:=Za4.1 (show i ∈ Region.ready .any ops listed by rw [hr]; simp)
   rw [hget h1 h2 i _ (Z25 ho),hs i (Z25 ho)] at h4; cases h4
 | succ fuel ih =>
  intro listed s p μ a w h1 h2 h3 I
  refine ⟨fun hr=>hQ s p μ a w (hall h1 h2 hr) I,fun i hi=>?_⟩
  obtain ⟨oper,ho,h4,h5⟩:=Za4.1 hi
  have hin:=Z25 ho
  rw [hget h1 h2 i _ hin] at h4
  have hp:∀ e ∈ oper.after.toList,Region.binds .any e=true->s e.on=true:=by
   intro e he hb
   have hlt:=Z21 _ 0 hE i oper (by simpa using ho) e he hb
   rw [← hget h1 h2 e.on false qO]
   exact h5 e he hb
  have hnext:∀ p' μ' a' w',Inv ops base nt f v M μ0 w0 df (upS s i) p' μ' a' w'->wpAnyIn (wd ro) n P .any ops Q fuel (listed.setIfInBounds i true) a' w':=by
   intro p' μ' a' w' I'
   refine ih _ (upS s i) p' μ' a' w' (by simp [h1]) (fun k hk=>?_) ?_ I'
   · by_cases e:k=i
     · subst e; rw [Z4Q]; simp [h1,hk]
     · rw [ZaR e,Array.getElem?_setIfInBounds_ne (Ne.symm e)]; exact h2 k hk
   · have:=unl_up h4 ops.size
     rw [if_pos hin] at this
     omega
  by_cases hc:cls oper.op=3
  · exact I.step_w hO cx hM ho h4 hp hc hnext
  · exact I.step_nw cx hM ho h4 hp hc (fun μ' a' w' I'=>hnext p μ' a' w' I')
theorem Zji (cx:Cx P o ops base nt f v M W ts) (hM:M 0=μ0) {a:Act} (ht:TmR μ0 (f 0).1 nt a.tmps) (hR:R μ0 (f 0).2.1 w0) :
 ∃ p,Inv ops base nt f v M μ0 w0 a.defers (fun _=>false) p μ0 a w0:=by
 obtain ⟨p,h1,h2,h3,h4⟩:=Zj5 ops _ 0 rfl (Nat.zero_le _)
 obtain ⟨hwc,hwk⟩:=cx.walk h1 h2 h4
 have hD0:∀ i,μ0 i ≠ none->Dn M 0 i:=fun i h=>by unfold Dn; rw [hM]; exact h
 have hDp:∀ i,μ0 i ≠ none->Dn M p i:=fun i h=>cx.can.mono (qG _) (Nat.zero_le p) h2 (hD0 i h)
 have htm:∀ m,tmS ops v (f 0).1 (fun _=>false) m=(f 0).1:=by
  intro m; induction m with
  | zero=>rfl
  | succ m ih=>simp only [tmS,cond_false,ih]
 refine ⟨p,{ hpn:=h2,pre:=?_,nW:=(fun k h=>by cases h),wp:=h3,cl:=(fun k o' h=>by cases h),le0:=fun _ _ h=>h,dom:=fun i h=>.inl (hDp i h),ny:=?_,rel:=?_,tmr:=?_,df:=rfl,os:=rfl,tape:=rfl,output:=rfl,size:=qG _,fr:=fun _ _ _=>rfl,newb:=fun i m a b=>by rw [a] at b; cases b }⟩
 · intro k oper hk ho hc; exact absurd hc (h4 k (Nat.zero_le _) hk oper ho)
 · intro k hk _
   have hkn:k<ops.size:=qO
   have hk256:=cx.k256 hkn
   refine ⟨?_, ?_⟩
   · cases e:μ0 (256*base+k) with
     | none=>rfl
     | some m=>exact absurd (show Zks base 0 (256*base+k) from ⟨qO,qO⟩) (cx.can.notown (Nat.zero_le _) (hD0 _ (by rw [e]; simp)))
   · exact (cx.walk (show k+1<=p by omega) h2 (fun q a b=>h4 q qO b)).2 _ (fun q a b=>qO)
 · refine hR.cong fun i hi=>?_
   rw [cx.vbD h2 (hDp i hi)]
   refine hwk i fun k _ hk e=>?_
   have hk256:=cx.k256 (show k<ops.size by omega)
   exact cx.can.notown (Nat.zero_le _) (hD0 i hi) ⟨qO,qO⟩
 · rw [htm]; exact ht
theorem Zpq (cx:Cx P o ops base nt f v M W ts) (hM:M 0=μ0) {s:Nat->Bool} {p:Nat} {a:Act} (hs:∀ k,k<ops.size->s k=true) (I:Inv ops base nt f v M μ0 w0 df s p μ a w) :
 TmR μ (f ops.size).1 nt a.tmps/\Ext μ0 (f 0).2.1 (f 0).2.2 w0 (Zks base 0) μ (f ops.size).2.1 (f ops.size).2.2 w:=by
 have hp:p=ops.size:=by
  rcases I.wp with h | ⟨oper,ho,hc⟩
  · exact h
  · exact absurd hc (I.nW p (hs p (Z25 ho)) (qG _) oper ho)
 subst hp
 have hD0:∀ i,Dn M 0 i ↔ μ0 i ≠ none:=fun i=>by unfold Dn; rw [hM]
 have hsz:ops.size<=256:=by
  by_cases e:ops.size=0
  · omega
  · have:=cx.k256 (show ops.size-1<ops.size by omega); omega
 have hdom:∀ i,μ i ≠ none->Dn M ops.size i:=fun i h=>by
  rcases I.dom i h with h | ⟨k,_,h1,h2,_⟩
  · exact h
  · omega
 refine ⟨⟨I.tmr.size,fun t x hx=>I.tmr.val t x (by rw [cx.tmAll hs ops.size (qG _)]; exact hx)⟩, ?_⟩
 refine { mu:=I.le0,new:=?_,cle:=cx.can.cmono (qG _) (Nat.zero_le _) (qG _),rel:=?_,af:=?_,os:=I.os,tape:=I.tape,output:=I.output,size:=I.size,fr:=I.fr,wrm:=?_,newb:=I.newb,dd:=?_ }
 · intro i h0 h1
   rcases cx.can.new0 (qG _) (fun h=>(hD0 i).1 h h0) (hdom i h1) with h | h
   · exact .inl ⟨qO,qO⟩
   · exact .inr h
 · refine I.rel.cong fun i hi=>?_
   exact (Z9O qO).symm
 · intro i h0 hlt hno
   have hnd:∀ k,k<=ops.size -> ¬ Dn M k i:=by
    intro k hk hd
    rcases cx.can.new0 hk (fun h=>(hD0 i).1 h h0) hd with h | h
    · exact hno ⟨qO,qO⟩
    · omega
   have:∀ k,k<=ops.size->HeapC.get (f k).2.1 i=HeapC.get (f 0).2.1 i:=by
    intro k
    induction k with
    | zero=>intro _; rfl
    | succ k ih =>
     intro hk
     have hc:=cx.can.cmono (qG _) (Nat.zero_le k) qO
     rw [cx.can.af (qG _) qO (hnd k qO) qO (fun e=>hno ⟨qO,by have:=cx.k256 (show k<ops.size by omega); omega⟩),ih qO]
   exact this ops.size (qG _)
 · intro i m hm hw
   exact cx.can.wr (qG _) (Nat.zero_le _) (qG _) ((hD0 i).2 (by rw [hm]; simp)) hw
 · intro i m hm hd
   exact cx.can.dd (qG _) (Nat.zero_le _) (qG _) ((hD0 i).2 (by rw [hm]; simp)) hd
end
theorem Zjc {ops:Array Oper} {i j:Nat} {a b:Oper} (ha:ops[i]? = some a) (hb:ops[j]? = some b) (h1:cls a.op=1) (h3:cls b.op=3) (u1:(msk ops j).testBit i=false) (u2:(msk ops i).testBit j=false) :
 (i,j) ∈ lws ops:=by
 simp only [lws,List.mem_flatMap,List.mem_filterMap,List.mem_range]
 refine ⟨i,Z25 ha,j,Z25 hb, ?_⟩
 simp only [msk] at u1 u2
 simp only [ha,hb,h1,h3,u1,u2]
 rfl
theorem Ext.ofOwn {c c':Nat} {μ':Mu} {A':H} {w':World} (h:Ext μ A (c+1) w (Zks c 0) μ' A' c' w'):Ext μ A c w (fun _=>False) μ' A' c' w' :=
 { h with
  new:=fun i a b=>.inr (by
   have:=h.cle
   rcases h.new i a b with ⟨h1,h2⟩ | ⟨h1,h2⟩ <;> constructor <;> omega)
  cle:=by have:=h.cle; omega
  af:=fun i a b _=>h.af i a qO (fun hh=>by have:=hh.1; omega) }
theorem ZiS {o:Orc H} (hO:OS P o) (hmix:P.follows .mixedOrders=true) {id:Nat} {ops:Array Oper} {draw:Bool} {nt c c':Nat} {tm tm':Tm} {A':H} {a:Act}
 (e:Z5z P o ops draw nt tm A c=some (tm',A',c')) (ht:TmR μ tm nt a.tmps) (hR:R μ A w) (hfr:Z22 μ c) {ro:Option Nat} {n:Nat} {Q:Exit->Act->World->Prop}
 (hQ:∀ a' μ' w',TmR μ' tm' nt a'.tmps->a'.defers=a.defers->Ext μ A c w (fun _=>False) μ' A' c' w'->Q .normal a' w'):(Code.region id ops draw).wpIn (wd ro) n P Q a w:=by
 have hfr1:Z22 μ (c+1):=fun i hi=>hfr i qO
 have hown:∀ j,Zks c 0 j->μ j=none:=fun j hj=>hfr j (by have:=hj.1; omega)
 cases draw with
 | false =>
  refine wpIn_region ?_
  have e':Z1l P o ops c nt ops.toList 0 tm A (c+1)=some (tm',A',c'):=e
  have:=Zdu hO (ops:=ops) (ro:=ro) (n:=n) (Q:=Q) ops.toList 0 tm A (c+1) tm' A' c' μ w a e' (fun k=>by simp) ht hR hfr1 hown qO
   (fun a' μ' w' h1 h2 h3=>hQ a' μ' w' h1 h2 h3.ofOwn)
  rw [List.range_eq_range']
  simpa using this
 | true =>
  refine wpIn_region_any hmix ?_
  obtain ⟨hreg,e1⟩:=Z06 (show cond (Za3 ops) _ none=some (tm',A',c') from e)
  clear e
  have hruns:Z1l P o ops c nt ops.toList 0 tm A (c+1)=some (tm',A',c') ∧
   ∀ (f:Nat->Tm × H × Nat) (v:Nat->Value),f 0=(tm,A,c+1)->Tr P o ops c nt f v -> ∀ i j a b,ops[i]? = some a->ops[j]? = some b->cls a.op=1->cls b.op=3->(msk ops j).testBit i=false->(msk ops i).testBit j=false →
    ∀ x,rid ops (f i).1 a=some x->HeapC.get (f j).2.1 x=HeapC.get (f (j+1)).2.1 x:=by
   cases hl:(lws ops).isEmpty with
   | true =>
    rw [hl] at e1
    refine ⟨e1,fun f v _ _ i j a b ha hb h1 h3 u1 u2=>?_⟩
    have:=Zjc ha hb h1 h3 u1 u2
    rw [List.isEmpty_iff.1 hl] at this; cases this
   | false =>
    rw [hl] at e1
    simp only [cond_false,qA] at e1
    obtain ⟨q,hq,e2⟩:=e1
    obtain ⟨hlw,e3⟩:=Z06 e2
    cases e3
    refine ⟨Z6i _ _ _ _ _ _ hq,fun f v h0 hT i j a b ha hb h1 h3 u1 u2 x hx=>?_⟩
    have hmem:=Zjc ha hb h1 h3 u1 u2
    have hk:=List.all_eq_true.1 hlw _ hmem
    obtain ⟨l1,l2⟩:=Z9n ops.toList 0 tm A (c+1) q f v hq h0 (fun k oper hk=>by
     have:=hT.step k oper (by simpa using hk); simpa using this)
    have t1:=l1 i a (by simpa using ha)
    have t2:=l1 j b (by simpa using hb)
    have t3:∃ y,q.2.2.2[j+1]? = some (y,(f (j+1)).2.1):=by
     by_cases hjn:j+1<ops.size
     · obtain ⟨b',hb'⟩:=Zag hjn
       have:=l1 (j+1) b' (by simpa using hb')
       exact ⟨_,by simpa using this⟩
     · have hjj:=Z25 hb
       have:j+1=ops.size:=qO
       rw [this]
       simpa using l2
    obtain ⟨y,t3⟩:=t3
    simp only [Nat.zero_add] at t1 t2
    simp only [lwOk,t1,t2,t3,hx] at hk
    exact HeapC.eqB_eq _ _ hk
  obtain ⟨hrun,hlw⟩:=hruns
  obtain ⟨f,v,hf0,hfn,hst⟩:=Zdv ops.toList 0 tm A (c+1) tm' A' c' hrun
  simp only [Nat.zero_add] at hst hfn
  have hT:Tr P o ops c nt f v:=⟨fun k oper ho=>hst k oper (by simpa using ho)⟩
  have hsize:ops.toList.length=ops.size:=by simp
  rw [hsize] at hfn
  have hRw:R μ (f 0).2.1 { w with drawn:=w.drawn+1 }:=by rw [hf0]; exact ⟨hR.blk,hR.inj,hR.lt⟩
  obtain ⟨M,W,ts,hM,hW,hC⟩:=can_ex hO hT (a0:=a) (by rw [hf0]; exact ht) hRw (by rw [hf0]; exact hfr1) hown (by rw [hf0]; show c<c+1; omega) ops.size (qG _)
  have cx:Cx P o ops c nt f v M W ts:=⟨hreg,hT,hC,hlw f v hf0 hT⟩
  obtain ⟨p,I⟩:=Zji cx hM (a:=a) (by rw [hf0]; exact ht) hRw
  refine Zil hO cx hM (df:=a.defers) (w0:={ w with drawn:=w.drawn+1 }) (fun s p' μ' a' w' hs I'=>?_) ops.size _ (fun _=>false) p μ a _ (by simp) (fun k hk=>by simp [hk]) ?_ I
  · obtain ⟨h1,h2⟩:=Zpq cx hM hs I'
    rw [hfn] at h1 h2
    rw [hf0] at h2
    refine hQ a' μ' w' h1 I'.df ?_
    have h3:=h2.ofOwn
    exact { mu:=h3.mu,new:=h3.new,cle:=h3.cle,rel:=h3.rel,af:=h3.af,os:=h3.os,tape:=h3.tape,output:=h3.output,size:=h3.size,fr:=h3.fr,wrm:=h3.wrm,newb:=h3.newb,dd:=h3.dd }
  · have:∀ n,unl (fun _=>false) n=n:=by
     intro n; induction n with
     | zero=>rfl
     | succ n ih=>simp [unl,ih]
    rw [this]; exact qG _
end Go.Ab

namespace Go.Ab
open Go
variable {H:Type} [HeapC H] {P:Program} {μ:Mu} {A:H} {w:World}
theorem Ext.del {c:Nat} {own:Nat->Prop} (hR:R μ A w) {i:Nat} {m:ME} (hm:μ i=some m) (hw:wrB (HeapC.get A i)=true)
 {w':World} (os:w'.os=w.os) (tape:w'.tape=w.tape) (output:w'.output=w.output) (size:w'.heap.size=w.heap.size) (oth:∀ b,b ≠ m.b->w'.heap[b]? = w.heap[b]?) :
 Ext μ A c w own μ (HeapC.del A i) c w' where
 mu:=fun _ _ e=>e
 new:=fun i h1 h2=>absurd h1 h2
 cle:=qG _
 rel:={
  blk:=fun j mj hj=>by
   rw [HeapC.get_del]
   by_cases e:j=i
   · simp only [e,if_true]; trivial
   · simp only [e,if_false]
     have h0:=hR.blk j mj hj
     cases hd:Z2w (HeapC.get A j) with
     | true =>
      unfold Z2w at hd
      split at hd
      · rename_i hg; rw [hg]; trivial
      · cases hd
     | false =>
      refine h0.congr (oth _ ?_)
      exact hR.inj j i mj m hj hm e hd (Z1D hw) (by rw [Z4T hw]; simp)
  inj:=fun a b ma mb ha hb' hne=>by
   rw [HeapC.get_del,HeapC.get_del]
   by_cases ea:a=i <;> by_cases eb:b=i
   · exact absurd (ea.trans eb.symm) hne
   · subst ea
     simp only [eb,if_true,if_false]
     intro _ h2 h3
     exact hR.inj a b ma mb ha hb' hne (Z1D hw) h2 (by rw [Z4T hw]; simp)
   · subst eb
     simp only [ea,if_true,if_false]
     intro h1 _ h3
     exact hR.inj a b ma mb ha hb' hne h1 (Z1D hw) (by rw [Z4T hw]; simp)
   · simp only [ea,eb,if_false]
     exact hR.inj a b ma mb ha hb' hne
  lt:=fun j mj hj=>by rw [size]; exact hR.lt j mj hj }
 af:=fun j h1 _ _=>by
  rw [HeapC.get_del,if_neg]
  intro e; subst e; rw [hm] at h1; cases h1
 os:=os
 tape:=tape
 output:=output
 size:=qO
 fr:=fun b _ h=>oth b (fun e=>h i m hm hw e.symm)
 wrm:=fun j mj hj h=>by
  rw [HeapC.get_del] at h
  by_cases e:j=i
  · simp [e,wrB] at h
  · simpa [e] using h
 newb:=fun j mj h1 h2=>by rw [h1] at h2; cases h2
 dd:=fun j mj hj h=>by
  rw [HeapC.get_del]
  by_cases e:j=i
  · subst e; rw [Z1D hw] at h; cases h
  · simpa [e] using h
theorem ZdP {c nt t:Nat} {tm:Tm} {ts:Array Value} (ht:TmR μ tm nt ts) (hR:R μ A w):Ext μ A c w (fun _=>False) μ (Zqi tm A t) c w:=by
 unfold Zqi
 split
 · rename_i i hv
   split
   · rename_i cs hg
     obtain ⟨v',_,h2⟩:=ht.val t _ hv
     cases h2 with
     | @ptr _ _ m hm =>
      exact Ext.del hR hm (by rw [hg]; rfl) rfl rfl rfl rfl (fun _ _=>rfl)
   · exact Ext.refl hR
 · exact Ext.refl hR
theorem Ext.trans0 {μ μ1 μ2:Mu} {A A1 A2:H} {c c1 c2:Nat} {w w1 w2:World} (h:Ext μ A c w (fun _=>False) μ1 A1 c1 w1) (k:Ext μ1 A1 c1 w1 (fun _=>False) μ2 A2 c2 w2):Ext μ A c w (fun _=>False) μ2 A2 c2 w2 :=
 (h.trans k (fun _ h=>h.elim) (fun _ h=>h.elim)).weaken (fun _ h=>h.elim id id)
theorem Z4O {c nt:Nat} {tm:Tm} {ts:Array Value} (ht:TmR μ tm nt ts):∀ (l:List Nat) (A:H),R μ A w->Ext μ A c w (fun _=>False) μ (Z1J tm A l) c w
 | [],A,hR=>Ext.refl hR
 | t::l,A,hR=>(ZdP ht hR).trans0 (Z4O ht l _ (ZdP (c:=c) ht hR).rel)
theorem Z4S {b:Nat} {lp:Loop} (h:w.heap[b]? = some (.loop lp)):(Instr.getLoop b).run P w = .ok lp w:=by
 simp [Instr.getLoop,getObj,Sem.run,h]
theorem Z6s {b:Nat} {lp lp':Loop} (h:w.heap[b]? = some (.loop lp)):(setObj b (.loop lp')).run P w = .ok () { w with heap:=w.heap.setIfInBounds b (.loop lp') }:=by
 simp [setObj,Sem.run,h]
theorem Ext.setLoop {c:Nat} {own:Nat->Prop} (hR:R μ A w) {i:Nat} {m:ME} (hm:μ i=some m) {st st':ALoop} (hg:HeapC.get A i=some (.loop st)) {lp':Loop} (hL:LoopR μ st' lp') :
 Ext μ A c w own μ (HeapC.set A i (.loop st')) c { w with heap:=w.heap.setIfInBounds m.b (.loop lp') } :=
 Ext.setObj hR hm (by rw [hg]; rfl) rfl (fun h hh=>⟨lp',hh,hL⟩)
inductive DfR (μ:Mu):List Nat->List Deferred->Prop
 | nil:DfR μ [] []
 | cons {i:Nat} {m:ME} {d:Deferred} {ds:List Nat} {es:List Deferred} (h:μ i=some m) (ht:d.target = .collected m.b) (hs:DfR μ ds es):DfR μ (i::ds) (d::es)
theorem DfR.mono {μ':Mu} (hm:μ.le μ') {ds:List Nat} {es:List Deferred} (h:DfR μ ds es):DfR μ' ds es:=by
 induction h with
 | nil=>exact .nil
 | cons h ht _ ih=>exact .cons (hm _ _ h) ht ih
def RdR (μ:Mu) (rd ro:Option Nat):Prop :=
 match rd,ro with
 | none,none=>True
 | some l,some b=>∃ m,μ l=some m/\m.b=b
 | _,_=>False
theorem RdR.mono {μ':Mu} (hm:μ.le μ') {rd ro:Option Nat} (h:RdR μ rd ro):RdR μ' rd ro:=by
 cases rd <;> cases ro <;> first | exact h | exact (let ⟨m,a,b⟩:=h; ⟨m,hm _ _ a,b⟩)
def ZgX:Ex->Exit
 | .normal=>.normal
 | .exit id=>.exit id
 | .ret=>.ret
def Z4P (P:Program) (o:Orc H) (k:Nat):Prop :=
 ∀ (j:Nat) (lin fr:List Nat) (b:ACode) (nt:Nat) (rd:Option Nat) (vs:List Value) (A:H) (c:Nat) (df:List Nat) (r:Rt H),o (.lp j lin fr b nt rd) vs A c df=some r →
  ∀ (μ:Mu) (w:World) (a:Act) (ro:Option Nat) (n:Nat) (Q:Exit->Act->World->Prop),TmR μ (Z0h lin vs) nt a.tmps->R μ A w->Z22 μ c->RdR μ rd ro->DfR μ df a.defers →
  (∀ a' μ' w',TmR μ' (Z0h lin r.vs) nt a'.tmps->DfR μ' r.df a'.defers->Ext μ A c w (fun _=>False) μ' r.h r.c w'->Q (ZgX r.e) a' w')->Code.roundsIn (wd ro) n P (Z3V b) Q k a w
theorem Z4f {tm:Tm}:∀ {lin:List Nat} {vs:List Value},vals tm lin=some vs -> ∀ t v,Z0h lin vs t=some v->tm t=some v
 | [],vs,h,t,v,e=>by simp [Z0h] at e
 | x::xs,vs,h,t,v,e=>by
  simp only [Ab.vals,qA] at h
  obtain ⟨y,hy,ys,hys,h⟩:=h
  cases h
  simp only [Z0h] at e
  cases hb:Nat.beq t x with
  | true=>rw [hb] at e; rw [qJ hb,hy]; exact e
  | false=>rw [hb] at e; exact Z4f hys t v e
theorem TmR.sub {tm tm':Tm} {nt:Nat} {ts:Array Value} (h:TmR μ tm nt ts) (hs:∀ t v,tm' t=some v->tm t=some v):TmR μ tm' nt ts :=
 ⟨h.size,fun t v e=>h.val t v (hs t v e)⟩
theorem Z69 {o:Orc H}:∀ {code:ACode} {s s':St H} {e:Ex},Z2e P o code s=some (e,s')->s'.nt=s.nt/\s'.rd=s.rd:=by
 intro code
 induction code with
 | skip=>intro s s' e h; simp only [Z2e,Option.some.injEq,Prod.mk.injEq] at h; obtain ⟨_,rfl⟩:=h; exact ⟨rfl,rfl⟩
 | region id ops d=>intro s s' e h; simp only [Z2e,qA] at h; obtain ⟨r,_,h⟩:=h; cases h; exact ⟨rfl,rfl⟩
 | join lays x ih=>intro s s' e h; exact ih (by simpa only [Z2e] using h)
 | seq x y ihx ihy =>
  intro s s' e h
  simp only [Z2e,qA] at h
  obtain ⟨⟨e1,s1⟩,h1,h⟩:=h
  have k1:=ihx h1
  cases e1 with
  | normal=>have k2:=ihy h; exact ⟨k2.1.trans k1.1,k2.2.trans k1.2⟩
  | exit id=>cases h; exact k1
  | ret=>cases h; exact k1
 | cond c x y ihx ihy =>
  intro s s' e h
  simp only [Z2e,qA] at h
  obtain ⟨v,hv,h⟩:=h
  split at h
  · rename_i t; cases t
    · exact ihy h
    · exact ihx h
  · cases h
 | block id x ih =>
  intro s s' e h
  simp only [Z2e,qA] at h
  obtain ⟨⟨e1,s1⟩,h1,h⟩:=h
  have k1:=ih h1
  cases e1 <;> cases h <;> exact k1
 | loop j lin fr outs b _ =>
  intro s s' e h
  simp only [Z2e,qA] at h
  obtain ⟨vs,_,r,_,h⟩:=h
  cases h; exact ⟨rfl,rfl⟩
 | rangeFunc j lin fr outs f ps x y _ _ =>
  intro s s' e h
  simp only [Z2e,Z4L,qA] at h
  obtain ⟨fv,_,h⟩:=h
  split at h
  · simp only [qA] at h
    obtain ⟨vs,_,hd,_,r,_,h⟩:=h
    split at h
    · rename_i st _
      cases hb:decide (st.state=LoopState.busy) with
      | true=>rw [hb] at h; cases h
      | false =>
       rw [hb] at h
       simp only [cond_false,qA] at h
       obtain ⟨x,_,h⟩:=h
       cases h; exact ⟨rfl,rfl⟩
    · cases h
  · cases h
 | exit id=>intro s s' e h; simp only [Z2e,Option.some.injEq,Prod.mk.injEq] at h; obtain ⟨_,rfl⟩:=h; exact ⟨rfl,rfl⟩
 | ret=>intro s s' e h; simp only [Z2e,Option.some.injEq,Prod.mk.injEq] at h; obtain ⟨_,rfl⟩:=h; exact ⟨rfl,rfl⟩
 | bad c=>intro s s' e h; simp [Z2e] at h
theorem Zk6 {c:Nat} {s:St H} {rd ro:Option Nat} (hR:R μ A w) (hfr:Z22 μ c) (hrd:RdR μ rd ro) {hd:H × Nat} (e:Z31 A c rd=some hd) {tmps:Array Value} {fn:FuncId} {ps:Array Tmp} {x y:Code} :
 ∃ l mark w1 μ1,(Instr.enterLoop fn tmps ps x y ro).run P w = .ok (l,mark) w1/\l+1=w1.heap.size ∧
  (∃ w0,Ext μ A c w (fun i=>i=256*c+1) μ1 hd.1 c w0/\(∃ m,μ1 hd.2=some m/\w1 = { w0 with heap:=w0.heap.push (.loop { state:=.ready,pending:=none,fn,tmps,params:=ps,assign:=x,body:=y,defers:=m.b }) } /\ l=w0.heap.size ∧
   ((rd=none -> ∃ d,mark=[d]/\d.target = .collected m.b)/\(∀ l',rd=some l'->mark=[]))))/\μ1 (256*c)=none:=by
 cases rd with
 | none =>
  cases ro with
  | some b=>exact hrd.elim
  | none =>
   simp only [Z31,Option.some.injEq] at e
   subst e
   have hid:μ (256*c+1)=none:=hfr _ qO
   have hE:Ext μ A c w (fun i=>i=256*c+1) (μ.upd (256*c+1) ⟨w.heap.size,0,none⟩) (HeapC.set A (256*c+1) .dfr) c { w with heap:=w.heap.push (.deferred (some [])) } :=
    Ext.alloc hR hid rfl rfl rfl rfl rfl rfl (by simp [Z7H])
   refine ⟨w.heap.size+1,[{ target:=.collected w.heap.size,args:=#[] }],_,_, ?_, ?_,⟨_,hE,⟨w.heap.size,0,none⟩,Mu.upd_self μ _ _,rfl,by simp,(fun _=>⟨{ target:=.collected w.heap.size,args:=#[] },rfl,rfl⟩),(fun _ h=>by cases h)⟩, ?_⟩
   · simp [Instr.enterLoop,newObj,Sem.run,jA]
     rfl
   · simp
   · simp only [Mu.upd]; rw [if_neg qO]; exact hfr _ qO
 | some l =>
  cases ro with
  | none=>exact hrd.elim
  | some b =>
   obtain ⟨m,hm,rfl⟩:=hrd
   simp only [Z31] at e
   split at e
   · rename_i st hg
     simp only [Option.some.injEq] at e
     subst e
     have hb:=hR.blk l m hm
     rw [hg] at hb
     obtain ⟨lp,hlp,hL⟩:=hb
     obtain ⟨md,hmd,hmb⟩:=hL.dfr
     refine ⟨w.heap.size,[],_,μ, ?_, ?_,⟨w,Ext.refl hR,md,hmd,rfl,rfl,(fun h=>by cases h),(fun _ _=>rfl)⟩,hfr _ qO⟩
     · simp only [Instr.enterLoop,jA,Z4S hlp,qZ,jB]
       simp [newObj,Sem.run,hmb]
     · simp
   · cases e
theorem Zap {o:Orc H} {k:Nat} (hO:OS P o) (hL:Z4P P o k) (hmix:P.follows .mixedOrders=true):∀ {code:ACode} {s s':St H} {e:Ex},Z2e P o code s=some (e,s') →
 ∀ {μ:Mu} {w:World} {a:Act} {ro:Option Nat} {n:Nat} {Q:Exit->Act->World->Prop},TmR μ s.tm s.nt a.tmps->R μ s.h w->Z22 μ s.c->RdR μ s.rd ro->DfR μ s.df a.defers →
 (∀ a' μ' w',TmR μ' s'.tm s.nt a'.tmps->DfR μ' s'.df a'.defers->Ext μ s.h s.c w (fun _=>False) μ' s'.h s'.c w'->Q (ZgX e) a' w')->(Z3V code).wpIn (wd ro) n P Q a w:=by
 intro code
 induction code with
 | skip =>
  intro s s' e h μ w a ro n Q ht hR hfr hrd hdf hQ
  simp only [Z2e,Option.some.injEq,Prod.mk.injEq] at h
  obtain ⟨rfl,rfl⟩:=h
  exact wpIn_skip (hQ a μ w ht hdf (Ext.refl hR))
 | join lays x ih=>intro s s' e h; simp only [Z3V]; exact ih (by simpa only [Z2e] using h)
 | region id ops d =>
  intro s s' e h μ w a ro n Q ht hR hfr hrd hdf hQ
  simp only [Z2e,qA] at h
  obtain ⟨⟨tm',A',c'⟩,hr,h⟩:=h
  cases h
  exact ZiS hO hmix hr ht hR hfr (fun a' μ' w' h1 h2 h3=>hQ a' μ' w' h1 (by rw [h2]; exact hdf.mono h3.mu) h3)
 | seq x y ihx ihy =>
  intro s s' e h μ w a ro n Q ht hR hfr hrd hdf hQ
  simp only [Z2e,qA] at h
  obtain ⟨⟨e1,s1⟩,h1,h⟩:=h
  have k1:=Z69 h1
  refine wpIn_seq (ihx h1 ht hR hfr hrd hdf fun a1 μ1 w1 ht1 hdf1 hE1=>?_)
  cases e1 with
  | normal =>
   refine ihy h (by rw [k1.1]; exact ht1) hE1.rel (hE1.fresh hfr (fun _ h=>h.elim)) (by rw [k1.2]; exact hrd.mono hE1.mu) hdf1 fun a2 μ2 w2 ht2 hdf2 hE2=>?_
   exact hQ a2 μ2 w2 (by rw [k1.1] at ht2; exact ht2) hdf2 (hE1.trans0 hE2)
  | exit id=>cases h; exact hQ a1 μ1 w1 ht1 hdf1 hE1
  | ret=>cases h; exact hQ a1 μ1 w1 ht1 hdf1 hE1
 | cond c x y ihx ihy =>
  intro s s' e h μ w a ro n Q ht hR hfr hrd hdf hQ
  simp only [Z2e,qA] at h
  obtain ⟨v,hv,h⟩:=h
  split at h
  · rename_i t
    have hc:=(ht.eval (a:=a) hv).bool_left
    refine wpIn_cond hc ?_
    cases t
    · exact ihy h ht hR hfr hrd hdf hQ
    · exact ihx h ht hR hfr hrd hdf hQ
  · cases h
 | block id x ih =>
  intro s s' e h μ w a ro n Q ht hR hfr hrd hdf hQ
  simp only [Z2e,qA] at h
  obtain ⟨⟨e1,s1⟩,h1,h⟩:=h
  refine wpIn_block (ih h1 ht hR hfr hrd hdf fun a1 μ1 w1 ht1 hdf1 hE1=>?_)
  cases e1 with
  | normal=>cases h; exact hQ a1 μ1 w1 ht1 hdf1 hE1
  | exit id' =>
   simp only [Option.some.injEq,Prod.mk.injEq] at h
   obtain ⟨he,rfl⟩:=h
   show if id'=id then Q .normal a1 w1 else Q (.exit id') a1 w1
   by_cases hid:id'=id
   · subst hid
     simp only [Nat.beq_refl,cond_true] at he
     subst he
     simp only [if_true]
     exact hQ a1 μ1 w1 ht1 hdf1 hE1
   · have hb:Nat.beq id' id=false:=by rw [qY]; intro hh; exact hid (qJ hh)
     rw [hb] at he
     simp only [cond_false] at he
     subst he
     simp only [hid,if_false]
     exact hQ a1 μ1 w1 ht1 hdf1 hE1
  | ret=>cases h; exact hQ a1 μ1 w1 ht1 hdf1 hE1
 | loop j lin fr outs b _ =>
  intro s s' e h μ w a ro n Q ht hR hfr hrd hdf hQ
  simp only [Z2e,qA] at h
  obtain ⟨vs,hvs,r,hr,h⟩:=h
  cases h
  exact wpIn_loop_rounds k (hL _ _ _ _ _ _ _ _ _ _ _ hr μ w a ro n Q (ht.sub (Z4f hvs)) hR hfr hrd hdf (fun a' μ' w' h1 h2 h3=>hQ a' μ' w' h1 h2 h3))
 | rangeFunc j lin fr outs f ps x y _ _ =>
  intro s s' e h μ w a ro n Q ht hR hfr hrd hdf hQ
  simp only [Z2e,Z4L,qA] at h
  obtain ⟨fv,hfv,h⟩:=h
  split at h
  · rename_i g first cap
    simp only [qA] at h
    obtain ⟨vs,hvs,hd,hhd,r,hr,h⟩:=h
    obtain ⟨hcf,hcall⟩:=hO.fn _ _ _ _ _ _ hr
    have hfv':=ht.eval (a:=a) hfv
    refine wpIn_rangeFunc fun fn _=>?_
    obtain ⟨l,mark,w1,μ1,he,hl,⟨w0,hE0,m,hm,hw1,hl0,hmark⟩,hμ1⟩:=Zk6 (P:=P) (s:=s) hR hfr hrd hhd (tmps:=a.tmps) (fn:=fn) (ps:=ps) (x:=Z3V x) (y:=Z3V y)
    let st:ALoop:={ state:=.ready,pending:=none,nt:=s.nt,vals:=vs,lin:=lin,fr:=fr,params:=ps.toList,assign:=x,body:=y,dfr:=hd.2 }
    have hE1:Ext μ1 hd.1 s.c w0 (fun i=>i=256*s.c) (μ1.upd (256*s.c) ⟨l,0,none⟩) (HeapC.set hd.1 (256*s.c) (.loop st)) s.c w1:=by
     subst hw1
     refine Ext.alloc hE0.rel hμ1 (by simp [hl0]) rfl rfl rfl rfl rfl ?_
     refine ⟨{ state:=.ready,pending:=none,fn:=fn,tmps:=a.tmps,params:=ps,assign:=Z3V x,body:=Z3V y,defers:=m.b },by simp [hl0], ?_⟩
     have hle:=hE0.mu
     refine ⟨rfl,rfl,rfl,rfl,rfl,ht.size,fun t v hv=>?_, ?_⟩
     · obtain ⟨v',h1,h2⟩:=ht.val t v (Z4f hvs t v hv)
       exact ⟨v',h1,(h2.mono hle).mono (Mu.le_upd hμ1)⟩
     · exact ⟨m,Mu.le_upd hμ1 _ _ hm,rfl⟩
    have hE01:Ext μ s.h s.c w (fun i=>i=256*s.c+1 ∨ i=256*s.c) (μ1.upd (256*s.c) ⟨l,0,none⟩) (HeapC.set hd.1 (256*s.c) (.loop st)) (s.c+1) w1:=by
     have hf0:∀ i,256*s.c<=i->μ i=none:=hfr
     refine { mu:=fun i m h=>hE1.mu i m (hE0.mu i m h),new:=?_,cle:=qO,rel:=hE1.rel,af:=?_,os:=hE1.os.trans hE0.os,tape:=hE1.tape.trans hE0.tape,output:=hE1.output.trans hE0.output,size:=Nat.le_trans hE0.size hE1.size,fr:=?_,wrm:=?_,newb:=?_,dd:=fun i m hi h0=>hE1.dd i m (hE0.mu i m hi) (hE0.dd i m hi h0) }
     · intro i h0 h1
       cases e1:μ1 i with
       | none =>
        rcases hE1.new i e1 h1 with h | ⟨h,h'⟩
        · exact .inl (.inr h)
        · omega
       | some m1 =>
        rcases hE0.new i h0 (by rw [e1]; simp) with h | ⟨h,h'⟩
        · exact .inl (.inl h)
        · omega
     · intro i h0 h1 h2
       have hne1:i ≠ 256*s.c:=fun hh=>h2 (.inr hh)
       have hne2:i ≠ 256*s.c+1:=fun hh=>h2 (.inl hh)
       rw [HeapC.get_set,if_neg hne1]
       cases hrd':s.rd with
       | none =>
        rw [hrd'] at hhd
        simp only [Z31,Option.some.injEq] at hhd
        rw [← hhd]
        simp only [HeapC.get_set,hne2,if_false]
       | some l' =>
        rw [hrd'] at hhd
        simp only [Z31] at hhd
        split at hhd
        · simp only [Option.some.injEq] at hhd; rw [← hhd]
        · cases hhd
     · intro b hb hn
       rw [hE1.fr b (Nat.lt_of_lt_of_le hb hE0.size) ?_,hE0.fr b hb hn]
       intro i m' hi hw' hbb
       cases e0:μ i with
       | some m0 =>
        have:=hE0.mu i m0 e0
        rw [hi] at this; cases this
        exact hn i m' e0 (hE0.wrm i m' e0 hw') hbb
       | none =>
        rcases hE0.newb i m' e0 hi with h | ⟨j',mj,a1,a2,a3⟩
        · omega
        · exact hn j' mj a1 a3 (a2.trans hbb)
     · intro i m' hi hw'
       exact hE0.wrm i m' hi (hE1.wrm i m' (hE0.mu i m' hi) hw')
     · intro i m' h0 h1
       cases e1:μ1 i with
       | some m1 =>
        have:=hE1.mu i m1 e1
        rw [h1] at this; cases this
        exact hE0.newb i m' h0 e1
       | none =>
        rcases hE1.newb i m' e1 h1 with h | ⟨j',mj,a1,a2,a3⟩
        · exact .inl (Nat.le_trans hE0.size h)
        · cases e0:μ j' with
          | some m0 =>
           have:=hE0.mu j' m0 e0
           rw [a1] at this; cases this
           exact .inr ⟨j',mj,e0,a2,hE0.wrm j' mj e0 a3⟩
          | none =>
           rcases hE0.newb j' mj e0 a1 with h | ⟨q,mq,b1,b2,b3⟩
           · exact .inl qO
           · exact .inr ⟨q,mq,b1,b2.trans a2,b3⟩
    have hfr1:Z22 (μ1.upd (256*s.c) ⟨l,0,none⟩) (s.c+1):=by
     intro i hi
     cases e1:(μ1.upd (256*s.c) ⟨l,0,none⟩) i with
     | none=>rfl
     | some m1 =>
      rcases hE01.new i (hfr i qO) (by rw [e1]; simp) with (h | h) | ⟨_,h⟩ <;> omega
    generalize hev:a.eval f=fv' at hfv'
    cases hfv' with
    | @fnc _ avs avs' bs bs' z1 z2 z3 z4 =>
     have hle:=hE01.mu
     have hyv:VR (μ1.upd (256*s.c) ⟨l,0,none⟩) (.func (.yield (256*s.c)) #[] #[]) (.func (.yield l) #[] #[]):=VR.yield (Mu.upd_self _ _ _)
     have hargs:VRs (μ1.upd (256*s.c) ⟨l,0,none⟩) (first.toList++[.func (.yield (256*s.c)) #[] #[]]++cap.toList) (avs'.toList++[.func (.yield l) #[] #[]]++bs'.toList):=by
      refine VRs.append (VRs.append ?_ (VRs.cons hyv (VRs.nil _))) ?_
      · exact ⟨by simpa using z1,fun k' u u' hu hu'=>(z3 k' u u' (by simpa using hu) (by simpa using hu')).mono hle⟩
      · exact ⟨by simpa using z2,fun k' u u' hu hu'=>(z4 k' u u' (by simpa using hu) (by simpa using hu')).mono hle⟩
     have hC:=hcall _ w1 _ hargs hE1.rel hfr1
     have hres:=Z2k (P:=P) (w:=w1) (c:=rangeCall f l) (f:=f) rfl (ty:=0) hev
     refine ⟨l,mark,w1,_,w1,g,avs'++(rangeCall f l).args.map a.eval++bs',w1,he,hres,fun _ _=>trivial, ?_,fun hh=>by simp [wd,Fence.wide] at hh, ?_⟩
     · simp only [invoke]; exact hcf _ _
     · have harr:(avs'++(rangeCall f l).args.map a.eval++bs')=(avs'.toList++[Value.func (.yield l) #[] #[]]++bs'.toList).toArray:=by
        have hmap:(rangeCall f l).args.map a.eval = #[Value.func (.yield l) #[] #[]]:=by simp [rangeCall,Act.eval]
        rw [hmap]
        apply Array.ext'; simp
       rw [harr]
       refine (Zfj hC).mono ?_
       rintro en w3 ⟨z,z',μ2,hz1,rfl,hz3,hE2⟩
       split at h
       · rename_i st2 hg2
         cases hbusy:decide (st2.state=LoopState.busy) with
         | true=>rw [hbusy] at h; cases h
         | false =>
          rw [hbusy] at h
          simp only [cond_false,qA] at h
          obtain ⟨ex,hex,h⟩:=h
          cases h
          have hm2:μ2 (256*s.c)=some ⟨l,0,none⟩:=hE2.mu _ _ (Mu.upd_self _ _ _)
          have hb2:=hE2.rel.blk _ _ hm2
          rw [hg2] at hb2
          obtain ⟨lp,hlp,hL2⟩:=hb2
          have hnb:¬ (lp.state == LoopState.busy)=true:=by
           rw [hL2.state]
           intro hh
           have:=of_decide_eq_false hbusy
           exact this (by simpa using hh)
          have hendl:(Instr.endLoop l).run P w3 = .ok lp.pending { w3 with heap:=w3.heap.setIfInBounds l (.loop { lp with state:=.exhausted }) }:=by
           simp only [Instr.endLoop,jA,Z4S hlp,qZ]
           rw [if_neg hnb]
           simp only [jB,jA,qZ,Z6s hlp]
          have hE3:Ext μ2 r.h r.c w3 (fun _=>False) μ2 (HeapC.del r.h (256*s.c)) r.c { w3 with heap:=w3.heap.setIfInBounds l (.loop { lp with state:=.exhausted }) }:=by
           refine Ext.del hE2.rel hm2 (by rw [hg2]; rfl) rfl rfl rfl (by simp) (fun b hb=>?_)
           simp only
           rw [Array.getElem?_setIfInBounds_ne (Ne.symm hb)]
          have hEall:Ext μ s.h s.c w (fun _=>False) μ2 (HeapC.del r.h (256*s.c)) r.c { w3 with heap:=w3.heap.setIfInBounds l (.loop { lp with state:=.exhausted }) }:=by
           have h23:=hE2.trans0 hE3
           have hcc:=h23.cle
           refine { mu:=fun i m h=>h23.mu i m (hE01.mu i m h),new:=?_,cle:=qO,rel:=h23.rel,af:=?_,os:=h23.os.trans hE01.os,tape:=h23.tape.trans hE01.tape,output:=h23.output.trans hE01.output,size:=Nat.le_trans hE01.size h23.size,fr:=?_,wrm:=fun i m' hi hw'=>hE01.wrm i m' hi (h23.wrm i m' (hE01.mu i m' hi) hw'),newb:=?_,dd:=fun i m' hi h0=>h23.dd i m' (hE01.mu i m' hi) (hE01.dd i m' hi h0) }
           · intro i h0 h1
             cases e1:(μ1.upd (256*s.c) ⟨l,0,none⟩) i with
             | none =>
              rcases h23.new i e1 h1 with h | ⟨h,h'⟩
              · exact h.elim
              · exact .inr ⟨qO,h'⟩
             | some m1 =>
              rcases hE01.new i h0 (by rw [e1]; simp) with (h | h) | ⟨h,h'⟩
              · exact .inr ⟨qO,qO⟩
              · exact .inr ⟨qO,qO⟩
              · exact .inr ⟨h,qO⟩
           · intro i h0 h1 _
             have hno:(μ1.upd (256*s.c) ⟨l,0,none⟩) i=none:=by
              cases e1:(μ1.upd (256*s.c) ⟨l,0,none⟩) i with
              | none=>rfl
              | some m1=>rcases hE01.new i h0 (by rw [e1]; simp) with (h | h) | ⟨h,h'⟩ <;> omega
             rw [h23.af i hno qO (fun h=>h),hE01.af i h0 h1 (fun h=>by rcases h with h | h <;> omega)]
           · intro b hb hn
             rw [h23.fr b (Nat.lt_of_lt_of_le hb hE01.size) ?_,hE01.fr b hb hn]
             intro i m' hi hw' hbb
             cases e0:μ i with
             | some m0 =>
              have:=hE01.mu i m0 e0
              rw [hi] at this; cases this
              exact hn i m' e0 (hE01.wrm i m' e0 hw') hbb
             | none =>
              rcases hE01.newb i m' e0 hi with h | ⟨j',mj,a1,a2,a3⟩
              · omega
              · exact hn j' mj a1 a3 (a2.trans hbb)
           · intro i m' h0 h1
             cases e1:(μ1.upd (256*s.c) ⟨l,0,none⟩) i with
             | some m1 =>
              have:=h23.mu i m1 e1
              rw [h1] at this; cases this
              exact hE01.newb i m' h0 e1
             | none =>
              rcases h23.newb i m' e1 h1 with h | ⟨j',mj,a1,a2,a3⟩
              · exact .inl (Nat.le_trans hE01.size h)
              · cases e0:μ j' with
                | some m0 =>
                 have:=hE01.mu j' m0 e0
                 rw [a1] at this; cases this
                 exact .inr ⟨j',mj,e0,a2,hE01.wrm j' mj e0 a3⟩
                | none =>
                 rcases hE01.newb j' mj e0 a1 with h | ⟨q,mq,b1,b2,b3⟩
                 · exact .inl qO
                 · exact .inr ⟨q,mq,b1,b2.trans a2,b3⟩
          have hdf2:DfR μ2 (match s.rd with | none=>hd.2::s.df | some _=>s.df) (mark++a.defers):=by
           have hle2:μ.le μ2:=fun i m' h'=>hEall.mu i m' h'
           have hmm:μ2 hd.2=some m:=hE2.mu _ _ (Mu.le_upd hμ1 _ _ hm)
           cases hrd':s.rd with
           | none =>
            obtain ⟨d,rfl,hd'⟩:=hmark.1 hrd'
            exact .cons hmm hd' (hdf.mono hle2)
           | some l' =>
            have hmk:=hmark.2 l' hrd'
            subst hmk
            exact hdf.mono hle2
          have hq:=hQ { a with defers:=mark++a.defers } μ2 _ (ht.mono hEall.mu) hdf2 hEall
          refine ⟨lp.pending,_,hendl, ?_⟩
          revert hq
          generalize ({ w3 with heap:=w3.heap.setIfInBounds l (.loop { lp with state:=.exhausted }) }:World)=w4
          intro hq
          rw [hL2.pending]
          unfold exOf at hex
          split at hex
          · rename_i hp; cases hex; rw [hp]; exact hq
          · rename_i hp; cases hex; rw [hp]; exact wpIn_ret hq
          · rename_i id' hp; cases hex; rw [hp]; exact wpIn_exit hq
          · cases hex
       · cases h
  · cases h
 | exit id =>
  intro s s' e h μ w a ro n Q ht hR hfr hrd hdf hQ
  simp only [Z2e,Option.some.injEq,Prod.mk.injEq] at h
  obtain ⟨rfl,rfl⟩:=h
  exact wpIn_exit (hQ a μ w ht hdf (Ext.refl hR))
 | ret =>
  intro s s' e h μ w a ro n Q ht hR hfr hrd hdf hQ
  simp only [Z2e,Option.some.injEq,Prod.mk.injEq] at h
  obtain ⟨rfl,rfl⟩:=h
  exact wpIn_ret (hQ a μ w ht hdf (Ext.refl hR))
 | bad c =>
  intro s s' e h
  simp [Z2e] at h
end Go.Ab

namespace Go.Ab
open Go
variable {H:Type} [HeapC H] {P:Program} {μ:Mu} {A:H} {w:World}
theorem Z4P.step {bk:FuncId->Option AFun} {o:Orc H} {k:Nat} (hO:OS P o) (hL:Z4P P o k) (hmix:P.follows .mixedOrders=true):Z4P P (Z1L P bk o) (k+1):=by
 intro j lin fr b nt rd vs A c df r e μ w a ro n Q ht hR hfr hrd hdf hQ
 simp only [Z1L,qA] at e
 obtain ⟨⟨ex,s1⟩,h1,vs',hvs',e⟩:=e
 have k1:=Z69 h1
 refine Zap hO hL hmix h1 ht hR hfr hrd hdf fun a1 μ1 w1 ht1 hdf1 hE1=>?_
 have hdrop:=Z4O (c:=s1.c) ht1 fr s1.h hE1.rel
 have hE2:=hE1.trans0 hdrop
 have ht2:=ht1.sub (Z4f hvs')
 cases ex with
 | normal =>
  exact hL _ _ _ _ _ _ _ _ _ _ _ e μ1 w1 a1 ro n Q ht2 hE2.rel (hE2.fresh hfr (fun _ h=>h.elim)) (hrd.mono hE1.mu) hdf1 (fun a2 μ2 w2 h3 h4 h5=>hQ a2 μ2 w2 h3 h4 (hE2.trans0 h5))
 | exit id=>cases e; exact hQ a1 μ1 w1 ht2 hdf1 hE2
 | ret=>cases e; exact hQ a1 μ1 w1 ht2 hdf1 hE2
theorem Z9m {f:FuncId} {fn:Func} (hf:P.funcs[f]? = some fn) (hn:(fn.name == "runtime.NumGoroutine")=false) {c:Code} (hb:fn.body=some c) (avs:Array Value) (w:World):(callFunc f avs).run P w = .ok (.enter f avs) w:=by
 have hp:(program:Sem Program).run P w = .ok P w:=rfl
 simp only [callFunc,jA,hp,qZ,hf,hn,hb]
 rfl
theorem ZaT:∀ (args:List Value) (k t:Nat) (v:Value),Z0h (List.range' k args.length) args t=some v->k<=t/\args[t-k]? = some v
 | [],k,t,v,h=>by simp [Z0h] at h
 | x::xs,k,t,v,h=>by
  simp only [jK,List.range'_succ,Z0h] at h
  cases hb:Nat.beq t k with
  | true =>
   rw [hb] at h
   have:=qJ hb
   subst this
   exact ⟨qG _,by simpa using h⟩
  | false =>
   rw [hb] at h
   obtain ⟨h1,h2⟩:=ZaT xs (k+1) t v h
   refine ⟨qO, ?_⟩
   have:t-k=(t-(k+1))+1:=qO
   rw [this]; simpa using h2
theorem Zo6 {args args':List Value} (h:VRs μ args args') {nt:Nat} (hl:args.length<=nt):TmR μ (Z0h (List.range args.length) args) nt (args'.toArray++Array.replicate (nt-args'.toArray.size) undef):=by
 have hlen:=h.1
 refine ⟨by simp; omega,fun t v e=>?_⟩
 rw [List.range_eq_range'] at e
 obtain ⟨_,h2⟩:=ZaT args 0 t v e
 simp only [Nat.sub_zero] at h2
 obtain ⟨y,h3,h4⟩:=h.get h2
 have hlt:t<args'.length:=(jC.1 h3).1
 refine ⟨y, ?_,h4⟩
 rw [Array.getElem?_append_left (by simpa using hlt)]
 simpa using h3
theorem Z9v {b:Nat} (h:w.heap[b]? = some (.deferred (some []))):(Instr.takeDeferred b).run P w = .ok [] { w with heap:=w.heap.setIfInBounds b (.deferred none) }:=by
 simp [Instr.takeDeferred,getObj,setObj,Sem.run,h,jA]
theorem Z9R {c:Nat} {fn:Func} {tmps:Array Value} {Rq:Ending->World->Prop} {n:Nat}:∀ (df:List Nat) (ds:List Deferred) (A:H) (w:World) (A':H),DfR μ df ds->R μ A w->Z0a A df=some A' →
 (∀ w',Ext μ A c w (fun _=>False) μ A' c w'->LeavesIn Fence.wide n P fn tmps Rq [] .returning w')->LeavesInM Fence.wide n P fn tmps Rq ds .returning w
 | _,_,A,w,A',.nil,hR,e,h=>by
  simp only [Z0a,Option.some.injEq] at e
  subst e
  exact h w (Ext.refl hR)
 | _,_,A,w,A',.cons (i:=i) (m:=m) (ds:=ds) (es:=es) hm ht hs,hR,e,h=>by
  simp only [Z0a] at e
  split at e
  · rename_i hg
    have hb:=hR.blk i m hm
    rw [hg] at hb
    have hE:Ext μ A c w (fun _=>False) μ (HeapC.del A i) c { w with heap:=w.heap.setIfInBounds m.b (.deferred none) } :=
     Ext.del hR hm (by rw [hg]; rfl) rfl rfl rfl (by simp) (fun b hbb=>by simp only; rw [Array.getElem?_setIfInBounds_ne (Ne.symm hbb)])
    refine ⟨by simp,.inl ⟨m.b,_,ht,Z9v hb, ?_⟩⟩
    exact Z9R ds es _ _ A' hs hE.rel e (fun w' hE'=>h w' (hE.trans0 hE'))
  · cases e
theorem Zkm (hR:R μ A w) {t:TypeId} {p p' v:Value} (e:Zdb P A t p=some v) (hp:VR μ p p'):∃ a v',(asAddr p':Sem Addr).run P w = .ok a w/\(loadVar t a).run P w = .ok v' w/\VR μ v v':=by
 obtain ⟨v',h1,h2⟩:=ZdY (P:=P) hR e hp
 have:∃ i o,p = .pointer (some ⟨i,o,none⟩):=by
  simp only [Zdb,qA] at e
  obtain ⟨b,hb,e⟩:=e
  cases b with
  | true =>
   simp only [cond_true,qA,ldN] at e
   obtain ⟨n,hn,⟨i,o⟩,ha,_⟩:=e
   exact ⟨i,o,Z2x ha⟩
  | false =>
   simp only [cond_false,ld1,qA] at e
   obtain ⟨⟨i,o⟩,ha,_⟩:=e
   exact ⟨i,o,Z2x ha⟩
 obtain ⟨i,o,rfl⟩:=this
 obtain ⟨m,hm,rfl⟩:=hp.ptr_inv
 refine ⟨⟨m.b,m.s+o,none⟩,v', ?_, ?_,h2⟩
 · simp [asAddr]
 · simpa [Instr.loadAt,Instr.sureAddr,jA] using h1
theorem Z9k {f:ResultVar->Sem Value}:∀ {l:List ResultVar} {vs:List Value},l.length=vs.length->(∀ (k:Nat) (x:ResultVar) (y:Value),l[k]? = some x->vs[k]? = some y->(f x).run P w = .ok y w) →
 (l.mapM f).run P w = .ok vs w
 | [],[],_,_=>by simp
 | [],y::ys,h,_=>by simp at h
 | x::xs,[],h,_=>by simp at h
 | x::xs,y::ys,h,hh=>by
  rw [List.mapM_cons]
  simp only [jA,hh 0 x y (by simp) (by simp),qZ]
  rw [Z9k (l:=xs) (vs:=ys) (by simpa using h) (fun k a b ha hb=>hh (k+1) a b (by simpa using ha) (by simpa using hb))]
  simp
theorem Za2 {tm:Tm} {nt:Nat} {ts:Array Value} (ht:TmR μ tm nt ts) (hR:R μ A w):∀ {l:List ResultVar} {vs:List Value},Z6f P tm A l=some vs →
 ∃ vs',l.length=vs'.length/\VRs μ vs vs' /\ ∀ (k:Nat) (x:ResultVar) (y:Value),l[k]? = some x->vs'[k]? = some y →
  ((match x with
   | .tmp t=>pure (ts.getD t undef)
   | .cell a t=>do loadVar t (← asAddr (ts.getD a undef))):Sem Value).run P w = .ok y w
 | [],vs,e=>by
  simp only [Z6f,Option.some.injEq] at e
  subst e
  exact ⟨[],rfl,VRs.nil μ,by simp⟩
 | .tmp t::l,vs,e=>by
  simp only [Z6f,qA] at e
  obtain ⟨v,hv,us,hus,e⟩:=e
  cases e
  obtain ⟨vs',h1,h2,h3⟩:=Za2 ht hR hus
  obtain ⟨v',h4,h5⟩:=ht.val t v hv
  refine ⟨v'::vs',by simp [h1],VRs.cons h5 h2,fun k x y hx hy=>?_⟩
  cases k with
  | zero =>
   simp at hx hy
   subst hx; subst hy
   simp [Array.getD_eq_getD_getElem?,h4]
  | succ k=>exact h3 k x y (by simpa using hx) (by simpa using hy)
 | .cell a t::l,vs,e=>by
  simp only [Z6f,qA] at e
  obtain ⟨p,hp,v,hv,us,hus,e⟩:=e
  cases e
  obtain ⟨vs',h1,h2,h3⟩:=Za2 ht hR hus
  obtain ⟨p',h4,h5⟩:=ht.val a p hp
  obtain ⟨ad,v',h6,h7,h8⟩:=Zkm (P:=P) hR hv h5
  refine ⟨v'::vs',by simp [h1],VRs.cons h8 h2,fun k x y hx hy=>?_⟩
  cases k with
  | zero =>
   simp at hx hy
   subst hx; subst hy
   have hg:ts.getD a undef=p':=by simp [Array.getD_eq_getD_getElem?,h4]
   simp only [hg,jA,h6,qZ,h7]
  | succ k=>exact h3 k x y (by simpa using hx) (by simpa using hy)
theorem Zeb {fn:Func} {tm:Tm} {nt:Nat} {ts:Array Value} (ht:TmR μ tm nt ts) (hR:R μ A w) {vs:List Value} (e:Z6f P tm A fn.results.toList=some vs) :
 ∃ v',(results fn ts).run P w = .ok v' w/\VR μ (tup vs) v':=by
 obtain ⟨vs',h1,h2,h3⟩:=Za2 ht hR e
 have hm:=Z9k (P:=P) (w:=w) h1 h3
 have hrun:(results fn ts).run P w = .ok (if h:vs'.toArray.size=1 then vs'.toArray[0] else .tuple vs'.toArray) w:=by
  unfold results
  rw [jA,Array.mapM_eq_mapM_toList]
  simp only [map_eq_pure_bind,jA]
  erw [hm]
  simp
 refine ⟨_,hrun, ?_⟩
 have hlen:=h2.1
 cases vs with
 | nil =>
  have:=h2.nil_left; subst this
  simp only [List.toArray,tup]
  exact VR.tuple_iff.2 (VRs.nil μ)
 | cons x xs =>
  obtain ⟨y,ys,rfl,hxy,hxs⟩:=h2.left
  cases xs with
  | nil =>
   have:=hxs.nil_left; subst this
   simpa [tup] using hxy
  | cons x2 xs =>
   obtain ⟨y2,ys',rfl,_,_⟩:=hxs.left
   have:¬ ((y::y2::ys').toArray.size=1):=by simp
   rw [dif_neg this]
   simp only [tup]
   exact VR.tuple_iff.2 (by simpa using h2)
theorem OS.step {bk:FuncId->Option AFun} (hbk:Z7E P bk) {o:Orc H} {k:Nat} (hO:OS P o) (hL:Z4P P o k) (hmix:P.follows .mixedOrders=true):OS P (Z1L P bk o) where
 fn:=by
  intro f args A c df r e
  simp only [Z1L,qA] at e
  obtain ⟨af,haf,e⟩:=e
  obtain ⟨fn,cd,hf,hb,hn,hs,hnt,hres⟩:=hbk _ _ haf
  refine ⟨fun avs w=>Z9m hf hn hb avs w,fun μ w args' hargs hR hfresh=>?_⟩
  obtain ⟨hlen,e1⟩:=Z06 e
  clear e
  simp only [qA] at e1
  obtain ⟨⟨ex,s1⟩,h1,e2⟩:=e1
  refine callsIn_wide (n:=0).1 (callsIn_of_wp_marks hf hb trivial ?_)
  rw [← hs]
  have ht0:=Zo6 hargs (qP hlen)
  rw [hnt] at ht0
  have:=Zap (ro:=none) (n:=0) (Q:=bodyPostM Fence.wide 0 P fn (Z6g μ A c w r)) hO hL hmix h1 (w:=w) (a:={ tmps:=args'.toArray++Array.replicate (fn.ntmps-args'.toArray.size) undef,defers:=[] })
   (by rw [hnt]; exact ht0) hR hfresh trivial .nil ?_
  · exact this
  intro a1 μ1 w1 ht1 hdf1 hE1
  have hmain:∀ (h1':H) (vs:List Value),Z0a s1.h s1.df=some h1'->Z6f P s1.tm h1' af.res=some vs->r = { e:=.ret,vs:=[tup vs],h:=Z1J s1.tm h1' af.fr,c:=s1.c,df:=[] } →
   LeavesInM Fence.wide 0 P fn a1.tmps (Z6g μ A c w r) a1.defers .returning w1:=by
   intro h1' vs htk hrs hr
   refine Z9R (c:=s1.c) s1.df a1.defers s1.h w1 h1' hdf1 hE1.rel htk fun w2 hE2=>?_
   rw [hres] at hrs
   obtain ⟨v',hv1,hv2⟩:=Zeb (P:=P) ht1 hE2.rel hrs
   refine ⟨v',hv1,tup vs,v',μ1,by rw [hr],rfl,hv2, ?_⟩
   rw [hr]
   have hdrop:=Z4O (c:=s1.c) ht1 af.fr h1' hE2.rel
   exact (hE1.trans0 hE2).trans0 hdrop
  cases ex with
  | exit id=>cases e2
  | normal =>
   simp only [qA] at e2
   obtain ⟨h1',htk,vs,hrs,hr⟩:=e2
   cases hr
   exact hmain h1' vs htk hrs rfl
  | ret =>
   simp only [qA] at e2
   obtain ⟨h1',htk,vs,hrs,hr⟩:=e2
   cases hr
   exact hmain h1' vs htk hrs rfl
 rnd:=by
  intro nt lin fr params l x y vs A c df r e μ w ts m ro n f hm ht hR hfr
  simp only [Z1L,qA] at e
  obtain ⟨⟨ex,s1⟩,h1,e1⟩:=e
  cases ex with
  | exit id=>cases e1
  | ret=>cases e1
  | normal =>
   simp only [qA] at e1
   obtain ⟨hb1,hbeg,⟨ex2,s2⟩,h2,hs2,hset,e2⟩:=e1
   obtain ⟨hemp,e3⟩:=Z06 e2
   clear e2
   have k1:=Z69 h1
   have k2:=Z69 h2
   refine roundIn_of_wpIn trivial ?_
   have hrd:RdR μ (some l) (some m.b):=⟨m,hm,rfl⟩
   refine Zap (ro:=some m.b) hO hL hmix h1 (a:={ tmps:=ts,defers:=[] }) ht hR hfr hrd .nil fun a1 μ1 w1 ht1 hdf1 hE1=>?_
   unfold Z4e at hbeg
   split at hbeg
   · rename_i st hg
     obtain ⟨hready,hbeg'⟩:=Z06 hbeg
     cases hbeg'
     simp only [decide_eq_true_eq] at hready
     have hm1:=hE1.mu l m hm
     have hbk:=hE1.rel.blk l m hm1
     rw [hg] at hbk
     obtain ⟨lp,hlp,hL1⟩:=hbk
     have hbr:(Instr.beginRound m.b).run P w1 = .ok () { w1 with heap:=w1.heap.setIfInBounds m.b (.loop { lp with state:=.busy }) }:=by
      simp only [Instr.beginRound,jA,Z4S hlp,qZ,Z6s hlp]
      rw [hL1.state,hready]
      simp
     refine ⟨_,hbr, ?_⟩
     have hLb:LoopR μ1 { st with state:=.busy } { lp with state:=.busy }:=⟨rfl,hL1.pending,hL1.params,hL1.assign,hL1.body,hL1.size,hL1.vals,hL1.dfr⟩
     have hE2:=Ext.setLoop (c:=s1.c) (own:=fun _=>False) hE1.rel hm1 hg hLb
     have hE12:=hE1.trans0 hE2
     refine Zap (ro:=some m.b) hO hL hmix h2 (by rw [k1.1]; exact ht1) hE2.rel (hE12.fresh hfr (fun _ h=>h.elim)) (by rw [k1.2]; exact hrd.mono hE12.mu) hdf1 fun a2 μ2 w2 ht2 hdf2 hE3=>?_
     have hE123:=hE12.trans0 hE3
     have hdrop:=Z4O (c:=s2.c) ht2 fr s2.h hE3.rel
     have hE4:=hE123.trans0 hdrop
     unfold Z12 at hset
     split at hset
     · rename_i st2 hg2
       cases hset
       have hm2:=hE123.mu l m hm
       have hbk2:=hdrop.rel.blk l m hm2
       rw [hg2] at hbk2
       obtain ⟨lp2,hlp2,hL2⟩:=hbk2
       have hend:∀ jump:Option Code,jump=Z3Z ex2 -> ∃ v w',(Instr.endRound m.b jump).run P w2 = .ok v w'/\Z6g μ A c w r (.returned v) w':=by
        intro jump hj
        subst hj
        cases e3
        refine ⟨.bool (Z3Z ex2).isNone,{ w2 with heap:=w2.heap.setIfInBounds m.b (.loop { lp2 with state:=if (Z3Z ex2).isNone then .ready else .done,pending:=Z3Z ex2 }) }, ?_, ?_⟩
        · simp only [Instr.endRound,jA,Z4S hlp2,qZ,Z6s hlp2,jB]
        · have hLe:LoopR μ2 { st2 with state:=cond (Z3Z ex2).isNone .ready .done,pending:=Z3Z ex2 } { lp2 with state:=if (Z3Z ex2).isNone then .ready else .done,pending:=Z3Z ex2 } :=
           ⟨by cases (Z3Z ex2).isNone <;> rfl,rfl,hL2.params,hL2.assign,hL2.body,hL2.size,hL2.vals,hL2.dfr⟩
          have hE5:=Ext.setLoop (c:=s2.c) (own:=fun _=>False) hdrop.rel hm2 hg2 hLe
          exact ⟨_,_,μ2,rfl,rfl,.bool _,hE4.trans0 hE5⟩
       cases ex2 with
       | normal=>exact hend none rfl
       | ret=>exact hend (some .ret) rfl
       | exit id=>exact hend (some (.exit id)) rfl
     · cases hset
   · cases hbeg
theorem ZdA {bk:FuncId->Option AFun} (hbk:Z7E P bk) (hmix:P.follows .mixedOrders=true):∀ n,OS (H:=H) P (orc P bk n)/\Z4P (H:=H) P (orc P bk n) n
 | 0=>⟨⟨(fun _ _ _ _ _ _ e=>by cases e),(fun _ _ _ _ _ _ _ _ _ _ _ _ e=>by cases e)⟩,fun _ _ _ _ _ _ _ _ _ _ _ e=>by cases e⟩
 | n+1=>⟨OS.step hbk (ZdA hbk hmix n).1 (ZdA hbk hmix n).2 hmix,Z4P.step (ZdA hbk hmix n).1 (ZdA hbk hmix n).2 hmix⟩
theorem ZiX {bk:FuncId->Option AFun} (hbk:Z7E P bk) (hmix:P.follows .mixedOrders=true) {n:Nat} {f:FuncId} {args args':List Value} {A:H} {c:Nat} {r:Rt H} (e:orc P bk n (.fn f) args A c []=some r)
 (hv:VRs μ args args') (hR:R μ A w) (hfr:Z22 μ c):Calls P f args'.toArray w (Z6g μ A c w r) :=
 ((ZdA hbk hmix n).1.fn f args A c [] r e).2 μ w args' hv hR hfr
end Go.Ab

namespace Go.Ab
open Go
variable {H:Type} [HeapC H] {P:Program}
def Tm.le (tm tm':Tm):Prop:=∀ t v,tm t=some v->tm' t=some v
theorem Z0k {tm tm':Tm} (h:tm.le tm') {x:Operand} {v:Value} (e:Z0j tm x=some v):Z0j tm' x=some v:=by
 cases x with
 | tmp t=>exact h t v e
 | _=>exact e
theorem Z7x {tm tm':Tm} (h:tm.le tm'):∀ {xs:List Operand} {vs:List Value},Z1I tm xs=some vs->Z1I tm' xs=some vs
 | [],vs,e=>e
 | x::xs,vs,e=>by
  simp only [Z1I,qA] at e ⊢
  obtain ⟨v,hv,ws,hw,e⟩:=e
  exact ⟨v,Z0k h hv,ws,Z7x h hw,e⟩
theorem Zar {tm tm':Tm} (h:tm.le tm'):∀ {xs:List (Nat × Operand)} {vs:List (Nat × Value)},evalPs tm xs=some vs->evalPs tm' xs=some vs
 | [],vs,e=>e
 | (i,x)::xs,vs,e=>by
  simp only [evalPs,qA] at e ⊢
  obtain ⟨v,hv,ws,hw,e⟩:=e
  exact ⟨v,Z0k h hv,ws,Zar h hw,e⟩
theorem Zej {tm tm':Tm} (h:tm.le tm') {x:Option Operand} {v:Option Value} (e:Zek tm x=some v):Zek tm' x=some v:=by
 cases x with
 | none=>exact e
 | some x =>
  simp only [Zek,qA] at e ⊢
  obtain ⟨v,hv,e⟩:=e
  exact ⟨v,Z0k h hv,e⟩
theorem Z6q {tm tm':Tm} (h:tm.le tm'):∀ {l:List Nat} {vs:List Value},vals tm l=some vs->vals tm' l=some vs
 | [],vs,e=>e
 | t::l,vs,e=>by
  simp only [Ab.vals,qA] at e ⊢
  obtain ⟨v,hv,ws,hw,e⟩:=e
  exact ⟨v,h t v hv,ws,Z6q h hw,e⟩
theorem ZiU {tm tm':Tm} (h:tm.le tm') (d:Option Tmp) (x:Value):(Z7G tm d x).le (Z7G tm' d x):=by
 intro t v e
 cases d with
 | none=>exact h t v e
 | some d =>
  simp only [Z7G] at e ⊢
  cases hb:Nat.beq t d with
  | true=>rw [hb] at e; exact e
  | false=>rw [hb] at e; exact h t v e
theorem Zqj {o:Orc H} {id:Nat} {tm tm':Tm} {h:H} {c:Nat} {op:Op} {r:Value × H × Nat} (hl:tm.le tm') (e:Z0u P o id tm h c op=some r):Z0u P o id tm' h c op=some r:=by
 cases op with
 | move x =>
  simp only [Z0u] at e ⊢
  cases hx:Z0j tm x with
  | none=>rw [hx] at e; cases e
  | some v=>rw [Z0k hl hx]; rw [hx] at e; exact e
 | assign x =>
  simp only [Z0u] at e ⊢
  cases hx:Z0j tm x with
  | none=>rw [hx] at e; cases e
  | some v=>rw [Z0k hl hx]; rw [hx] at e; exact e
 | pick k a b =>
  simp only [Z0u,qA] at e ⊢
  obtain ⟨x,hx,y,hy,z,hz,e⟩:=e
  exact ⟨x,Z0k hl hx,y,Z0k hl hy,z,Z0k hl hz,e⟩
 | alloc t=>exact e
 | box t x =>
  simp only [Z0u,qA] at e ⊢
  obtain ⟨x,hx,e⟩:=e
  exact ⟨x,Z0k hl hx,e⟩
 | build t ps =>
  simp only [Z0u,qA] at e ⊢
  obtain ⟨x,hx,e⟩:=e
  exact ⟨x,Zar hl hx,e⟩
 | buildSlice t len ps =>
  simp only [Z0u,qA] at e ⊢
  obtain ⟨x,hx,e⟩:=e
  exact ⟨x,Zar hl hx,e⟩
 | makeFunc fn a b =>
  cases fn with
  | func g =>
   simp only [Z0u,qA] at e ⊢
   obtain ⟨x,hx,y,hy,e⟩:=e
   exact ⟨x,Z7x hl hx,y,Z7x hl hy,e⟩
  | _=>exact e
 | makeMap t r =>
  cases r with
  | none=>exact e
  | some x =>
   simp only [Z0u,qA] at e ⊢
   obtain ⟨ke,hke,x,hx,e⟩:=e
   exact ⟨ke,hke,x,Z0k hl hx,e⟩
 | slice t x lo hi mx =>
  simp only [Z0u,qA] at e ⊢
  obtain ⟨x,hx,l,hlo,hh,hhi,m,hm,e⟩:=e
  exact ⟨x,Z0k hl hx,l,Zej hl hlo,hh,Zej hl hhi,m,Zej hl hm,e⟩
 | call k =>
  simp only [Z0u,qA] at e ⊢
  obtain ⟨avs,ha,e⟩:=e
  refine ⟨avs,Z7x hl ha, ?_⟩
  split at e
  · rename_i f hk
    simp only [qA] at e ⊢
    obtain ⟨fv,hf,e⟩:=e
    exact ⟨fv,Z0k hl hf,e⟩
  · exact e
  · exact e
 | store _ x y =>
  simp only [Z0u,qA] at e ⊢
  obtain ⟨x,hx,y,hy,e⟩:=e
  exact ⟨x,Z0k hl hx,y,Z0k hl hy,e⟩
 | binOp _ _ x y _ =>
  simp only [Z0u,qA] at e ⊢
  obtain ⟨x,hx,y,hy,e⟩:=e
  exact ⟨x,Z0k hl hx,y,Z0k hl hy,e⟩
 | makeSlice _ x y =>
  simp only [Z0u,qA] at e ⊢
  obtain ⟨x,hx,y,hy,e⟩:=e
  exact ⟨x,Z0k hl hx,y,Z0k hl hy,e⟩
 | indexAddr _ x y =>
  simp only [Z0u,qA] at e ⊢
  obtain ⟨x,hx,y,hy,e⟩:=e
  exact ⟨x,Z0k hl hx,y,Z0k hl hy,e⟩
 | index _ x y =>
  simp only [Z0u,qA] at e ⊢
  obtain ⟨x,hx,y,hy,e⟩:=e
  exact ⟨x,Z0k hl hx,y,Z0k hl hy,e⟩
 | lookup _ x y _ =>
  simp only [Z0u,qA] at e ⊢
  obtain ⟨x,hx,y,hy,e⟩:=e
  exact ⟨x,Z0k hl hx,y,Z0k hl hy,e⟩
 | mapUpdate _ x y z =>
  simp only [Z0u,qA] at e ⊢
  obtain ⟨x,hx,y,hy,z,hz,e⟩:=e
  exact ⟨x,Z0k hl hx,y,Z0k hl hy,z,Z0k hl hz,e⟩
 | insert _ x y z =>
  simp only [Z0u,qA] at e ⊢
  obtain ⟨x,hx,y,hy,z,hz,e⟩:=e
  exact ⟨x,Z0k hl hx,y,Z0k hl hy,z,Z0k hl hz,e⟩
 | convert _ _ x =>
  simp only [Z0u,qA] at e ⊢
  obtain ⟨d,hd,x,hx,e⟩:=e
  exact ⟨d,hd,x,Z0k hl hx,e⟩
 | load _ x | nilCheck x | unOp _ _ x | sliceToArrayPointer _ x | makeInterface _ x | fieldAddr _ x _ | field _ x _ | extract x _ =>
  simp only [Z0u,qA] at e ⊢
  obtain ⟨x,hx,e⟩:=e
  exact ⟨x,Z0k hl hx,e⟩
 | _=>exact e
theorem ZaQ {ops:Array Oper} {tm tm':Tm} {oper:Oper} {b:Bool} (hl:tm.le tm') (e:Z13 ops tm oper=some b):Z13 ops tm' oper=some b:=by
 unfold Z13 at e ⊢
 split at e
 · exact e
 · simp only [qA] at e ⊢
   obtain ⟨d,hd,v,hv,e⟩:=e
   exact ⟨d,hd,v,hl d v hv,e⟩
theorem Zdm {o:Orc H} {ops:Array Oper} {base i nt c:Nat} {tm tm':Tm} {h:H} {oper:Oper} {r:Value × H × Nat} (hl:tm.le tm') (e:Z15 P o ops base i nt tm h c oper=some r):Z15 P o ops base i nt tm' h c oper=some r:=by
 simp only [Z15,qA] at e ⊢
 obtain ⟨b,hb,e⟩:=e
 refine ⟨b,ZaQ hl hb, ?_⟩
 obtain ⟨hg,e1⟩:=Z06 e
 rw [hg]
 cases b
 · exact e1
 · exact Zqj hl e1
theorem Z9W {o:Orc H} {ops:Array Oper} {base nt:Nat}:∀ {l:List Oper} {i:Nat} {tm tm':Tm} {h:H} {c:Nat} {r:Tm × H × Nat},tm.le tm'->Z1l P o ops base nt l i tm h c=some r →
 ∃ tm1,Z1l P o ops base nt l i tm' h c=some (tm1,r.2.1,r.2.2)/\r.1.le tm1
 | [],i,tm,tm',h,c,r,hl,e=>by
  simp only [Z1l,Option.some.injEq] at e ⊢
  subst e
  exact ⟨tm',rfl,hl⟩
 | oper::l,i,tm,tm',h,c,r,hl,e=>by
  simp only [Z1l,qA] at e ⊢
  obtain ⟨q,hq,e⟩:=e
  obtain ⟨tm1,h1,h2⟩:=Z9W (ZiU hl oper.dst q.1) e
  exact ⟨tm1,⟨q,Zdm hl hq,h1⟩,h2⟩
end Go.Ab
