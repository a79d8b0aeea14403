/- Parts of a proof: AbHeap. Conditions: none. -/
import Derived.Test.YtdodippbpdechaaM20
set_option linter.all false
set_option maxRecDepth 100000
namespace Go.Ab
open Go
noncomputable def Zir (t:Tri):Nat->Option ABlk :=
 Tri.rec (motive:=fun _=>Nat->Option ABlk) (fun _=>none)
  (fun b _ _ l r i=>cond (Nat.beq i 0) b (cond (Nat.beq (Nat.mod i 2) 1) (l (Nat.div i 2)) (r (Nat.sub (Nat.div i 2) 1)))) t
theorem Zat:∀ (t:Tri) (i:Nat),Zir t i=t.get i
 | .leaf,i=>rfl
 | .node b l r,i=>by
  show cond (Nat.beq i 0) b (cond (Nat.beq (Nat.mod i 2) 1) (Zir l (Nat.div i 2)) (Zir r (Nat.sub (Nat.div i 2) 1)))=_
  rw [Zat l,Zat r]
  rfl
noncomputable def ZlA (o:Option ABlk) (n:Nat):Tri->Nat->Tri :=
 Nat.rec (motive:=fun _=>Tri->Nat->Tri)
  (fun t _=>Tri.rec (motive:=fun _=>Tri) (.node o .leaf .leaf) (fun _ l r _ _=>.node o l r) t)
  (fun _ ih t i=>Tri.rec (motive:=fun _=>Tri)
   (cond (Nat.beq i 0) (.node o .leaf .leaf) (cond (Nat.beq (Nat.mod i 2) 1) (.node none (ih .leaf (Nat.div i 2)) .leaf) (.node none .leaf (ih .leaf (Nat.sub (Nat.div i 2) 1)))))
   (fun b l r _ _=>cond (Nat.beq i 0) (.node o l r) (cond (Nat.beq (Nat.mod i 2) 1) (.node b (ih l (Nat.div i 2)) r) (.node b l (ih r (Nat.sub (Nat.div i 2) 1))))) t) n
theorem Z85 (o:Option ABlk):∀ (n:Nat) (t:Tri) (i:Nat),ZlA o n t i=Tri.upd n t i o
 | 0,.leaf,i=>rfl
 | 0,.node b l r,i=>rfl
 | n+1,.leaf,i=>by
  show (cond (Nat.beq i 0) (Tri.node o .leaf .leaf) (cond (Nat.beq (Nat.mod i 2) 1) (Tri.node none (ZlA o n .leaf (Nat.div i 2)) .leaf) (Tri.node none .leaf (ZlA o n .leaf (Nat.sub (Nat.div i 2) 1)))))=_
  rw [Z85 o n,Z85 o n]; rfl
 | n+1,.node b l r,i=>by
  show (cond (Nat.beq i 0) (Tri.node o l r) (cond (Nat.beq (Nat.mod i 2) 1) (Tri.node b (ZlA o n l (Nat.div i 2)) r) (Tri.node b l (ZlA o n r (Nat.sub (Nat.div i 2) 1)))))=_
  rw [Z85 o n,Z85 o n]; rfl
theorem Zgl (t:Tri) (i:Nat) (o:Option ABlk) (j:Nat):Zir (ZlA o i t i) j=if j=i then o else Zir t j:=by
 rw [Zat,Zat,Z85]
 exact Tri.get_upd i t i o j (Nat.le_refl _)
abbrev RC:=List (Nat × Option ABlk)
noncomputable def Z9d (i:Nat) (rc:RC):Option (Option ABlk) :=
 List.rec (motive:=fun _=>Option (Option ABlk)) none (fun x _ ih=>cond (Nat.beq i x.1) (some x.2) ih) rc
noncomputable def ZgD (i:Nat) (o:Option ABlk) (rc:RC):RC :=
 List.rec (motive:=fun _=>RC) [] (fun x xs ih=>cond (Nat.beq i x.1) ((x.1,o)::xs) (x::ih)) rc
noncomputable def Zhl (rc:RC) (t:Tri):Tri :=
 List.rec (motive:=fun _=>Tri) t (fun x _ ih=>ZlA x.2 x.1 ih x.1) rc
theorem Z1P (i:Nat) (x:Nat × Option ABlk) (xs:RC):Z9d i (x::xs)=if i=x.1 then some x.2 else Z9d i xs:=by
 show cond (Nat.beq i x.1) (some x.2) (Z9d i xs)=_
 cases h:Nat.beq i x.1 with
 | true=>rw [if_pos (Nat.eq_of_beq_eq_true h)]; rfl
 | false=>rw [if_neg (fun e=>by rw [e,Nat.beq_refl] at h; cases h)]; rfl
theorem Zf9 (i:Nat) (o:Option ABlk) (x:Nat × Option ABlk) (xs:RC):ZgD i o (x::xs)=if i=x.1 then (x.1,o)::xs else x::ZgD i o xs:=by
 show cond (Nat.beq i x.1) ((x.1,o)::xs) (x::ZgD i o xs)=_
 cases h:Nat.beq i x.1 with
 | true=>rw [if_pos (Nat.eq_of_beq_eq_true h)]; rfl
 | false=>rw [if_neg (fun e=>by rw [e,Nat.beq_refl] at h; cases h)]; rfl
theorem Z8N (i:Nat) (o:Option ABlk) (j:Nat):∀ (rc:RC),Z9d i rc ≠ none->Z9d j (ZgD i o rc)=if j=i then some o else Z9d j rc
 | [],h=>absurd rfl h
 | x::xs,h=>by
  rw [Z1P] at h
  rw [Zf9]
  by_cases e:i=x.1
  · rw [if_pos e,Z1P,Z1P]
    by_cases e2:j=x.1
    · rw [if_pos e2,if_pos (e2.trans e.symm)]
    · rw [if_neg e2,if_neg (fun h=>e2 (h.trans e)),if_neg e2]
  · rw [if_neg e] at h ⊢
    rw [Z1P,Z1P,Z8N i o j xs h]
    by_cases e2:j=x.1
    · rw [if_pos e2,if_pos e2,if_neg (fun h=>e (h.symm.trans e2))]
    · rw [if_neg e2,if_neg e2]
theorem Z9C (j:Nat) (t:Tri):∀ (rc:RC),Zir (Zhl rc t) j=(match Z9d j rc with | some o=>o | none=>Zir t j)
 | []=>rfl
 | x::xs=>by
  show Zir (ZlA x.2 x.1 (Zhl xs t) x.1) j=_
  rw [Zgl,Z1P]
  by_cases e:j=x.1
  · rw [if_pos e,if_pos e]
  · rw [if_neg e,if_neg e,Z9C j t xs]
structure TH where
 rc:RC
 n:Nat
 old:Tri
noncomputable def TH.put (h:TH) (i:Nat) (o:Option ABlk):TH :=
 match Z9d i h.rc with
 | some _=>{ rc:=ZgD i o h.rc,n:=h.n,old:=h.old }
 | none=>cond (Nat.blt h.n 24) { rc:=(i,o)::h.rc,n:=Nat.add h.n 1,old:=h.old } { rc:=[(i,o)],n:=1,old:=Zhl h.rc h.old }
noncomputable def TH.look (h:TH) (i:Nat):Option ABlk :=
 match Z9d i h.rc with
 | some o=>o
 | none=>Zir h.old i
theorem TH.look_put (h:TH) (i:Nat) (o:Option ABlk) (j:Nat):(h.put i o).look j=if j=i then o else h.look j:=by
 unfold TH.put TH.look
 cases e:Z9d i h.rc with
 | some x =>
  dsimp only
  rw [Z8N i o j h.rc (by rw [e]; simp)]
  by_cases e2:j=i
  · rw [if_pos e2,if_pos e2]
  · rw [if_neg e2,if_neg e2]
 | none =>
  dsimp only
  cases Nat.blt h.n 24 with
  | true =>
   dsimp only [cond_true]
   rw [Z1P]
   by_cases e2:j=i
   · rw [if_pos e2,if_pos e2]
   · rw [if_neg e2,if_neg e2]
  | false =>
   dsimp only [cond_false]
   rw [Z1P]
   by_cases e2:j=i
   · rw [if_pos e2,if_pos e2]
   · rw [if_neg e2,if_neg e2]
     exact Z9C j h.old h.rc
noncomputable instance:HeapC TH where
 get h i:=h.look i
 set h i b:=h.put i (some b)
 del h i:=h.put i none
 eqB:=Zln
 eqB_eq:=ZeU
 get_set h i b j:=TH.look_put h i (some b) j
 get_del h i j:=TH.look_put h i none j
noncomputable def TH.empty:TH:={ rc:=[],n:=0,old:=.leaf }
theorem TH.inv_empty (h:TH) (e:h=TH.empty) (i:Nat):HeapC.get h i=none:=by subst e; rfl
end Go.Ab
