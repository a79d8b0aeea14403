/- A part of the claim's proof: AbRow. Conditions: none. -/
import Derived.Test.YtdbiilapiloaiaaAbRng
import Derived.ProofKit
/-! From what a call answers to the row of its statement. -/
set_option linter.all false
namespace Go.Ab
open Go Go.ChangeShapes Go.RowKit
set_option linter.unusedVariables false
set_option linter.unusedSimpArgs false

section post
variable {H : Type} {enc : TypeId × Value → H} {P : Program}

theorem trodAll_lt : ∀ {ts : List TypeId} {w : World} {vs : List Value} {ds : List (DataW H)} {ps : List MemPlace}, DataW.TrodAll enc P w 0 (fun _ => true) true ts vs ds ps → ∀ x ∈ ps, x.block < w.heap.size
  | [], w, vs, ds, ps, h, x, hx => by
    obtain ⟨_, _, rfl⟩ := trodAll_nil h
    cases hx
  | t :: ts, w, vs, ds, ps, h, x, hx => by
    obtain ⟨v, vs', d, ds', p, q, rfl, rfl, rfl, h1, h2⟩ := trodAll_cons h
    rcases List.mem_append.1 hx with hx | hx
    · obtain ⟨n, h1⟩ := h1
      exact DataW.trod_lt n _ _ _ h1 x hx
    · exact trodAll_lt h2 x hx

theorem trodAll_stays (hl : laidOutB P = true) : ∀ {ts : List TypeId} {w w' : World} {sp : Nat → Bool} {vs : List Value} {ds : List (DataW H)} {ps : List MemPlace}, (∀ t ∈ ts, P.readableRec t = true ∧ t < P.types.size) →
    DataW.TrodAll enc P w 0 (fun _ => true) true ts vs ds ps → (∀ p ∈ ps, w.sameAt w' p) → (∀ p ∈ ps, sp p.block = true) → DataW.TrodAll enc P w' 0 sp true ts vs ds ps
  | [], w, w', sp, vs, ds, ps, _, h, _, _ => by
    obtain ⟨rfl, rfl, rfl⟩ := trodAll_nil h
    exact rfl
  | t :: ts, w, w', sp, vs, ds, ps, hr, h, h1, h2 => by
    obtain ⟨v, vs', d, ds', p, q, rfl, rfl, rfl, g1, g2⟩ := trodAll_cons h
    refine ⟨p, q, ?_, ?_, rfl⟩
    · exact WideElems.Trod_stays hl (hr t (by simp)).1 (hr t (by simp)).2 g1 (fun x hx => h1 x (List.mem_append.2 (.inl hx))) (fun x hx => h2 x (List.mem_append.2 (.inl hx)))
    · exact trodAll_stays hl (fun u hu => hr u (by simp [hu])) g2 (fun x hx => h1 x (List.mem_append.2 (.inr hx))) (fun x hx => h2 x (List.mem_append.2 (.inr hx)))

/-- a law that returned true over a world in which nothing that was there has changed -/
theorem row_post (hl : laidOutB P = true) {f : Func} {s : ChangeSpec} {apart fresh handsOn again : Bool} {W W' : World} {args : Array Value} {ds gs : List (DataW H)} {before : List MemPlace} {tb : TypeId}
    (hts : ∀ t ∈ f.params.toList, P.readableRec t = true ∧ t < P.types.size) (hvars : s.vars = []) (hres : (s.fn H (ds ++ gs)).results = [.lit (.bool true)]) (hargs : (s.fn H (ds ++ gs)).args = ds) (hvs : (s.fn H (ds ++ gs)).vars = [])
    (hrt : f.resultTypes = #[tb]) (htb : P.underlying tb = some .bool) (hW : DataW.Whole enc P f.params.toList s.vars apart W args.toList ds gs before) (hB : Below W.heap.size W W') :
    s.post enc P f apart fresh handsOn again W args (.bool true) W' := by
  have hW0 := hW
  obtain ⟨p, q, hA, hV, rfl, hfz, hnd⟩ := hW
  rw [hvars] at hV
  have hgq : gs = [] ∧ q = [] := by
    cases gs with
    | nil => exact ⟨rfl, hV⟩
    | cons g gs => exact hV.elim
  obtain ⟨rfl, rfl⟩ := hgq
  have hlt := trodAll_lt hA
  have hrl : Value.resultList f.resultTypes.size (.bool true) = [.bool true] := by rw [hrt]; rfl
  have hR : ∀ (b : Nat) (sp : Nat → Bool) (hd : Bool), DataW.TrodAll enc P W' b sp hd f.resultTypes.toList (Value.resultList f.resultTypes.size (.bool true)) (s.fn H (ds ++ [])).results [] := by
    intro b sp hd
    rw [hrl, hres, hrt]
    exact ⟨[], [], shut_bool htb true, rfl, rfl⟩
  have hS : ∀ sp : Nat → Bool, (∀ x ∈ p, sp x.block = true) → DataW.TrodAll enc P W' 0 sp true f.params.toList args.toList (s.fn H (ds ++ [])).args p := by
    intro sp hsp
    rw [hargs]
    exact trodAll_stays hl hts hA (fun x hx => hB.same (hlt x hx)) hsp
  have hV' : ∀ sp : Nat → Bool, DataW.TrodVars enc P W' sp s.vars (s.fn H (ds ++ [])).vars [] := by
    intro sp; rw [hvars, hvs]; exact rfl
  have hfz' : W'.noneFrozen (p ++ []) := by
    intro b off hp
    have h1 := hfz b off hp
    have h2 : W'.heap[b]? = W.heap[b]? := hB.block b (hlt (.cell b off) (by simpa using hp))
    unfold World.frozen? at h1 ⊢
    simp only at h1 ⊢
    rw [h2]; exact h1
  have hok : ∀ (j : Nat) (t : TypeId) (r : Value), f.resultTypes[j]? = some t → (Value.resultList f.resultTypes.size (.bool true))[j]? = some r → Value.okWide P W' .any 0 t r :=
    ok_one hrt rfl (by simp [Value.okWide, htb, Cell.okWide, Cell.ok])
  refine ⟨ds, [], p ++ [], [], p, [], hW0, hR _ _ _, hS _ (fun x hx => by simpa using hlt x hx), hV' _, ?_, fun _ => ?_⟩
  · refine ⟨hB.os, hB.output, fun i hi => ?_⟩
    rw [hB.block i hi]
    split
    · rename_i h1 h2
      rw [h1] at h2
      cases h2
      exact ⟨rfl, rfl, rfl, fun _ _ => rfl⟩
    · rename_i h1 h2
      rw [h1] at h2
      cases h2
      exact .inr ⟨rfl, rfl⟩
    · rfl
  · refine ⟨hok, _, _, ([] ++ p) ++ [], ⟨[] ++ p, [], trodAll_append (hS (fun _ => true) (fun _ _ => rfl)) (hR _ _ _), hV' _, rfl, ?_, ?_⟩, ?_⟩
    · intro b off hp
      exact hfz' b off (by simpa using hp)
    · intro ha
      have := hnd ha
      simpa using this
    · intro x hx _
      simpa using hx
end post

/-! ### Arguments -/
/-- a slice of the caller's that reads n elements of sz integers each -/
def OpenS (W : World) (v : Value) (sz n : Nat) (Gl : List Int) : Prop :=
  Gl.length = n * sz ∧ n ≤ 9223372036854775807 ∧ ((v = .slice none 0 0 ∧ n = 0) ∨
    ∃ b o cap C E fr, v = .slice (some ⟨b, o, none⟩) n cap ∧ n ≤ cap ∧ W.heap[b]? = some (.cells C E fr) ∧ ∀ j, j < Gl.length → C[o + j]? = some (.int .i64 (Gl.getD j 0)))

/-- the abstract slice over the block i -/
def absS (i : Nat) (v : Value) : Value :=
  match v with
  | .slice (some _) n cap => .slice (some ⟨i, 0, none⟩) n cap
  | v => v
/-- where it lies -/
def absM (v : Value) : Option ME :=
  match v with
  | .slice (some a) _ _ => some ⟨a.block, a.off, none⟩
  | _ => none

theorem OpenS.vr {W : World} {v : Value} {sz n : Nat} {Gl : List Int} (h : OpenS W v sz n Gl) {μ : Mu} {i : Nat} (hm : ∀ m, absM v = some m → μ i = some m) : VR μ (absS i v) v := by
  obtain ⟨h1, h2, ⟨rfl, _⟩ | ⟨b, o, cap, C, E, fr, rfl, _, _, _⟩⟩ := h
  · exact .sl0 0 0
  · have := hm ⟨b, o, none⟩ rfl
    exact VR.sl (i := i) (o := 0) this (Nat.le_refl _) (.inl rfl)

theorem OpenS.sl {W : World} {v : Value} {sz n : Nat} {Gl : List Int} (h : OpenS W v sz n Gl) {A : FH} {i c : Nat} (hi : i < 256 * c) (ha : ∀ m, absM v = some m → A.f i = some (.cells true none (ints Gl))) : SlI A c (absS i v) sz n Gl := by
  obtain ⟨h1, h2, ⟨rfl, rfl⟩ | ⟨b, o, cap, C, E, fr, rfl, _, _, _⟩⟩ := h
  · exact ⟨h1, h2, none, 0, rfl, .inl ⟨rfl, OkV.sl0 _ _ _⟩⟩
  · refine ⟨h1, h2, some ⟨i, 0, none⟩, cap, rfl, .inr ⟨i, 0, ints Gl, rfl, hi, ⟨true, none, ha _ rfl⟩, ?_⟩⟩
    rw [List.drop_zero, List.take_of_length_le (by simp [h1])]

theorem OpenS.blk {W : World} {v : Value} {sz n : Nat} {Gl : List Int} (h : OpenS W v sz n Gl) {μ : Mu} {m : ME} (hm : absM v = some m) : BlkR μ m W.heap (some (.cells true none (ints Gl))) ∧ m.b < W.heap.size := by
  obtain ⟨h1, h2, ⟨rfl, rfl⟩ | ⟨b, o, cap, C, E, fr, rfl, _, h3, h4⟩⟩ := h
  · cases hm
  · cases hm
    refine ⟨⟨C, E, fr, h3, fun k x hx => ?_, (fun h => by cases h), rfl⟩, (Array.getElem?_eq_some_iff.1 h3).1⟩
    have hk : k < Gl.length := by have := (List.getElem?_eq_some_iff.1 hx).1; simpa using this
    rw [ints_getD _ _ hk] at hx
    cases hx
    exact ⟨_, h4 k hk, .int _ _⟩

/-! ### Types whose cells are integers -/
def FlatT (P : Program) (e : TypeId) (sz : Nat) : Prop :=
  P.cellsOf e = sz ∧ ∀ (H : Type) (enc : TypeId × Value → H) (w : World) (base : Nat) (spare : Nat → Bool) (held : Bool) (fuel : Nat) (cs : List Value) (x : DataW H × List MemPlace),
    DataW.trod enc P w base spare held fuel e cs = some x → cs.length = sz ∧ ∀ v ∈ cs, ∃ n, v = .int .i64 n

section flat
variable {P : Program}

theorem FlatT.int {e : TypeId} (he : P.underlying e = some (.int .i64)) (hc : P.cellsOf e = 1) : FlatT P e 1 := by
  refine ⟨hc, fun H enc w base spare held fuel cs x h => ?_⟩
  obtain ⟨n, rfl, _, _⟩ := DataW.trod_int he h
  exact ⟨rfl, fun v hv => ⟨n, by simpa using hv⟩⟩

theorem mapM_get {α β : Type} {f : α → Option β} : ∀ {l : List α} {r : List β}, l.mapM f = some r → ∀ a ∈ l, ∃ b, f a = some b
  | [], r, h, a, ha => by cases ha
  | x :: l, r, h, a, ha => by
    rw [List.mapM_cons] at h
    simp only [Option.bind_eq_bind, Option.bind_eq_some_iff] at h
    obtain ⟨y, hy, ys, hys, _⟩ := h
    rcases List.mem_cons.1 ha with rfl | ha
    · exact ⟨y, hy⟩
    · exact mapM_get hys a ha

theorem FlatT.array {t e : TypeId} {n z : Nat} (ht : P.underlying t = some (.array n e)) (hf : FlatT P e z) (hc : P.cellsOf t = n * z) : FlatT P t (n * z) := by
  refine ⟨hc, fun H enc w base spare held fuel cs x h => ?_⟩
  cases fuel with
  | zero => simp [DataW.trod] at h
  | succ fuel =>
    have h' : (if cs.length = P.cellsOf t then ((List.range n).mapM fun i => DataW.trod enc P w base spare held fuel e ((cs.drop (i * P.cellsOf e)).take (P.cellsOf e))).map fun xs => ((.agg (xs.map (·.1)), xs.flatMap (·.2)) : DataW H × List MemPlace) else none) = some x := by
      have h1 := h
      unfold DataW.trod at h1
      rw [ht] at h1
      split at h1 <;> first | exact h1 | (rename_i e1 _; cases e1) | (rename_i e1 _ _; cases e1) | (rename_i e1; cases e1) | skip
      all_goals first | exact h1 | (simp_all; done) | skip
    split at h'
    · rename_i hl
      rw [hc] at hl
      refine ⟨hl, fun v hv => ?_⟩
      cases hm : (List.range n).mapM fun i => DataW.trod enc P w base spare held fuel e ((cs.drop (i * P.cellsOf e)).take (P.cellsOf e)) with
      | none => rw [hm] at h'; cases h'
      | some ys =>
        obtain ⟨j, hj⟩ := List.getElem?_of_mem hv
        have hjl : j < n * z := by have := (List.getElem?_eq_some_iff.1 hj).1; omega
        have hz : 0 < z := by
          rcases Nat.eq_zero_or_pos z with e | e
          · rw [e] at hjl; simp at hjl
          · exact e
        have hi : j / z < n := by rw [Nat.div_lt_iff_lt_mul hz]; exact hjl
        obtain ⟨y, hy⟩ := mapM_get hm (j / z) (by simpa using hi)
        rw [hf.1] at hy
        refine (hf.2 _ _ _ _ _ _ _ _ _ hy).2 v ?_
        refine List.mem_of_getElem? (i := j % z) ?_
        rw [List.getElem?_take_of_lt (Nat.mod_lt _ hz), List.getElem?_drop, Nat.mul_comm, Nat.div_add_mod]
        exact hj
    · cases h'

theorem FlatT.struct2 {t : TypeId} {f0 f1 : Field} {z0 z1 : Nat} (ht : P.underlying t = some (.struct #[f0, f1])) (h0 : FlatT P f0.type z0) (h1 : FlatT P f1.type z1) (o0 : f0.offset = 0) (o1 : f1.offset = z0) (hc : P.cellsOf t = z0 + z1) : FlatT P t (z0 + z1) := by
  refine ⟨hc, fun H enc w base spare held fuel cs x h => ?_⟩
  obtain ⟨xs, n, rfl, _, hl, hxl, hf⟩ := DataW.trod_struct ht h
  rw [hc] at hl
  refine ⟨hl, fun v hv => ?_⟩
  have g0 := hf 0 f0 rfl
  have g1 := hf 1 f1 rfl
  have l2 : xs.length = 2 := hxl
  rw [List.getElem?_eq_getElem (by omega)] at g0 g1
  rw [h0.1, o0, List.drop_zero] at g0
  rw [h1.1, o1] at g1
  obtain ⟨j, hj⟩ := List.getElem?_of_mem hv
  have hjl : j < z0 + z1 := by have := (List.getElem?_eq_some_iff.1 hj).1; omega
  by_cases hlt : j < z0
  · refine (h0.2 _ _ _ _ _ _ _ _ _ g0).2 v (List.mem_of_getElem? (i := j) ?_)
    rw [List.getElem?_take_of_lt hlt]; exact hj
  · refine (h1.2 _ _ _ _ _ _ _ _ _ g1).2 v (List.mem_of_getElem? (i := j - z0) ?_)
    rw [List.getElem?_take_of_lt (by omega), List.getElem?_drop, show z0 + (j - z0) = j by omega]
    exact hj

/-- a slice argument whose elements are flat -/
theorem open_flat {H : Type} {enc : TypeId × Value → H} {W : World} {base : Nat} {t e : TypeId} {sz : Nat} {v : Value} {fuel : Nat} {x : DataW H × List MemPlace} (ht : P.underlying t = some (.slice e)) (hf : FlatT P e sz) (hz : 0 < sz)
    (hval : Cell.okWide P W .any base t v) (hd : DataW.trod enc P W 0 (fun _ => true) true fuel t [v] = some x) : ∃ n Gl, OpenS W v sz n Gl := by
  rcases DataW.trod_slice ht hd with ⟨h1, _⟩ | ⟨a, len, cap, elems, rest, n, _, h1, _, hb, hl, hm, hlen, hel, _, _⟩
  · cases h1
    exact ⟨0, [], by simp, by omega, .inl ⟨rfl, rfl⟩⟩
  · cases h1
    -- the block
    have hok : Cell.ok P W .any base t (.slice (some a) len cap) := by
      unfold Cell.okWide at hval
      rw [ht] at hval
      exact hval
    unfold Cell.ok at hok
    rw [ht] at hok
    obtain ⟨_, _, _, hsp, row, cells, hsh, _⟩ := hok
    obtain ⟨b, o, sp⟩ := a
    simp only at hsp
    subst hsp
    unfold World.shape? at hsh
    have hblk : ∃ C E fr, W.heap[b]? = some (.cells C E fr) := by
      split at hsh
      · rename_i c el fr hh; exact ⟨c, el, fr, hh⟩
      · cases hsh
    obtain ⟨C, E, fr, hC⟩ := hblk
    have hadd : ∀ o k, (⟨b, o, none⟩ : Addr).add k = ⟨b, o + k, none⟩ := fun o k => by unfold Addr.add; split <;> simp_all
    -- the cells
    have hcell : ∀ j, j < len * sz → ∃ z, C[o + j]? = some (.int .i64 z) := by
      intro j hj
      have hi : j / sz < len := by rw [Nat.div_lt_iff_lt_mul hz]; exact hj
      have h2 := hel (j / sz) hi
      rw [List.getElem?_eq_getElem (by omega)] at h2
      simp only [Option.bind_eq_some_iff] at h2
      obtain ⟨cs, hcs, htr⟩ := h2
      rw [hf.1] at hcs
      obtain ⟨_, hcl, hcg⟩ := World.cells?_some hcs
      have h3 := hcg (j % sz) (Nat.mod_lt _ hz)
      have hfl := hf.2 _ _ _ _ _ _ _ _ _ htr
      have hjm : j % sz < cs.length := by rw [hcl]; exact Nat.mod_lt _ hz
      rw [List.getElem?_eq_getElem hjm] at h3
      obtain ⟨z, hz'⟩ := hfl.2 cs[j % sz] (List.getElem_mem hjm)
      rw [hz', hadd] at h3
      have : (⟨b, o + j / sz * sz, none⟩ : Addr).add (j % sz) = ⟨b, o + j, none⟩ := by
        rw [hadd]
        have := Nat.div_add_mod j sz
        rw [Nat.mul_comm] at this
        congr 1; omega
      rw [this] at h3
      refine ⟨z, ?_⟩
      simpa [World.cell?, hC] using h3
    refine ⟨len, (List.range (len * sz)).map fun j => (match C[o + j]? with | some (.int .i64 z) => z | _ => 0), by simp, ?_, .inr ⟨b, o, cap, C, E, fr, rfl, hl, hC, fun j hj => ?_⟩⟩
    · unfold maxLen at hm
      have : cap ≤ 9223372036854775807 := by simp at hm; omega
      omega
    · have hj' : j < len * sz := by simpa using hj
      obtain ⟨z, hz'⟩ := hcell j hj'
      rw [hz']
      congr 2
      simp [List.getD, hj', hz']

end flat

end Go.Ab
