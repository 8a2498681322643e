/- What a function comes to over one memory, it comes to over greater ones. -/
import Derived.Test.YtjleffkdaiaknaaGreatDoorAbAll
namespace Go.Ab
open Go
noncomputable section
def renX (r : Nat → Nat) (x : AX) : AX := AX.rec (motive_1 := fun _ => AX) (motive_2 := fun _ => List AV) (motive_3 := fun _ => AV) .bad .nilp .nils .nilm .nilf .nili (fun b => .m (r b)) (fun f _ _ a c => .fn f a c) (fun t _ v => .ifc t v) (fun _ l => .agg l) (fun _ l => .tup l) .fl .sy .rg (fun b o n => .xs (r b) o n) [] (fun _ _ v l => v :: l) .i .b .s (fun b o => .p (r b) o) (fun b o n c => .sl (r b) o n c) (fun _ x => .x x) x
def renVs (r : Nat → Nat) (l : List AV) : List AV := AX.rec_1 (motive_1 := fun _ => AX) (motive_2 := fun _ => List AV) (motive_3 := fun _ => AV) .bad .nilp .nils .nilm .nilf .nili (fun b => .m (r b)) (fun f _ _ a c => .fn f a c) (fun t _ v => .ifc t v) (fun _ l => .agg l) (fun _ l => .tup l) .fl .sy .rg (fun b o n => .xs (r b) o n) [] (fun _ _ v l => v :: l) .i .b .s (fun b o => .p (r b) o) (fun b o n c => .sl (r b) o n c) (fun _ x => .x x) l
def renV (r : Nat → Nat) (v : AV) : AV := AX.rec_2 (motive_1 := fun _ => AX) (motive_2 := fun _ => List AV) (motive_3 := fun _ => AV) .bad .nilp .nils .nilm .nilf .nili (fun b => .m (r b)) (fun f _ _ a c => .fn f a c) (fun t _ v => .ifc t v) (fun _ l => .agg l) (fun _ l => .tup l) .fl .sy .rg (fun b o n => .xs (r b) o n) [] (fun _ _ v l => v :: l) .i .b .s (fun b o => .p (r b) o) (fun b o n c => .sl (r b) o n c) (fun _ x => .x x) v
def okX (f : Nat → Bool) (x : AX) : Bool := AX.rec (motive_1 := fun _ => Bool) (motive_2 := fun _ => Bool) (motive_3 := fun _ => Bool) true true true true true true (fun b => f b) (fun _ _ _ a c => bif' false c a) (fun _ _ v => v) (fun _ l => l) (fun _ l => l) (fun _ => true) (fun _ _ => true) (fun _ _ _ => true) (fun b _ _ => f b) true (fun _ _ v l => bif' false l v) (fun _ _ => true) (fun _ => true) (fun _ _ => true) (fun b _ => f b) (fun b _ _ _ => f b) (fun _ x => x) x
def okVs (f : Nat → Bool) (l : List AV) : Bool := AX.rec_1 (motive_1 := fun _ => Bool) (motive_2 := fun _ => Bool) (motive_3 := fun _ => Bool) true true true true true true (fun b => f b) (fun _ _ _ a c => bif' false c a) (fun _ _ v => v) (fun _ l => l) (fun _ l => l) (fun _ => true) (fun _ _ => true) (fun _ _ _ => true) (fun b _ _ => f b) true (fun _ _ v l => bif' false l v) (fun _ _ => true) (fun _ => true) (fun _ _ => true) (fun b _ => f b) (fun b _ _ _ => f b) (fun _ x => x) l
def okV (f : Nat → Bool) (v : AV) : Bool := AX.rec_2 (motive_1 := fun _ => Bool) (motive_2 := fun _ => Bool) (motive_3 := fun _ => Bool) true true true true true true (fun b => f b) (fun _ _ _ a c => bif' false c a) (fun _ _ v => v) (fun _ l => l) (fun _ l => l) (fun _ => true) (fun _ _ => true) (fun _ _ _ => true) (fun b _ _ => f b) true (fun _ _ v l => bif' false l v) (fun _ _ => true) (fun _ => true) (fun _ _ => true) (fun b _ => f b) (fun b _ _ _ => f b) (fun _ x => x) v
mutual
theorem VRel.ren {e e' : Emb} {r : Nat → Nat} {f : Nat → Bool} (h : ∀ b i, f b = true → e b = some i → e' (r b) = some i) : ∀ {v : AV} {v' : Value}, VRel e v v' → okV f v = true → VRel e' (renV r v) v'
 | _, _, .bad v, _ => .bad v
 | _, _, .i k n hk hn, _ => .i k n hk hn
 | _, _, .b v, _ => .b v
 | _, _, .s l c hc, _ => .s l c hc
 | _, _, .p b o i hi, hf => .p (r b) o i (h _ _ hf hi)
 | _, _, .sl b o l c c' i hi hc, hf => .sl (r b) o l c c' i (h _ _ hf hi) hc
 | _, _, .slq b o a, _ => .slq (r b) o a
 | _, _, .nilp, _ => .nilp
 | _, _, .nils, _ => .nils
 | _, _, .nilm, _ => .nilm
 | _, _, .nilf, _ => .nilf
 | _, _, .nili, _ => .nili
 | _, _, .m b i hi, hf => .m (r b) i (h _ _ hf hi)
 | _, _, .fn g a c a' c' ha hc, hf => .fn g (renVs r a) (renVs r c) a' c' (VRels.ren h ha (bif_tt (show bif' false (okVs f c) (okVs f a) = true from hf)).2) (VRels.ren h hc (bif_tt (show bif' false (okVs f c) (okVs f a) = true from hf)).1)
 | _, _, .ifc t v v' hv, hf => .ifc t (renV r v) v' (VRel.ren h hv hf)
 | _, _, .agg l l' hl, hf => .agg (renVs r l) l' (VRels.ren h hl hf)
 | _, _, .tup l l' hl, hf => .tup (renVs r l) l' (VRels.ren h hl hf)
 | _, _, .fl b, _ => .fl b
 | _, _, .sy m q n hn hi, _ => .sy m q n hn hi
 | _, _, .rg k lo hi n hk hn h1 h2, _ => .rg k lo hi n hk hn h1 h2
 | _, _, .xs b o l i hi, hf => .xs (r b) o l i (h _ _ hf hi)
theorem VRels.ren {e e' : Emb} {r : Nat → Nat} {f : Nat → Bool} (h : ∀ b i, f b = true → e b = some i → e' (r b) = some i) : ∀ {l : List AV} {l' : List Value}, VRels e l l' → okVs f l = true → VRels e' (renVs r l) l'
 | _, _, .nil, _ => .nil
 | _, _, @VRels.cons _ v _ l _ hv ht, hf => .cons (VRel.ren h hv (bif_tt (show bif' false (okVs f l) (okV f v) = true from hf)).2) (VRels.ren h ht (bif_tt (show bif' false (okVs f l) (okV f v) = true from hf)).1)
end
mutual
theorem renX_id : ∀ x : AX, renX (fun b => b) x = x
 | .bad => rfl
 | .nilp => rfl
 | .nils => rfl
 | .nilm => rfl
 | .nilf => rfl
 | .nili => rfl
 | .m _ => rfl
 | .fn f a c => by show AX.fn f (renVs _ a) (renVs _ c) = _; rw [renVs_id a, renVs_id c]
 | .ifc t v => by show AX.ifc t (renV _ v) = _; rw [renV_id v]
 | .agg l => by show AX.agg (renVs _ l) = _; rw [renVs_id l]
 | .tup l => by show AX.tup (renVs _ l) = _; rw [renVs_id l]
 | .fl _ => rfl
 | .sy _ _ => rfl
 | .rg _ _ _ => rfl
 | .xs _ _ _ => rfl
theorem renV_id : ∀ v : AV, renV (fun b => b) v = v
 | .i _ _ => rfl
 | .b _ => rfl
 | .s _ _ => rfl
 | .p _ _ => rfl
 | .sl _ _ _ _ => rfl
 | .x x => by show AVp.x (renX _ x) = _; rw [renX_id x]
theorem renVs_id : ∀ l : List AV, renVs (fun b => b) l = l
 | [] => rfl
 | v :: l => by show renV _ v :: renVs _ l = _; rw [renV_id v, renVs_id l]
end
mutual
theorem renX_comp (r s : Nat → Nat) : ∀ x : AX, renX r (renX s x) = renX (fun b => r (s b)) x
 | .bad => rfl
 | .nilp => rfl
 | .nils => rfl
 | .nilm => rfl
 | .nilf => rfl
 | .nili => rfl
 | .m _ => rfl
 | .fn f a c => by show AX.fn f (renVs r (renVs s a)) (renVs r (renVs s c)) = AX.fn f (renVs _ a) (renVs _ c); rw [renVs_comp r s a, renVs_comp r s c]
 | .ifc t v => by show AX.ifc t (renV r (renV s v)) = AX.ifc t (renV _ v); rw [renV_comp r s v]
 | .agg l => by show AX.agg (renVs r (renVs s l)) = AX.agg (renVs _ l); rw [renVs_comp r s l]
 | .tup l => by show AX.tup (renVs r (renVs s l)) = AX.tup (renVs _ l); rw [renVs_comp r s l]
 | .fl _ => rfl
 | .sy _ _ => rfl
 | .rg _ _ _ => rfl
 | .xs _ _ _ => rfl
theorem renV_comp (r s : Nat → Nat) : ∀ v : AV, renV r (renV s v) = renV (fun b => r (s b)) v
 | .i _ _ => rfl
 | .b _ => rfl
 | .s _ _ => rfl
 | .p _ _ => rfl
 | .sl _ _ _ _ => rfl
 | .x x => by show AVp.x (renX r (renX s x)) = AVp.x (renX _ x); rw [renX_comp r s x]
theorem renVs_comp (r s : Nat → Nat) : ∀ l : List AV, renVs r (renVs s l) = renVs (fun b => r (s b)) l
 | [] => rfl
 | v :: l => by show renV r (renV s v) :: renVs r (renVs s l) = renV _ v :: renVs _ l; rw [renV_comp r s v, renVs_comp r s l]
end
def mapT (g : AV → AV) (t : BT AV) : BT AV := BT.rec (motive := fun _ => BT AV) .lf (fun _ v _ l r => .nd l (g v) r) t
theorem mapT_get (g : AV → AV) : ∀ (t : BT AV) (i : Nat), (mapT g t).get i = (t.get i).map g
 | .lf, i => by show (BT.lf : BT AV).get i = _; simp
 | .nd l v r, i => by
  show (BT.nd (mapT g l) (g v) (mapT g r)).get i = _
  rw [BT.get_nd, BT.get_nd]
  split
  · rfl
  · split
    · exact mapT_get g l _
    · exact mapT_get g r _
theorem mapT_id (g : AV → AV) (h : ∀ v, g v = v) : ∀ t : BT AV, mapT g t = t
 | .lf => rfl
 | .nd l v r => by show BT.nd (mapT g l) (g v) (mapT g r) = _; rw [mapT_id g h l, mapT_id g h r, h v]
theorem mapT_comp (g k m : AV → AV) (h : ∀ v, g (k v) = m v) : ∀ t : BT AV, mapT g (mapT k t) = mapT m t
 | .lf => rfl
 | .nd l v r => by show BT.nd (mapT g (mapT k l)) (g (k v)) (mapT g (mapT k r)) = BT.nd (mapT m l) (m v) (mapT m r); rw [mapT_comp g k m h l, mapT_comp g k m h r, h v]
def mapE (g : AV → AV) (es : List (AV × AV)) : List (AV × AV) := List.rec (motive := fun _ => List (AV × AV)) [] (fun p _ ih => (g p.1, g p.2) :: ih) es
theorem mapE_id (g : AV → AV) (h : ∀ v, g v = v) : ∀ es, mapE g es = es
 | [] => rfl
 | (a, b) :: es => by show (g a, g b) :: mapE g es = _; rw [mapE_id g h es, h a, h b]
theorem mapE_comp (g k m : AV → AV) (h : ∀ v, g (k v) = m v) : ∀ es, mapE g (mapE k es) = mapE m es
 | [] => rfl
 | (a, b) :: es => by show (g (k a), g (k b)) :: mapE g (mapE k es) = (m a, m b) :: mapE m es; rw [mapE_comp g k m h es, h a, h b]
def renB (r : Nat → Nat) (x : ABlk) : ABlk := ABlk.rec (motive := fun _ => ABlk) (fun n t w sp => .c n (mapT (renV r) t) w sp) (fun es => .m (mapE (renV r) es)) .dead x
theorem renB_id (x : ABlk) : renB (fun b => b) x = x := by
 cases x with
 | c n t w sp => show ABlk.c n (mapT _ t) w sp = _; rw [mapT_id _ renV_id]
 | m es => show ABlk.m (mapE _ es) = _; rw [mapE_id _ renV_id]
 | dead => rfl
theorem renB_comp (r s : Nat → Nat) (x : ABlk) : renB r (renB s x) = renB (fun b => r (s b)) x := by
 cases x with
 | c n t w sp => show ABlk.c n (mapT _ (mapT _ t)) w sp = ABlk.c n (mapT _ t) w sp; rw [mapT_comp _ _ _ (renV_comp r s)]
 | m es => show ABlk.m (mapE _ (mapE _ es)) = ABlk.m (mapE _ es); rw [mapE_comp _ _ _ (renV_comp r s)]
 | dead => rfl
def okE (f : Nat → Bool) (es : List (AV × AV)) : Bool := List.rec (motive := fun _ => Bool) true (fun p _ ih => bif' false (bif' false ih (okV f p.2)) (okV f p.1)) es
def okB (f : Nat → Bool) (x : ABlk) : Bool := ABlk.rec (motive := fun _ => Bool) (fun _ t _ _ => allBT (okV f) t) (okE f) true x
theorem MRel.ren {e e' : Emb} {r : Nat → Nat} {f : Nat → Bool} (h : ∀ b i, f b = true → e b = some i → e' (r b) = some i) : ∀ {l : List (AV × AV)} {l' : List MapEntry}, MRel e l l' → okE f l = true → MRel e' (mapE (renV r) l) l'
 | _, _, .nil, _ => .nil
 | _, _, @MRel.cons _ k v _ l _ hk hv t, hf => by
  obtain ⟨h1, h2⟩ := bif_tt (show bif' false (bif' false (okE f l) (okV f v)) (okV f k) = true from hf)
  obtain ⟨h3, h4⟩ := bif_tt h1
  exact .cons (hk.ren h h2) (hv.ren h h4) (MRel.ren h t h3)
theorem ORel.ren {e e' : Emb} {r : Nat → Nat} {f : Nat → Bool} (h : ∀ b i, f b = true → e b = some i → e' (r b) = some i) {i : Info} {x : ABlk} {o : Option Obj} (hr : ORel e i x o) (hf : okB f x = true) : ORel e' i (renB r x) o := by
 cases x with
 | c n t wr sp =>
  obtain ⟨a, b, c, C, ty, z, d, g1, g2, k⟩ := hr
  refine ⟨a, b, c, C, ty, z, d, g1, g2, fun j hj => ?_⟩
  obtain ⟨v, v', q1, q2, q3⟩ := k j hj
  refine ⟨renV r v, v', ?_, q2, q3.ren h (allBT_spec hf j v q1)⟩
  rw [mapT_get, q1]; rfl
 | m es => obtain ⟨es', ck, a, b, c⟩ := hr; exact ⟨es', ck, a, b.ren h hf, c⟩
 | dead => trivial
theorem ORel.cut {e : Emb} {N : Nat} {f : Nat → Bool} (hfN : ∀ b, f b = true → b < N) {i : Info} {x : ABlk} {o : Option Obj} (hr : ORel e i x o) (hf : okB f x = true) : ORel (e.cut N) i x o := by
 have := hr.ren (e' := e.cut N) (r := fun b => b) (fun b i h1 h2 => Emb.cut_some.2 ⟨hfN b h1, h2⟩) hf
 rwa [renB_id] at this
theorem VRels.cut {e : Emb} {N : Nat} {f : Nat → Bool} (hfN : ∀ b, f b = true → b < N) {l : List AV} {l' : List Value} (hr : VRels e l l') (hf : okVs f l = true) : VRels (e.cut N) l l' := by
 have := hr.ren (e' := e.cut N) (r := fun b => b) (fun b i h1 h2 => Emb.cut_some.2 ⟨hfN b h1, h2⟩) hf
 rwa [renVs_id] at this
theorem renB_alive {r : Nat → Nat} {x y : ABlk} (h : renB r x = y) (hy : y ≠ .dead) : x ≠ .dead := by
 intro hx; subst hx; exact hy h.symm
def addH (X : List ABlk) : AHeap → AHeap := List.rec (motive := fun _ => AHeap → AHeap) (fun H => H) (fun x _ ih H => ih (H.alloc x)) X
theorem addH_nxt : ∀ (X : List ABlk) (H : AHeap), (addH X H).nxt = H.nxt + X.length
 | [], H => rfl
 | x :: X, H => by show (addH X (H.alloc x)).nxt = _; rw [addH_nxt X]; simp; omega
theorem addH_low : ∀ (X : List ABlk) (H : AHeap), (addH X H).low = H.low
 | [], H => rfl
 | x :: X, H => by show (addH X (H.alloc x)).low = _; rw [addH_low X]; rfl
theorem addH_old : ∀ (X : List ABlk) (H : AHeap) (b : Nat), b < H.nxt → (addH X H).get b = H.get b
 | [], H, b, _ => rfl
 | x :: X, H, b, h => by
  show (addH X (H.alloc x)).get b = _
  rw [addH_old X _ b (by simp; omega), AHeap.get_alloc, if_neg (by omega)]
theorem addH_new : ∀ (X : List ABlk) (H : AHeap) (j : Nat), (addH X H).get (H.nxt + j) = X[j]?
 | [], H, j => by
  show H.get _ = _
  rw [AHeap.get_eq, if_neg (by omega)]; simp
 | x :: X, H, 0 => by
  show (addH X (H.alloc x)).get _ = _
  rw [addH_old X _ _ (by simp), AHeap.get_alloc, if_pos (Nat.add_zero _)]; simp
 | x :: X, H, j + 1 => by
  show (addH X (H.alloc x)).get _ = _
  have := addH_new X (H.alloc x) j
  rw [AHeap.nxt_alloc] at this
  rw [show H.nxt + (j + 1) = H.nxt + 1 + j by omega, this]; simp
def ltN (N b : Nat) : Bool := Nat.ble (Nat.add b 1) N
theorem ltN_iff {N b : Nat} : ltN N b = true ↔ b < N := by
 unfold ltN; rw [ble_tt]; exact Iff.rfl
theorem FSnd.move {P : Program} {f : Nat} {args : List AV} {bs : List ABlk} {v0 : AV} {H0 : AHeap} {N : Nat} (h : FSnd P f args (heapOf bs) (.v v0 H0)) (hN : bs.length = N) (hG : P.globals.size ≤ N) (hlow : N ≤ H0.low)
  (hargs : okVs (ltN N) args = true) (hbs : ∀ x ∈ bs, okB (ltN N) x = true) {ks : List Nat} (hks1 : ∀ b ∈ ks, N ≤ b) (hks2 : ∀ i j b : Nat, ks[i]? = some b → ks[j]? = some b → i = j) {g : Nat → Bool} (hg : ∀ b, g b = true → b < N ∨ b ∈ ks) (hv : okV g v0 = true)
  (H : AHeap) (hn : N ≤ H.nxt) (hsub : ∀ b x, bs[b]? = some x → x = .dead ∨ H.get b = some x) {X2 : List ABlk} {r : Nat → Nat} (hX2l : X2.length = ks.length) (hX2 : ∀ (j b : Nat), ks[j]? = some b → ∃ x, H0.get b = some x ∧ okB g x = true ∧ X2[j]? = some (renB r x))
  (hr1 : ∀ b, b < N → r b = b) (hr2 : ∀ (j b : Nat), ks[j]? = some b → r b = H.nxt + j) : FSnd P f args H (.v (renV r v0) (addH X2 H)) := by
 intro e w args' hr ha
 have hlen : (heapOf bs).nxt = N := hN
 have hrd : Rel P.globals.size (e.cut N) (heapOf bs) w := {
  lt := fun b i hb => by rw [hlen]; exact (Emb.cut_some.1 hb).1
  bnd := fun b i hb => hr.bnd b i (Emb.cut_some.1 hb).2
  glob := fun g hg => by
   obtain ⟨i, hi, q⟩ := hr.glob g hg
   exact ⟨i, Emb.cut_some.2 ⟨by omega, hi⟩, q⟩
  obj := fun b i x hb hg => by
   rw [heapOf_get] at hg
   rcases hsub b x hg with rfl | hH
   · trivial
   · exact (hr.obj b i x (Emb.cut_some.1 hb).2 hH).cut (fun b hb => ltN_iff.1 hb) (hbs x (List.mem_of_getElem? hg))
  sep := fun b1 i1 b2 i2 h1 h2 hne ho ha => by
   refine hr.sep b1 i1 b2 i2 (Emb.cut_some.1 h1).2 (Emb.cut_some.1 h2).2 hne ?_ ?_
   · rcases ho with ⟨n, t, sp, q⟩ | ⟨es, q⟩ <;> rw [heapOf_get] at q
     · rcases hsub _ _ q with c | c
       · cases c
       · exact .inl ⟨n, t, sp, c⟩
     · rcases hsub _ _ q with c | c
       · cases c
       · exact .inr ⟨es, c⟩
   · obtain ⟨x, q, hx⟩ := ha
     rw [heapOf_get] at q
     rcases hsub _ _ q with c | c
     · exact absurd c hx
     · exact ⟨x, c, hx⟩ }
 have h1 := h (e.cut N) w args' hrd (ha.cut (fun b hb => ltN_iff.1 hb) hargs)
 have conv : ∀ E w', (∃ e' v', E = Ending.returned v' ∧ VRel e' v0 v' ∧ Evo P.globals.size (e.cut N) (heapOf bs) w e' H0 w') → ∃ e' v', E = Ending.returned v' ∧ VRel e' (renV r v0) v' ∧ Evo P.globals.size e H w e' (addH X2 H) w' := by
  rintro E w' ⟨e1, v', hE, q1, q2⟩
  have hfr : ∀ B, B < w.heap.size → w'.heap[B]? = w.heap[B]? := fun B hB => q2.frame B hB fun b i hb _ => .inr (by have := (Emb.cut_some.1 hb).1; omega)
  have hold : ∀ b i, b < N → e1 b = some i → e b = some i := fun b i hb h1 => by
   cases hc : (e.cut N) b with
   | some k =>
    have := q2.ext b k hc
    rw [h1] at this; cases this
    exact (Emb.cut_some.1 hc).2
   | none =>
    have := (q2.fresh b i hc h1).1
    rw [hlen] at this; omega
  have hnew : ∀ b i, N ≤ b → e1 b = some i → w.heap.size ≤ i.blk := fun b i hb h1 => by
   have hc : (e.cut N) b = none := by unfold Emb.cut; rw [if_neg (by omega)]
   rcases (q2.fresh b i hc h1).2 with q | ⟨b0, i0, p1, p2, p3, p4⟩
   · exact q
   · have := (Emb.cut_some.1 p1).1; omega
  generalize hE2 : (fun b => if b < H.nxt then e b else (ks[b - H.nxt]?).bind e1 : Emb) = e2
  have e2o : ∀ b, b < H.nxt → e2 b = e b := fun b hb => by rw [← hE2]; simp [hb]
  have e2n : ∀ (j c : Nat), ks[j]? = some c → e2 (H.nxt + j) = e1 c := fun j c hj => by
   rw [← hE2]
   have h1 : ¬ H.nxt + j < H.nxt := by omega
   have h2 : H.nxt + j - H.nxt = j := by omega
   simp only [h1, if_false, h2, hj, Option.bind_some]
  have e2c : ∀ b i, e2 b = some i → (b < H.nxt ∧ e b = some i) ∨ ∃ j c, b = H.nxt + j ∧ ks[j]? = some c ∧ e1 c = some i := fun b i hb => by
   by_cases hlt : b < H.nxt
   · rw [e2o b hlt] at hb; exact .inl ⟨hlt, hb⟩
   · rw [← hE2] at hb
     simp only [hlt, if_false] at hb
     cases hk : ks[b - H.nxt]? with
     | none => rw [hk] at hb; cases hb
     | some c =>
      rw [hk] at hb
      exact .inr ⟨b - H.nxt, c, by omega, hk, hb⟩
  have hext : ∀ b i, e b = some i → e2 b = some i := fun b i hb => by rw [e2o b (hr.lt b i hb)]; exact hb
  have hren : ∀ b i, g b = true → e1 b = some i → e2 (r b) = some i := fun b i hb h1 => by
   by_cases hbN : b < N
   · rw [hr1 b hbN, e2o b (by omega)]; exact hold b i hbN h1
   · have hm : b ∈ ks := (hg b hb).resolve_left hbN
     obtain ⟨j, hj⟩ := List.getElem?_of_mem hm
     rw [hr2 j b hj, e2n j b hj]; exact h1
  have hgo : ∀ b, b < H.nxt → (addH X2 H).get b = H.get b := fun b hb => addH_old X2 H b hb
  have hgn : ∀ (j c : Nat) (y : ABlk), ks[j]? = some c → (addH X2 H).get (H.nxt + j) = some y → ∃ x, H0.get c = some x ∧ okB g x = true ∧ y = renB r x := fun j c y hj hy => by
   rw [addH_new] at hy
   obtain ⟨x, p1, p2, p3⟩ := hX2 j c hj
   rw [p3] at hy; cases hy
   exact ⟨x, p1, p2, rfl⟩
  have hksz : ∀ c, c ∈ ks → ∃ j, ks[j]? = some c := fun c hc => List.getElem?_of_mem hc
  refine ⟨e2, v', hE, q1.ren hren hv, ?_⟩
  exact {
   rel := {
    lt := fun b i hb => by
     rw [addH_nxt]
     rcases e2c b i hb with ⟨p, _⟩ | ⟨j, c, rfl, p, _⟩
     · omega
     · have := (List.getElem?_eq_some_iff.1 p).1
       omega
    bnd := fun b i hb => by
     rcases e2c b i hb with ⟨_, p⟩ | ⟨j, c, _, _, p⟩
     · exact Nat.lt_of_lt_of_le (hr.bnd b i p) q2.size
     · exact q2.rel.bnd c i p
    glob := fun k hk => by
     obtain ⟨i, hi, q⟩ := hr.glob k hk
     exact ⟨i, hext k i hi, q⟩
    obj := fun b i x hb hx => by
     rcases e2c b i hb with ⟨p1, p2⟩ | ⟨j, c, rfl, p, p2⟩
     · rw [hgo b p1] at hx
       rw [hfr _ (hr.bnd b i p2)]
       exact (hr.obj b i x p2 hx).mono hext
     · obtain ⟨y, g1, g2, rfl⟩ := hgn j c x p hx
       exact (q2.rel.obj c i y p2 g1).ren hren g2
    sep := fun b1 i1 b2 i2 h1 h2 hne ho ha => by
     obtain ⟨y2, g2, d2⟩ := ha
     have big : ∀ (j c : Nat) (i : Info), ks[j]? = some c → e1 c = some i → w.heap.size ≤ i.blk := fun j c i hj hc => hnew c i (hks1 c (List.mem_of_getElem? hj)) hc
     have own1 : ∀ (j c : Nat), ks[j]? = some c → (addH X2 H).owned (H.nxt + j) → H0.owned c := fun j c hj ho => by
      rcases ho with ⟨n, t, sp, q⟩ | ⟨es, q⟩
      · obtain ⟨x, p1, p2, p3⟩ := hgn j c _ hj q
        cases x with
        | c n' t' w' sp' =>
         have p4 : ABlk.c n t true sp = ABlk.c n' (mapT (renV r) t') w' sp' := p3
         cases p4
         exact .inl ⟨_, _, _, p1⟩
        | m es => cases (show ABlk.c n t true sp = ABlk.m _ from p3)
        | dead => cases (show ABlk.c n t true sp = ABlk.dead from p3)
      · obtain ⟨x, p1, p2, p3⟩ := hgn j c _ hj q
        cases x with
        | c n' t' w' sp' => cases (show ABlk.m es = ABlk.c _ _ _ _ from p3)
        | m es' => exact .inr ⟨_, p1⟩
        | dead => cases (show ABlk.m es = ABlk.dead from p3)
     rcases e2c b1 i1 h1 with ⟨l1, p1⟩ | ⟨j1, c1, rfl, k1, p1⟩ <;> rcases e2c b2 i2 h2 with ⟨l2, p2⟩ | ⟨j2, c2, rfl, k2, p2⟩
     · rw [hgo b2 l2] at g2
       refine hr.sep b1 i1 b2 i2 p1 p2 hne ?_ ⟨y2, g2, d2⟩
       unfold AHeap.owned at ho ⊢; rw [hgo b1 l1] at ho; exact ho
     · have := big j2 c2 i2 k2 p2
       have := hr.bnd b1 i1 p1
       omega
     · have := big j1 c1 i1 k1 p1
       have := hr.bnd b2 i2 p2
       omega
     · obtain ⟨x2, r1, r2, r3⟩ := hgn j2 c2 y2 k2 g2
       refine q2.rel.sep c1 i1 c2 i2 p1 p2 ?_ (own1 j1 c1 k1 ho) ⟨x2, r1, renB_alive r3.symm d2⟩
       intro hc
       subst hc
       exact hne (by rw [hks2 j1 j2 c1 k1 k2]) }
   ext := hext
   size := q2.size
   tape := q2.tape
   os := q2.os
   out := q2.out
   nxt := by rw [addH_nxt]; omega
   low := by rw [addH_low]; exact Nat.le_refl _
   same := fun b hb _ => hgo b hb
   dead := fun b hd => by rw [hgo b (AHeap.lt_of_get hd)]; exact hd
   fresh := fun b i hb hi => by
    rcases e2c b i hi with ⟨_, p⟩ | ⟨j, c, rfl, k, p⟩
    · rw [hb] at p; cases p
    · exact ⟨by omega, .inl (hnew c i (hks1 c (List.mem_of_getElem? k)) p)⟩
   frame := fun B hB _ => hfr B hB }
 rcases h1 with ⟨h1, h2⟩ | ⟨v1, w1, h1, h2⟩
 · exact .inl ⟨h1, Calls.mono h2 conv⟩
 · exact .inr ⟨v1, w1, h1, conv _ _ h2⟩
structure MRow where
 args : List AV
 n : Nat
 bs : List ABlk
 v : AV
 X : List ABlk
def deadB (x : ABlk) : Bool := ABlk.rec (motive := fun _ => Bool) (fun _ _ _ _ => false) (fun _ => false) true x
theorem deadB_eq {x : ABlk} (h : deadB x = true) : x = .dead := by cases x <;> first | rfl | cases h
def subB (x : ABlk) (o : Option ABlk) : Bool := Bool.rec (motive := fun _ => Bool) (Option.rec (motive := fun _ => Bool) false (fun y => eqBl x y) o) true (deadB x)
def subH (bs : List ABlk) (H : AHeap) : Nat → Bool := List.rec (motive := fun _ => Nat → Bool) (fun _ => true) (fun x _ ih b => bif' false (ih (Nat.add b 1)) (subB x (H.get b))) bs
theorem subH_spec {H : AHeap} : ∀ {bs : List ABlk} {i : Nat}, subH bs H i = true → ∀ b x, bs[b]? = some x → x = .dead ∨ H.get (i + b) = some x
 | [], _, _, b, x, h => by simp at h
 | y :: bs, i, hs, b, x, h => by
  obtain ⟨h1, h2⟩ := bif_tt (show bif' false (subH bs H (i + 1)) (subB y (H.get i)) = true from hs)
  cases b with
  | zero =>
   simp at h; subst h
   have h3 : Bool.rec (motive := fun _ => Bool) (Option.rec (motive := fun _ => Bool) false (fun z => eqBl y z) (H.get i)) true (deadB y) = true := h2
   cases hd : deadB y with
   | true => exact .inl (deadB_eq hd)
   | false =>
    rw [hd] at h3
    cases hg : H.get i with
    | none => rw [hg] at h3; cases h3
    | some z =>
     rw [hg] at h3
     refine .inr ?_
     show some z = some y
     rw [eqBl_eq y z h3]
  | succ b =>
   have := subH_spec h1 b x (by simpa using h)
   rwa [show i + (b + 1) = i + 1 + b by omega]
def shN (n d b : Nat) : Nat := Bool.rec (motive := fun _ => Nat) (Nat.add b d) b (ltN n b)
theorem shN_lo {n d b : Nat} (h : b < n) : shN n d b = b := by unfold shN; rw [ltN_iff.2 h]
theorem shN_hi {n d b : Nat} (h : n ≤ b) : shN n d b = b + d := by
 have : ltN n b = false := by
  cases hc : ltN n b with
  | true => have := ltN_iff.1 hc; omega
  | false => rfl
 unfold shN; rw [this]; rfl
def mapB (g : ABlk → ABlk) (l : List ABlk) : List ABlk := List.rec (motive := fun _ => List ABlk) [] (fun x _ ih => g x :: ih) l
theorem mapB_length (g : ABlk → ABlk) : ∀ l, (mapB g l).length = l.length
 | [] => rfl
 | x :: l => by show (g x :: mapB g l).length = _; simp [mapB_length g l]
theorem mapB_get (g : ABlk → ABlk) : ∀ (l : List ABlk) (j : Nat), (mapB g l)[j]? = (l[j]?).map g
 | [], j => by show ([] : List ABlk)[j]? = _; simp
 | x :: l, 0 => by show (g x :: mapB g l)[0]? = _; simp
 | x :: l, j + 1 => by show (g x :: mapB g l)[j + 1]? = _; simp [mapB_get g l j]
def leV (x y : AV) : Bool := avX (eqV x y) (fun u => AX.casesOn (motive_1 := fun _ => Bool) u (eqV x y) (eqV x y) (eqV x y) (eqV x y) (eqV x y) (eqV x y) (fun _ => eqV x y) (fun _ _ _ => eqV x y) (fun _ _ => eqV x y) (fun _ => eqV x y) (fun _ => eqV x y) (fun _ => eqV x y) (fun _ _ => eqV x y)
 (fun k lo hi => avI (avX false (fun t => AX.casesOn (motive_1 := fun _ => Bool) t false false false false false false (fun _ => false) (fun _ _ _ => false) (fun _ _ => false) (fun _ => false) (fun _ => false) (fun _ => false) (fun _ _ => false) (fun k2 lo2 hi2 => bif' false (bif' false (Nat.ble hi2 hi) (Nat.ble lo lo2)) (Nat.beq k k2)) (fun _ _ _ => false)) y)
  (fun k2 n => bif' false (bif' false (Nat.ble n hi) (Nat.ble lo n)) (Nat.beq k k2)) y) (fun _ _ _ => eqV x y)) x
theorem leV_rel {e : Emb} {x y : AV} {v : Value} (h : leV x y = true) (hy : VRel e y v) : VRel e x v := by
 have eqc : eqV x y = true → VRel e x v := fun h => by rw [eqV_eq _ _ h]; exact hy
 cases x with
 | x u =>
  cases u with
  | rg k lo hi =>
   cases y with
   | i k2 n =>
    obtain ⟨h1, h2⟩ := bif_tt (show bif' false (bif' false (Nat.ble n hi) (Nat.ble lo n)) (Nat.beq k k2) = true from h)
    obtain ⟨h3, h4⟩ := bif_tt h1
    have := Nat.eq_of_beq_eq_true h2
    subst this
    cases hy with
    | i _ _ hk hn => exact .rg k lo hi n hk hn (Nat.le_of_ble_eq_true h4) (Nat.le_of_ble_eq_true h3)
   | x t =>
    cases t with
    | rg k2 lo2 hi2 =>
     obtain ⟨h1, h2⟩ := bif_tt (show bif' false (bif' false (Nat.ble hi2 hi) (Nat.ble lo lo2)) (Nat.beq k k2) = true from h)
     obtain ⟨h3, h4⟩ := bif_tt h1
     have := Nat.eq_of_beq_eq_true h2
     subst this
     cases hy with
     | rg _ _ _ n hk hn p1 p2 => exact .rg k lo hi n hk hn (Nat.le_trans (Nat.le_of_ble_eq_true h4) p1) (Nat.le_trans p2 (Nat.le_of_ble_eq_true h3))
    | _ => cases h
   | _ => cases h
  | _ => exact eqc h
 | _ => exact eqc h
def leVs (l : List AV) : List AV → Bool := List.rec (motive := fun _ => List AV → Bool) (fun m => List.rec (motive := fun _ => Bool) true (fun _ _ _ => false) m) (fun x _ ih m => List.rec (motive := fun _ => Bool) false (fun y m _ => bif' false (ih m) (leV x y)) m) l
theorem leVs_rel {e : Emb} : ∀ {l m : List AV} {l' : List Value}, leVs l m = true → VRels e m l' → VRels e l l'
 | [], [], _, _, h => h
 | [], _ :: _, _, h, _ => by cases h
 | _ :: _, [], _, h, _ => by cases h
 | x :: l, y :: m, _, h, .cons hv ht => by
  obtain ⟨h1, h2⟩ := bif_tt (show bif' false (leVs l m) (leV x y) = true from h)
  exact .cons (leV_rel h2 hv) (leVs_rel h1 ht)
def MRow.fits (r : MRow) (args : List AV) (H : AHeap) : Bool := bif' false (bif' false (subH r.bs H 0) (Nat.ble r.n H.nxt)) (leVs r.args args)
def MRow.out (r : MRow) (H : AHeap) : ORes := .v (renV (shN r.n (Nat.sub H.nxt r.n)) r.v) (addH (mapB (renB (shN r.n (Nat.sub H.nxt r.n))) r.X) H)
def MRow.Good (P : Program) (f : Nat) (r : MRow) : Prop := ∀ H, r.n ≤ H.nxt → (∀ b x, r.bs[b]? = some x → x = .dead ∨ H.get b = some x) → FSnd P f r.args H (r.out H)
def lookMv (rows : List MRow) (args : List AV) (H : AHeap) : Option MRow :=
 List.rec (motive := fun _ => Option MRow) none (fun r _ ih => Bool.rec (motive := fun _ => Option MRow) ih (some r) (r.fits args H)) rows
theorem lookMv_spec : ∀ {rows : List MRow} {args : List AV} {H : AHeap} {r : MRow}, lookMv rows args H = some r → r ∈ rows ∧ r.fits args H = true
 | [], _, _, _, h => by cases h
 | r :: rows, args, H, q, h => by
  have he : lookMv (r :: rows) args H = Bool.rec (motive := fun _ => Option MRow) (lookMv rows args H) (some r) (r.fits args H) := rfl
  rw [he] at h
  cases hc : r.fits args H with
  | true => rw [hc] at h; cases h; exact ⟨List.mem_cons_self, hc⟩
  | false =>
   rw [hc] at h
   obtain ⟨h1, h2⟩ := lookMv_spec h
   exact ⟨List.mem_cons_of_mem _ h1, h2⟩
def pMov (rows : List MRow) (args : List AV) (H : AHeap) : ORes := Option.rec (motive := fun _ => ORes) .fail (fun r => r.out H) (lookMv rows args H)
theorem pMov_snd {P : Program} {f : Nat} {rows : List MRow} (h : ∀ r, r ∈ rows → r.Good P f) (args : List AV) (H : AHeap) : FSnd P f args H (pMov rows args H) := by
 unfold pMov
 cases hl : lookMv rows args H with
 | none => trivial
 | some r =>
  obtain ⟨h1, h2⟩ := lookMv_spec hl
  obtain ⟨h3, h4⟩ := bif_tt (show bif' false (bif' false (subH r.bs H 0) (Nat.ble r.n H.nxt)) (leVs r.args args) = true from h2)
  obtain ⟨h5, h6⟩ := bif_tt h3
  have hg := h r h1 H (Nat.le_of_ble_eq_true h6) fun b x hb => by
   have := subH_spec h5 b x hb
   rwa [Nat.zero_add] at this
  intro e w args' hr ha
  exact hg e w args' hr (leVs_rel h4 ha)
theorem rowsM_nil {P : Program} {f : Nat} : ∀ r, r ∈ ([] : List MRow) → r.Good P f := fun _ h => by cases h
theorem rowsM_cons {P : Program} {f : Nat} {q : MRow} {l : List MRow} (h : q.Good P f) (t : ∀ r, r ∈ l → r.Good P f) : ∀ r, r ∈ q :: l → r.Good P f := fun r hr => by
 rcases List.mem_cons.1 hr with rfl | hr
 · exact h
 · exact t r hr
def idxN (b : Nat) (ks : List Nat) : Nat := List.rec (motive := fun _ => Nat) 0 (fun k _ ih => Bool.rec (motive := fun _ => Nat) (Nat.add ih 1) 0 (Nat.beq b k)) ks
def cmN (n : Nat) (ks : List Nat) (b : Nat) : Nat := Bool.rec (motive := fun _ => Nat) (Nat.add n (idxN b ks)) b (ltN n b)
def riseN (ks : List Nat) : Nat → Bool := List.rec (motive := fun _ => Nat → Bool) (fun _ => true) (fun k _ ih n => bif' false (ih (Nat.add k 1)) (Nat.ble n k)) ks
def gotB (n : Nat) (ks : List Nat) (H : AHeap) (l : List Nat) : List ABlk → Bool :=
 List.rec (motive := fun _ => List ABlk → Bool) (fun X => List.rec (motive := fun _ => Bool) true (fun _ _ _ => false) X)
  (fun k _ ih X => List.rec (motive := fun _ => Bool) false (fun x X _ => bif' false (ih X) (Option.rec (motive := fun _ => Bool) false (fun y => bif' false (eqBl (renB (cmN n ks) y) x) (okB (fun b => bOr (ltN n b) (memN b ks)) y)) (H.get k))) X) l
def allBl (f : ABlk → Bool) (l : List ABlk) : Bool := List.rec (motive := fun _ => Bool) true (fun x _ ih => bif' false ih (f x)) l
theorem allBl_spec {f : ABlk → Bool} : ∀ {l : List ABlk}, allBl f l = true → ∀ x ∈ l, f x = true
 | [], _, x, h => by cases h
 | y :: l, h, x, hx => by
  obtain ⟨h1, h2⟩ := bif_tt (show bif' false (allBl f l) (f y) = true from h)
  rcases List.mem_cons.1 hx with rfl | hx
  · exact h2
  · exact allBl_spec h1 x hx
def lenB (l : List ABlk) : Nat := List.rec (motive := fun _ => Nat) 0 (fun _ _ ih => Nat.add ih 1) l
theorem lenB_eq : ∀ l, lenB l = l.length
 | [] => rfl
 | x :: l => by show lenB l + 1 = _; rw [lenB_eq l]; rfl
def MRow.chk (r : MRow) (ks : List Nat) (o : ORes) : Bool :=
 ORes.rec (motive := fun _ => Bool) (fun v0 H0 => bif' false (bif' false (bif' false (bif' false (bif' false (bif' false (bif' false (gotB r.n ks H0 ks r.X) (eqV (renV (cmN r.n ks) v0) r.v)) (okV (fun b => bOr (ltN r.n b) (memN b ks)) v0)) (riseN ks r.n)) (allBl (okB (ltN r.n)) r.bs)) (okVs (ltN r.n) r.args)) (Nat.ble r.n H0.low)) (Nat.beq (lenB r.bs) r.n)) (fun _ _ => false) false o
theorem riseN_ge : ∀ {ks : List Nat} {n : Nat}, riseN ks n = true → ∀ b ∈ ks, n ≤ b
 | [], _, _, b, h => by cases h
 | k :: ks, n, h, b, hb => by
  obtain ⟨h1, h2⟩ := bif_tt (show bif' false (riseN ks (k + 1)) (Nat.ble n k) = true from h)
  have h3 := Nat.le_of_ble_eq_true h2
  rcases List.mem_cons.1 hb with rfl | hb
  · exact h3
  · have := riseN_ge h1 b hb; omega
theorem riseN_idx : ∀ {ks : List Nat} {n : Nat}, riseN ks n = true → ∀ (j b : Nat), ks[j]? = some b → idxN b ks = j
 | [], _, _, j, b, h => by simp at h
 | k :: ks, n, h, j, b, hj => by
  obtain ⟨h1, h2⟩ := bif_tt (show bif' false (riseN ks (k + 1)) (Nat.ble n k) = true from h)
  have he : idxN b (k :: ks) = Bool.rec (motive := fun _ => Nat) (idxN b ks + 1) 0 (Nat.beq b k) := rfl
  rw [he, brec]
  simp only [beq_tt]
  cases j with
  | zero => simp at hj; subst hj; simp
  | succ j =>
   simp only [List.getElem?_cons_succ] at hj
   have := riseN_ge h1 b (List.mem_of_getElem? hj)
   rw [if_neg (by omega), riseN_idx h1 j b hj]
theorem gotB_spec {n : Nat} {ks : List Nat} {H : AHeap} : ∀ {l : List Nat} {X : List ABlk}, gotB n ks H l X = true → X.length = l.length ∧ ∀ (j b : Nat), l[j]? = some b → ∃ y, H.get b = some y ∧ okB (fun b => bOr (ltN n b) (memN b ks)) y = true ∧ X[j]? = some (renB (cmN n ks) y)
 | [], [], _ => ⟨rfl, fun j b h => by simp at h⟩
 | [], _ :: _, h => by cases h
 | _ :: _, [], h => by cases h
 | k :: l, x :: X, h => by
  obtain ⟨h1, h2⟩ := bif_tt (show bif' false (gotB n ks H l X) (Option.rec (motive := fun _ => Bool) false (fun y => bif' false (eqBl (renB (cmN n ks) y) x) (okB (fun b => bOr (ltN n b) (memN b ks)) y)) (H.get k)) = true from h)
  obtain ⟨g1, g2⟩ := gotB_spec h1
  refine ⟨by simp [g1], fun j b hj => ?_⟩
  cases j with
  | zero =>
   simp at hj; subst hj
   cases hk : H.get k with
   | none => rw [hk] at h2; cases h2
   | some y =>
    rw [hk] at h2
    obtain ⟨h3, h4⟩ := bif_tt (show bif' false (eqBl (renB (cmN n ks) y) x) (okB (fun b => bOr (ltN n b) (memN b ks)) y) = true from h2)
    exact ⟨y, rfl, h4, by simp [eqBl_eq _ _ h3]⟩
  | succ j =>
   simp only [List.getElem?_cons_succ] at hj ⊢
   exact g2 j b hj
theorem cmN_lo {n b : Nat} {ks : List Nat} (h : b < n) : cmN n ks b = b := by unfold cmN; rw [ltN_iff.2 h]
theorem cmN_hi {n b : Nat} {ks : List Nat} (h : n ≤ b) : cmN n ks b = n + idxN b ks := by
 have : ltN n b = false := by
  cases hc : ltN n b with
  | true => have := ltN_iff.1 hc; omega
  | false => rfl
 unfold cmN; rw [this]; rfl
theorem MRow.snd {P : Program} {F : Fs} (hF : FsOk P F) {f : Nat} {r : MRow} {ks : List Nat} (hG : P.globals.size ≤ r.n) (h : r.chk ks (F f r.args (heapOf r.bs)) = true) : r.Good P f := by
 intro H hn hsub
 have h0 := hF f r.args (heapOf r.bs)
 cases hx : F f r.args (heapOf r.bs) with
 | pan v X => rw [hx] at h; cases h
 | fail => rw [hx] at h; cases h
 | v v0 H0 =>
  rw [hx] at h h0
  obtain ⟨h, c1⟩ := bif_tt (show bif' false (bif' false (bif' false (bif' false (bif' false (bif' false (bif' false (gotB r.n ks H0 ks r.X) (eqV (renV (cmN r.n ks) v0) r.v)) (okV (fun b => bOr (ltN r.n b) (memN b ks)) v0)) (riseN ks r.n)) (allBl (okB (ltN r.n)) r.bs)) (okVs (ltN r.n) r.args)) (Nat.ble r.n H0.low)) (Nat.beq (lenB r.bs) r.n) = true from h)
  obtain ⟨h, c2⟩ := bif_tt h
  obtain ⟨h, c3⟩ := bif_tt h
  obtain ⟨h, c4⟩ := bif_tt h
  obtain ⟨h, c5⟩ := bif_tt h
  obtain ⟨h, c6⟩ := bif_tt h
  obtain ⟨h, c7⟩ := bif_tt h
  obtain ⟨g1, g2⟩ := gotB_spec h
  have d1 : r.bs.length = r.n := by rw [← lenB_eq]; exact Nat.eq_of_beq_eq_true c1
  have d2 := Nat.le_of_ble_eq_true c2
  have d5 := riseN_ge c5
  have d7 := eqV_eq _ _ c7
  have key : ∀ (j b : Nat), ks[j]? = some b → shN r.n (Nat.sub H.nxt r.n) (cmN r.n ks b) = H.nxt + j := fun j b hj => by
   rw [cmN_hi (d5 b (List.mem_of_getElem? hj)), riseN_idx c5 j b hj, shN_hi (by omega)]
   show r.n + j + (H.nxt - r.n) = _
   omega
  have := h0.move (N := r.n) (ks := ks) (g := fun b => bOr (ltN r.n b) (memN b ks)) (X2 := mapB (renB (shN r.n (Nat.sub H.nxt r.n))) r.X) (r := fun b => shN r.n (Nat.sub H.nxt r.n) (cmN r.n ks b)) d1 hG d2 c3 (allBl_spec c4) d5
   (fun i j b hi hj => by rw [← riseN_idx c5 i b hi, ← riseN_idx c5 j b hj])
   (fun b hb => by
    rw [bOr_iff, ltN_iff, memN_iff] at hb; exact hb) c6 H hn hsub (by rw [mapB_length, g1])
   (fun j b hj => by
    obtain ⟨y, p1, p2, p3⟩ := g2 j b hj
    refine ⟨y, p1, p2, ?_⟩
    rw [mapB_get, p3, Option.map_some, renB_comp])
   (fun b hb => by rw [cmN_lo hb, shN_lo hb]) key
  rw [← renV_comp, d7] at this
  exact this
end
end Go.Ab
