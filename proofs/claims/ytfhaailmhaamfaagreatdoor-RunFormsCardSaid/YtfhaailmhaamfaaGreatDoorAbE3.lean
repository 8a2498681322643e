/- Regions that draw their order (5): what holds of each set of operations that are done. -/
import Derived.Test.YtfhaailmhaamfaaGreatDoorAbE2
namespace Go.Ab
open Go
noncomputable section

/-- What entry j touches. -/
def Tou (Hf : Nat → AHeap) (Te : Nat → Nat → Prop) (j b : Nat) : Prop := ((Hf j).nxt ≤ b ∧ b < (Hf (j + 1)).nxt) ∨ Te j b
open Classical in
/-- The stage of a block: behind the last entry that is done and touches it. -/
def ix (Hf : Nat → AHeap) (Te : Nat → Nat → Prop) (L : Nat → Bool) : Nat → Nat → Nat
  | 0, _ => 0
  | j + 1, b => if L j = true ∧ Tou Hf Te j b then j + 1 else ix Hf Te L j b

section
variable {Hf : Nat → AHeap} {Te : Nat → Nat → Prop} {L L' : Nat → Bool} {m : Nat}
theorem ix_le : ∀ j b, ix Hf Te L j b ≤ j
  | 0, _ => Nat.le_refl _
  | j + 1, b => by
    unfold ix
    split
    · exact Nat.le_refl _
    · have := ix_le j b; omega
theorem ix_cut {i b : Nat} : ∀ {m}, i ≤ m → (∀ j, i ≤ j → j < m → ¬ (L j = true ∧ Tou Hf Te j b)) → ix Hf Te L m b = ix Hf Te L i b
  | 0, h, _ => by have : i = 0 := by omega
                  subst this; rfl
  | m + 1, h, hj => by
    by_cases hi : i = m + 1
    · subst hi; rfl
    · have h1 : ix Hf Te L (m + 1) b = ix Hf Te L m b := by
        rw [ix, if_neg (hj m (by omega) (by omega))]
      rw [h1]
      exact ix_cut (by omega) fun j h1 h2 => hj j h1 (by omega)
theorem ix_all {b : Nat} (hsame : ∀ j, j < m → ¬ Tou Hf Te j b → (Hf (j + 1)).get b = (Hf j).get b) : ∀ {i}, i ≤ m → (∀ j, j < i → Tou Hf Te j b → L j = true) → (Hf (ix Hf Te L i b)).get b = (Hf i).get b
  | 0, _, _ => rfl
  | i + 1, hi, h => by
    by_cases hT : Tou Hf Te i b
    · rw [ix, if_pos ⟨h i (by omega) hT, hT⟩]
    · rw [ix, if_neg (fun q => hT q.2), hsame i (by omega) hT]
      exact ix_all hsame (by omega) fun j hj => h j (by omega)
theorem ix_set {i b : Nat} (hi : L' i = true) (hne : ∀ j, j ≠ i → L' j = L j) (hT : Tou Hf Te i b) : ∀ {m}, i < m → (∀ j, i < j → j < m → ¬ (L j = true ∧ Tou Hf Te j b)) → ix Hf Te L' m b = i + 1
  | 0, h, _ => by omega
  | m + 1, h, hj => by
    by_cases him : i = m
    · subst him; rw [ix, if_pos ⟨hi, hT⟩]
    · have h1 := hj m (by omega) (by omega)
      rw [ix, if_neg (by rw [hne m (Ne.symm him)]; exact h1)]
      exact ix_set hi hne hT (by omega) fun j h1 h2 => hj j h1 (by omega)
theorem ix_off {i b : Nat} (hi : L i = false) (hne : ∀ j, j ≠ i → L' j = L j) (hT : ¬ Tou Hf Te i b) : ∀ m, ix Hf Te L' m b = ix Hf Te L m b
  | 0 => rfl
  | m + 1 => by
    rw [ix, ix, ix_off hi hne hT m]
    by_cases him : m = i
    · subst him
      rw [if_neg (fun q => hT q.2), if_neg (fun q => hT q.2)]
    · rw [hne m him]
end

/-- The stages of a run. -/
structure Stages (m : Nat) (Hf : Nat → AHeap) (Te : Nat → Nat → Prop) : Prop where
  mono : ∀ j, j < m → (Hf j).nxt ≤ (Hf (j + 1)).nxt
  low : ∀ j, j < m → (Hf (j + 1)).low ≤ (Hf j).low
  same : ∀ j b, j < m → ¬ Tou Hf Te j b → (Hf (j + 1)).get b = (Hf j).get b

section
variable {m : Nat} {Hf : Nat → AHeap} {Te : Nat → Nat → Prop}
theorem Stages.nxt (h : Stages m Hf Te) {i : Nat} : ∀ {k}, i ≤ k → k ≤ m → (Hf i).nxt ≤ (Hf k).nxt
  | 0, h1, _ => by have : i = 0 := by omega
                   subst this; exact Nat.le_refl _
  | k + 1, h1, h2 => by
    by_cases hi : i = k + 1
    · subst hi; exact Nat.le_refl _
    · exact Nat.le_trans (h.nxt (by omega) (by omega)) (h.mono k (by omega))
theorem Stages.lows (h : Stages m Hf Te) {i : Nat} : ∀ {k}, i ≤ k → k ≤ m → (Hf k).low ≤ (Hf i).low
  | 0, h1, _ => by have : i = 0 := by omega
                   subst this; exact Nat.le_refl _
  | k + 1, h1, h2 => by
    by_cases hi : i = k + 1
    · subst hi; exact Nat.le_refl _
    · exact Nat.le_trans (h.low k (by omega)) (h.lows (by omega) (by omega))
end

structure Inv (G m : Nat) (Hf : Nat → AHeap) (Te : Nat → Nat → Prop) (e0 : Emb) (w0 : World) (L : Nat → Bool) (e : Emb) (w : World) : Prop where
  ext : ∀ b i, e0 b = some i → e b = some i
  own : ∀ b i, e b = some i → (b < (Hf 0).nxt ∧ e0 b = some i) ∨ ∃ j, j < m ∧ L j = true ∧ (Hf j).nxt ≤ b ∧ b < (Hf (j + 1)).nxt
  size : w0.heap.size ≤ w.heap.size
  tape : w.tape = w0.tape
  os : w.os = w0.os
  out : w.output = w0.output
  bnd : ∀ b i, e b = some i → i.blk < w.heap.size
  obj : ∀ b i x, e b = some i → (Hf (ix Hf Te L m b)).get b = some x → ORel (e.cut (Hf (ix Hf Te L m b)).nxt) i x w.heap[i.blk]?
  sep : ∀ b1 i1 b2 i2, e b1 = some i1 → e b2 = some i2 → b1 ≠ b2 → (Hf (ix Hf Te L m b1)).owned b1 → (Hf (ix Hf Te L m b2)).alive b2 → i1.blk ≠ i2.blk
  fresh : ∀ b i, e0 b = none → e b = some i → w0.heap.size ≤ i.blk ∨ ∃ b0 i0, e0 b0 = some i0 ∧ i0.blk = i.blk ∧ (Hf 0).get b0 ≠ some .dead ∧ (Hf m).low ≤ b0
  frame : ∀ B, B < w0.heap.size → (∀ b i, e0 b = some i → i.blk = B → (Hf 0).get b = some .dead ∨ b < (Hf m).low) → w.heap[B]? = w0.heap[B]?
  still : ∀ b, b < (Hf 0).nxt → (Hf (ix Hf Te L m b)).get b = (Hf 0).get b ∨ ((Hf 0).get b ≠ some .dead ∧ (Hf m).low ≤ b)

section
variable {G m : Nat} {Hf : Nat → AHeap} {Te : Nat → Nat → Prop} {e0 : Emb} {w0 : World} {L L' : Nat → Bool} {e : Emb} {w : World}

/-- The memory that an entry is shown. -/
def Shown (m : Nat) (Hf : Nat → AHeap) (Te : Nat → Nat → Prop) (L : Nat → Bool) (e : Emb) (i : Nat) (Y : AHeap) : Prop :=
  ∀ b, b < (Hf i).nxt → (b < (Hf 0).nxt ∨ ∃ j, e b = some j) → (Y.get b ≠ some .dead ∨ Te i b) → (Hf (ix Hf Te L m b)).get b = Y.get b ∧ (Hf (ix Hf Te L m b)).nxt ≤ (Hf i).nxt

theorem Inv.rel_shown (hI : Inv G m Hf Te e0 w0 L e w) (hs : Stages m Hf Te) (hr0 : Rel G e0 (Hf 0) w0) {i : Nat} (hi : i < m) {Y : AHeap} (hn : Y.nxt = (Hf i).nxt) (hk : Shown m Hf Te L e i Y) : Rel G (e.cut (Hf i).nxt) Y w where
  lt := fun b j hb => by rw [hn]; exact (Emb.cut_some.1 hb).1
  bnd := fun b j hb => hI.bnd b j (Emb.cut_some.1 hb).2
  glob := fun g hg => by
    obtain ⟨j, hj, q⟩ := hr0.glob g hg
    exact ⟨j, Emb.cut_some.2 ⟨Nat.lt_of_lt_of_le (hr0.lt g j hj) (hs.nxt (Nat.zero_le i) (by omega)), hI.ext g j hj⟩, q⟩
  obj := fun b j x hb hg => by
    obtain ⟨h1, h2⟩ := Emb.cut_some.1 hb
    by_cases hx : x = .dead
    · subst hx; trivial
    · obtain ⟨q1, q2⟩ := hk b h1 (.inr ⟨j, h2⟩) (.inl (by rw [hg]; intro h; cases h; exact hx rfl))
      refine (hI.obj b j x h2 (by rw [q1, hg])).mono fun c k hc => ?_
      obtain ⟨r1, r2⟩ := Emb.cut_some.1 hc
      exact Emb.cut_some.2 ⟨by omega, r2⟩
  sep := fun b1 i1 b2 i2 h1 h2 hne ho ha => by
    obtain ⟨p1, p2⟩ := Emb.cut_some.1 h1
    obtain ⟨q1, q2⟩ := Emb.cut_some.1 h2
    have g1 := (hk b1 p1 (.inr ⟨_, p2⟩) (.inl (by rcases ho with ⟨_, _, _, h⟩ | ⟨_, h⟩ <;> rw [h] <;> nofun))).1
    have g2 := (hk b2 q1 (.inr ⟨_, q2⟩) (.inl (by obtain ⟨x, h, hd⟩ := ha; rw [h]; intro q; cases q; exact hd rfl))).1
    refine hI.sep b1 i1 b2 i2 p2 q2 hne ?_ ?_
    · unfold AHeap.owned at ho ⊢; rw [g1]; exact ho
    · unfold AHeap.alive at ha ⊢; rw [g2]; exact ha

/-- One entry more. -/
theorem Inv.step (hI : Inv G m Hf Te e0 w0 L e w) (hs : Stages m Hf Te) (hr0 : Rel G e0 (Hf 0) w0) {i : Nat} (hi : i < m) (hL : L i = false) (hL1 : L' i = true) (hL2 : ∀ j, j ≠ i → L' j = L j)
    {D : List Nat} {Y Y' : AHeap} {kk : Prop} (hm : Mem kk D (Hf i) (Hf (i + 1)) (Te i) Y Y') (hk : Shown m Hf Te L e i Y)
    (hT : ∀ j b, i < j → j < m → Tou Hf Te i b → ¬ (L j = true ∧ Tou Hf Te j b))
    (hkk : kk → ∀ b k, e b = some k → b < (Hf i).nxt)
    {e2 : Emb} {w' : World} (hev : Evo G (e.cut (Hf i).nxt) Y w e2 Y' w') :
    ∃ e', Inv G m Hf Te e0 w0 L' e' w' ∧ (∀ b k, e b = some k → e' b = some k) ∧ ∀ b k, e2 b = some k → b < (Hf (i + 1)).nxt ∧ e' b = some k := by
  have hmono := hs.mono i hi
  have h0i := hs.nxt (Nat.zero_le i) (Nat.le_of_lt hi)
  have hn' : (Hf (i + 1)).nxt = max (Hf i).nxt Y'.nxt := hm.n'
  have hYn := hm.ny
  -- what e2 is
  have f1 : ∀ b k, e2 b = some k → b < (Hf i).nxt → e b = some k := fun b k h hb => by
    cases hc : (e.cut (Hf i).nxt) b with
    | some k0 =>
      have := hev.ext b k0 hc
      rw [h] at this; cases this
      exact (Emb.cut_some.1 hc).2
    | none => have := (hev.fresh b k hc h).1; omega
  have f2 : ∀ b k, e2 b = some k → b < (Hf (i + 1)).nxt := fun b k h => by
    have := hev.rel.lt b k h; omega
  have f3 : ∀ b k, e b = some k → (Hf i).nxt ≤ b → (Hf (i + 1)).nxt ≤ b := fun b k h hb => by
    rcases hI.own b k h with ⟨h1, _⟩ | ⟨j, hj, hjL, h1, h2⟩
    · omega
    · rcases Nat.lt_trichotomy j i with hji | hji | hji
      · have := hs.nxt (i := j + 1) (k := i) (by omega) (by omega); omega
      · subst hji; rw [hL] at hjL; cases hjL
      · have := hs.nxt (i := i + 1) (k := j) (by omega) (by omega); omega
  generalize hE : (fun b => if (Hf i).nxt ≤ b ∧ b < (Hf (i + 1)).nxt then e2 b else e b : Emb) = e'
  have hE' : ∀ b, e' b = if (Hf i).nxt ≤ b ∧ b < (Hf (i + 1)).nxt then e2 b else e b := fun b => by rw [← hE]
  have f4 : ∀ b k, e b = some k → e' b = some k := fun b k h => by
    rw [hE', if_neg]; exact h
    rintro ⟨q1, q2⟩
    have := f3 b k h q1; omega
  have f5 : ∀ b k, e2 b = some k → e' b = some k := fun b k h => by
    by_cases hb : (Hf i).nxt ≤ b
    · rw [hE', if_pos ⟨hb, f2 b k h⟩]; exact h
    · exact f4 b k (f1 b k h (by omega))
  have f6 : ∀ b k, e' b = some k → (b < (Hf (i + 1)).nxt ∧ e2 b = some k) ∨ ((Hf (i + 1)).nxt ≤ b ∧ e b = some k) := fun b k h => by
    rw [hE'] at h
    by_cases hb : (Hf i).nxt ≤ b ∧ b < (Hf (i + 1)).nxt
    · rw [if_pos hb] at h; exact .inl ⟨hb.2, h⟩
    · rw [if_neg hb] at h
      by_cases hb1 : b < (Hf i).nxt
      · exact .inl ⟨by omega, hev.ext b k (Emb.cut_some.2 ⟨hb1, h⟩)⟩
      · exact .inr ⟨by omega, h⟩
  -- stages
  have s1 : ∀ b, Tou Hf Te i b → ix Hf Te L' m b = i + 1 := fun b h => ix_set hL1 hL2 h hi fun j h1 h2 => hT j b h1 h2 h
  have s2 : ∀ b, ¬ Tou Hf Te i b → ix Hf Te L' m b = ix Hf Te L m b := fun b h => ix_off hL hL2 h m
  have tlt : ∀ b, Tou Hf Te i b → b < (Hf (i + 1)).nxt := fun b h => by
    rcases h with h | h
    · exact h.2
    · have := (hm.te b h).1; omega
  -- a block is touched, or not
  have A : ∀ b k x, e' b = some k → Tou Hf Te i b → (Hf (ix Hf Te L' m b)).get b = some x → x ≠ .dead → e2 b = some k ∧ Y'.get b = some x := fun b k x h hTb hg hx => by
    refine ⟨?_, ?_⟩
    · rcases f6 b k h with ⟨_, q⟩ | ⟨q, _⟩
      · exact q
      · have := tlt b hTb; omega
    · rw [s1 b hTb] at hg
      rcases hTb with ⟨q1, q2⟩ | q
      · rcases hm.g2 b q1 q2 with r | r
        · rw [← r]; exact hg
        · rw [r] at hg; cases hg; exact absurd rfl hx
      · rw [← hm.g1 b q]; exact hg
  have Bc : ∀ b k, e' b = some k → ¬ Tou Hf Te i b → e b = some k := fun b k h hTb => by
    rcases f6 b k h with ⟨q1, q2⟩ | ⟨_, q⟩
    · by_cases hb : b < (Hf i).nxt
      · exact f1 b k q2 hb
      · exact absurd (.inl ⟨by omega, q1⟩) hTb
    · exact q
  have ownO : ∀ c k, e c = some k → Te i c → Y.owned c → (Hf (ix Hf Te L m c)).owned c := fun c k hc hTe ho => by
    have := (hk c (hm.te c hTe).1 (.inr ⟨k, hc⟩) (.inr hTe)).1
    unfold AHeap.owned at ho ⊢; rw [this]; exact ho
  -- a block not touched lies elsewhere
  have apart : ∀ c k b j, e c = some k → c < (Hf i).nxt → Y.get c ≠ some .dead → Y'.low ≤ c → e b = some j → ¬ Tou Hf Te i b → (Hf (ix Hf Te L m b)).alive b → k.blk ≠ j.blk := fun c k b j hc hcl hd hlo hb hTb ha => by
    rcases hm.kind with ⟨h0, h1⟩ | ⟨h1, h2⟩
    · exact absurd (.inr (h1 b (hkk h0 b j hb))) hTb
    · rcases h2 c hcl with q | q | q
      · exact hI.sep c k b j hc hb (by intro h; subst h; exact hTb (.inr q)) (ownO c k hc q (h1 c q)) ha
      · exact absurd q hd
      · omega
  have heap : ∀ b j, e b = some j → ¬ Tou Hf Te i b → (Hf (ix Hf Te L m b)).alive b → w'.heap[j.blk]? = w.heap[j.blk]? := fun b j hb hTb ha => by
    refine hev.frame _ (hI.bnd b j hb) fun c k hc hkj => ?_
    obtain ⟨hcl, hc⟩ := Emb.cut_some.1 hc
    by_cases hd : Y.get c = some .dead
    · exact .inl hd
    · by_cases hlo : Y'.low ≤ c
      · exact absurd hkj (apart c k b j hc hcl hd hlo hb hTb ha)
      · exact .inr (by omega)
  have alv : ∀ (H : AHeap) b x, H.get b = some x → x ≠ .dead → H.alive b := fun H b x h1 h2 => ⟨x, h1, h2⟩
  have AB : ∀ b1 j1 b2 j2, e2 b1 = some j1 → Tou Hf Te i b1 → e b2 = some j2 → ¬ Tou Hf Te i b2 → (Hf (ix Hf Te L m b2)).alive b2 → j1.blk ≠ j2.blk := fun b1 j1 b2 j2 h1 t1 h2 t2 ha => by
    by_cases hb : b1 < (Hf i).nxt
    · have hTe : Te i b1 := by
        rcases t1 with q | q
        · omega
        · exact q
      rcases hm.kind with ⟨q0, q⟩ | ⟨q, _⟩
      · exact absurd (.inr (q b2 (hkk q0 b2 j2 h2))) t2
      · exact hI.sep b1 j1 b2 j2 (f1 b1 j1 h1 hb) h2 (by intro h; subst h; exact t2 t1) (ownO b1 j1 (f1 b1 j1 h1 hb) hTe (q b1 hTe)) ha
    · rcases (hev.fresh b1 j1 (by unfold Emb.cut; rw [if_neg hb]) h1).2 with q | ⟨c, k, q1, q2, q3, q4⟩
      · have := hI.bnd b2 j2 h2; omega
      · obtain ⟨hcl, hc⟩ := Emb.cut_some.1 q1
        rw [← q2]
        exact apart c k b2 j2 hc hcl q3 q4 h2 t2 ha
  have lowm : (Hf m).low ≤ (Hf (i + 1)).low := hs.lows (by omega) (Nat.le_refl m)
  have lowc : ∀ c, c < (Hf i).nxt → Y'.low ≤ c → (Hf m).low ≤ c := fun c h1 h2 => by
    rcases hm.l1 with q | q <;> omega
  have hdd : ∀ c, c < (Hf 0).nxt → Y.get c ≠ some .dead → (Hf 0).get c ≠ some .dead := fun c hc hd => by
    have := (hk c (by omega) (.inl hc) (.inl hd)).1
    rcases hI.still c hc with q | q
    · rw [← q, this]; exact hd
    · exact q.1
  refine ⟨e', ?_, f4, fun b k h => ⟨f2 b k h, f5 b k h⟩⟩
  refine {
    ext := fun b k h => f4 b k (hI.ext b k h)
    own := ?_
    size := Nat.le_trans hI.size hev.size
    tape := by rw [hev.tape, hI.tape]
    os := by rw [hev.os, hI.os]
    out := by rw [hev.out, hI.out]
    bnd := ?_
    obj := ?_
    sep := ?_
    fresh := ?_
    frame := ?_
    still := ?_ }
  · intro b k h
    have old : e b = some k → (b < (Hf 0).nxt ∧ e0 b = some k) ∨ ∃ j, j < m ∧ L' j = true ∧ (Hf j).nxt ≤ b ∧ b < (Hf (j + 1)).nxt := fun h => by
      rcases hI.own b k h with q | ⟨j, q1, q2, q3⟩
      · exact .inl q
      · refine .inr ⟨j, q1, ?_, q3⟩
        rw [hL2 j (by intro h; subst h; rw [hL] at q2; cases q2)]; exact q2
    rcases f6 b k h with ⟨q1, q2⟩ | ⟨_, q⟩
    · by_cases hb : b < (Hf i).nxt
      · exact old (f1 b k q2 hb)
      · exact .inr ⟨i, hi, hL1, by omega, q1⟩
    · exact old q
  · intro b k h
    rcases f6 b k h with ⟨_, q⟩ | ⟨_, q⟩
    · exact hev.rel.bnd b k q
    · exact Nat.lt_of_lt_of_le (hI.bnd b k q) hev.size
  · intro b k x h hg
    by_cases hx : x = .dead
    · subst hx; trivial
    · by_cases hTb : Tou Hf Te i b
      · obtain ⟨q1, q2⟩ := A b k x h hTb hg hx
        rw [s1 b hTb]
        exact (hev.rel.obj b k x q1 q2).mono fun c j hc => Emb.cut_some.2 ⟨f2 c j hc, f5 c j hc⟩
      · have hb := Bc b k h hTb
        rw [s2 b hTb] at hg ⊢
        rw [heap b k hb hTb (alv _ _ _ hg hx)]
        exact (hI.obj b k x hb hg).mono fun c j hc => by
          obtain ⟨r1, r2⟩ := Emb.cut_some.1 hc
          exact Emb.cut_some.2 ⟨r1, f4 c j r2⟩
  · intro b1 i1 b2 i2 h1 h2 hne ho ha
    obtain ⟨x1, g1, d1⟩ := AHeap.owned_alive ho
    obtain ⟨x2, g2, d2⟩ := ha
    by_cases t1 : Tou Hf Te i b1 <;> by_cases t2 : Tou Hf Te i b2
    · obtain ⟨p1, p2⟩ := A b1 i1 x1 h1 t1 g1 d1
      obtain ⟨q1, q2⟩ := A b2 i2 x2 h2 t2 g2 d2
      refine hev.rel.sep b1 i1 b2 i2 p1 q1 hne ?_ ⟨x2, q2, d2⟩
      unfold AHeap.owned at ho ⊢; rw [p2]; rw [g1] at ho; exact ho
    · obtain ⟨p1, p2⟩ := A b1 i1 x1 h1 t1 g1 d1
      have hb := Bc b2 i2 h2 t2
      rw [s2 b2 t2] at g2
      exact AB b1 i1 b2 i2 p1 t1 hb t2 ⟨x2, g2, d2⟩
    · obtain ⟨q1, q2⟩ := A b2 i2 x2 h2 t2 g2 d2
      have hb := Bc b1 i1 h1 t1
      rw [s2 b1 t1] at g1
      exact Ne.symm (AB b2 i2 b1 i1 q1 t2 hb t1 ⟨x1, g1, d1⟩)
    · have p1 := Bc b1 i1 h1 t1
      have p2 := Bc b2 i2 h2 t2
      rw [s2 b1 t1] at ho
      rw [s2 b2 t2] at g2
      exact hI.sep b1 i1 b2 i2 p1 p2 hne ho ⟨x2, g2, d2⟩
  · intro b k h0 h
    have chain : ∀ c j, e c = some j → j.blk = k.blk → (e0 c = none ∨ (∃ j0, e0 c = some j0 ∧ (Hf 0).get c ≠ some .dead ∧ (Hf m).low ≤ c)) → w0.heap.size ≤ k.blk ∨ ∃ b0 i0, e0 b0 = some i0 ∧ i0.blk = k.blk ∧ (Hf 0).get b0 ≠ some .dead ∧ (Hf m).low ≤ b0 := fun c j hc hjk hh => by
      rcases hh with hh | ⟨j0, q1, q2, q3⟩
      · rcases hI.fresh c j hh hc with q | ⟨b0, i0, q1, q2, q3⟩
        · exact .inl (by omega)
        · exact .inr ⟨b0, i0, q1, by rw [q2, hjk], q3⟩
      · have := hI.ext c j0 q1
        rw [hc] at this; cases this
        exact .inr ⟨c, j, q1, hjk, q2, q3⟩
    rcases f6 b k h with ⟨q1, q2⟩ | ⟨_, q⟩
    · by_cases hb : b < (Hf i).nxt
      · exact chain b k (f1 b k q2 hb) rfl (.inl h0)
      · rcases (hev.fresh b k (by unfold Emb.cut; rw [if_neg hb]) q2).2 with r | ⟨c, j, r1, r2, r3, r4⟩
        · exact .inl (Nat.le_trans hI.size r)
        · obtain ⟨hcl, hc⟩ := Emb.cut_some.1 r1
          refine chain c j hc r2 ?_
          cases hc0 : e0 c with
          | none => exact .inl rfl
          | some j0 => exact .inr ⟨j0, rfl, hdd c (hr0.lt c j0 hc0) r3, lowc c hcl r4⟩
    · exact chain b k q rfl (.inl h0)
  · intro B hB hc
    rw [← hI.frame B hB hc]
    refine hev.frame B (Nat.lt_of_lt_of_le hB hI.size) fun c j hcj hj => ?_
    obtain ⟨hcl, hc1⟩ := Emb.cut_some.1 hcj
    by_cases hd : Y.get c = some .dead
    · exact .inl hd
    · by_cases hlo : Y'.low ≤ c
      · exfalso
        cases hc0 : e0 c with
        | some j0 =>
          have := hI.ext c j0 hc0
          rw [hc1] at this; cases this
          rcases hc c j hc0 hj with q | q
          · exact hdd c (hr0.lt c j hc0) hd q
          · have := lowc c hcl hlo; omega
        | none =>
          rcases hI.fresh c j hc0 hc1 with q | ⟨b0, i0, q1, q2, q3, q4⟩
          · omega
          · rcases hc b0 i0 q1 (by rw [q2, hj]) with r | r
            · exact q3 r
            · omega
      · exact .inr (by omega)
  · intro b hb
    by_cases hTb : Tou Hf Te i b
    · rw [s1 b hTb]
      rcases hTb with q | q
      · omega
      · have hO := (hk b (by omega) (.inl hb) (.inr q)).1
        rw [hm.g1 b q]
        by_cases hd : Y.get b = some .dead
        · have hde := hev.dead b hd
          rw [← hd, ← hO] at hde
          rw [hde]; exact hI.still b hb
        · by_cases hlo : b < Y'.low
          · rw [hev.same b (by omega) hlo, ← hO]; exact hI.still b hb
          · exact .inr ⟨hdd b hb hd, lowc b (by omega) (by omega)⟩
    · rw [s2 b hTb]; exact hI.still b hb

/-- At first. -/
theorem Inv.start (hr0 : Rel G e0 (Hf 0) w0) (hL : ∀ j, L j = false) : Inv G m Hf Te e0 w0 L e0 w0 := by
  have h0 : ∀ b, ix Hf Te L m b = 0 := fun b => by
    rw [ix_cut (i := 0) (Nat.zero_le m) fun j _ _ => by rw [hL j]; simp]; rfl
  exact {
    ext := fun _ _ h => h
    own := fun b i h => .inl ⟨hr0.lt b i h, h⟩
    size := Nat.le_refl _
    tape := rfl
    os := rfl
    out := rfl
    bnd := hr0.bnd
    obj := fun b i x h hg => by
      rw [h0 b] at hg ⊢
      exact (hr0.obj b i x h hg).mono fun c j hc => Emb.cut_some.2 ⟨hr0.lt c j hc, hc⟩
    sep := fun b1 i1 b2 i2 h1 h2 hne ho ha => by
      rw [h0 b1] at ho
      rw [h0 b2] at ha
      exact hr0.sep b1 i1 b2 i2 h1 h2 hne ho ha
    fresh := fun b i h h' => by rw [h] at h'; cases h'
    frame := fun _ _ _ => rfl
    still := fun b _ => .inl (by rw [h0 b]) }

/-- At last. -/
theorem Inv.last (hI : Inv G m Hf Te e0 w0 L e w) (hs : Stages m Hf Te) (hr0 : Rel G e0 (Hf 0) w0) (hL : ∀ j, j < m → L j = true) : Evo G e0 (Hf 0) w0 e (Hf m) w := by
  have hO : ∀ b, (Hf (ix Hf Te L m b)).get b = (Hf m).get b := fun b => ix_all (fun j hj => hs.same j b hj) (Nat.le_refl m) fun j hj _ => hL j hj
  have h0 := hs.nxt (Nat.zero_le m) (Nat.le_refl m)
  exact {
    rel := {
      lt := fun b i h => by
        rcases hI.own b i h with ⟨q, _⟩ | ⟨j, q1, _, _, q2⟩
        · omega
        · have := hs.nxt (i := j + 1) (k := m) (by omega) (Nat.le_refl m); omega
      bnd := hI.bnd
      glob := fun g hg => by
        obtain ⟨i, hi, q⟩ := hr0.glob g hg
        exact ⟨i, hI.ext g i hi, q⟩
      obj := fun b i x h hg => (hI.obj b i x h (by rw [hO b]; exact hg)).mono fun c j hc => (Emb.cut_some.1 hc).2
      sep := fun b1 i1 b2 i2 h1 h2 hne ho ha => hI.sep b1 i1 b2 i2 h1 h2 hne (by unfold AHeap.owned at ho ⊢; rw [hO b1]; exact ho) (by unfold AHeap.alive at ha ⊢; rw [hO b2]; exact ha) }
    ext := hI.ext
    size := hI.size
    tape := hI.tape
    os := hI.os
    out := hI.out
    nxt := h0
    low := hs.lows (Nat.zero_le m) (Nat.le_refl m)
    same := fun b hb hlo => by
      rcases hI.still b hb with q | q
      · rw [← hO b]; exact q
      · omega
    dead := fun b hd => by
      rcases hI.still b (AHeap.lt_of_get hd) with q | q
      · rw [← hO b, q]; exact hd
      · exact absurd hd q.1
    fresh := fun b i h h' => by
      refine ⟨?_, hI.fresh b i h h'⟩
      rcases hI.own b i h' with ⟨_, q⟩ | ⟨j, q1, _, q2, _⟩
      · rw [h] at q; cases q
      · have := hs.nxt (i := 0) (k := j) (Nat.zero_le j) (by omega); omega
    frame := hI.frame }
end
end
end Go.Ab
