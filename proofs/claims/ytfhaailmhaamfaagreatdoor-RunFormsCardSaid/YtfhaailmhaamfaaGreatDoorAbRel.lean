/- The relation between the abstract memory and the model's world; how both go on together. -/
import Derived.Test.YtfhaailmhaamfaaGreatDoorAbCore
namespace Go.Ab
open Go

mutual
theorem VRel.mono {e e' : Emb} (h : ∀ b i, e b = some i → e' b = some i) : ∀ {v : AV} {v' : Value}, VRel e v v' → VRel e' v v'
  | _, _, .bad v => .bad v
  | _, _, .i k n hk hn => .i k n hk hn
  | _, _, .b v => .b v
  | _, _, .s l c hc => .s l c hc
  | _, _, .p b o i hi => .p b o i (h _ _ hi)
  | _, _, .sl b o l c c' i hi hc => .sl b o l c c' i (h _ _ hi) hc
  | _, _, .slq b o a => .slq b o a
  | _, _, .nilp => .nilp
  | _, _, .nils => .nils
  | _, _, .nilm => .nilm
  | _, _, .nilf => .nilf
  | _, _, .nili => .nili
  | _, _, .m r i hi => .m r i (h _ _ hi)
  | _, _, .fn f a c a' c' ha hc => .fn f a c a' c' (VRels.mono h ha) (VRels.mono h hc)
  | _, _, .ifc t v v' hv => .ifc t v v' (VRel.mono h hv)
  | _, _, .agg l l' hl => .agg l l' (VRels.mono h hl)
  | _, _, .tup l l' hl => .tup l l' (VRels.mono h hl)
  | _, _, .fl b => .fl b
  | _, _, .sy m r n hn hi => .sy m r n hn hi
  | _, _, .rg k lo hi n hk hn h1 h2 => .rg k lo hi n hk hn h1 h2
theorem VRels.mono {e e' : Emb} (h : ∀ b i, e b = some i → e' b = some i) : ∀ {l : List AV} {l' : List Value}, VRels e l l' → VRels e' l l'
  | _, _, .nil => .nil
  | _, _, .cons hv ht => .cons (VRel.mono h hv) (VRels.mono h ht)
end

theorem VRels.length {e : Emb} : ∀ {l : List AV} {l' : List Value}, VRels e l l' → l.length = l'.length
  | _, _, .nil => rfl
  | _, _, .cons _ ht => by simp [VRels.length ht]
theorem VRels.append {e : Emb} : ∀ {l m : List AV} {l' m' : List Value}, VRels e l l' → VRels e m m' → VRels e (l ++ m) (l' ++ m')
  | _, _, _, _, .nil, h => h
  | _, _, _, _, .cons hv ht, h => .cons hv (VRels.append ht h)
theorem VRels.get {e : Emb} : ∀ {l : List AV} {l' : List Value}, VRels e l l' → ∀ {k : Nat} {v : AV}, l[k]? = some v → ∃ v', l'[k]? = some v' ∧ VRel e v v'
  | _, _, .nil, k, v, h => by simp at h
  | _, _, .cons hv ht, 0, v, h => by simp at h; subst h; exact ⟨_, by simp, hv⟩
  | _, _, .cons hv ht, k + 1, v, h => by simp at h; obtain ⟨v', h1, h2⟩ := VRels.get ht h; exact ⟨v', by simpa using h1, h2⟩
theorem VRels.of_get {e : Emb} : ∀ {l : List AV} {l' : List Value}, l.length = l'.length → (∀ (k : Nat) (v : AV) (v' : Value), l[k]? = some v → l'[k]? = some v' → VRel e v v') → VRels e l l'
  | [], [], _, _ => .nil
  | v :: l, v' :: l', hl, h => .cons (h 0 v v' (by simp) (by simp)) (VRels.of_get (by simpa using hl) fun k a a' h1 h2 => h (k + 1) a a' (by simpa using h1) (by simpa using h2))
  | [], _ :: _, hl, _ => by simp at hl
  | _ :: _, [], hl, _ => by simp at hl

/-! ### The heap -/
inductive ABlk where
  /-- cells: how many, which, may they be written, the element's size if the block may have room behind it (0: none) -/
  | c (len : Nat) (t : BT AV) (w : Bool) (sp : Nat)
  | m (es : List (AV × AV))
  | dead

structure AHeap where
  t : BT ABlk
  nxt : Nat
  low : Nat

noncomputable section
def AHeap.get (H : AHeap) (b : Nat) : Option ABlk :=
  Bool.rec (motive := fun _ => Option ABlk) none (H.t.get (Nat.sub (Nat.sub H.nxt 1) b)) (Nat.ble (Nat.add b 1) H.nxt)
def AHeap.alloc (H : AHeap) (x : ABlk) : AHeap := ⟨H.t.cons x, Nat.add H.nxt 1, H.low⟩
def AHeap.upd (H : AHeap) (b : Nat) (x : ABlk) : AHeap :=
  ⟨H.t.set x (Nat.sub (Nat.sub H.nxt 1) b), H.nxt, Bool.rec (motive := fun _ => Nat) H.low b (Nat.ble b H.low)⟩
def AHeap.withLow (H : AHeap) (n : Nat) : AHeap := ⟨H.t, H.nxt, n⟩

theorem ble_tt (a b : Nat) : (Nat.ble a b = true) = (a ≤ b) := propext ⟨Nat.le_of_ble_eq_true, Nat.ble_eq_true_of_le⟩

theorem AHeap.get_eq (H : AHeap) (b : Nat) : H.get b = if b < H.nxt then H.t.get (H.nxt - 1 - b) else none := by
  have h : H.get b = Bool.rec (motive := fun _ => Option ABlk) none (H.t.get (H.nxt - 1 - b)) (Nat.ble (b + 1) H.nxt) := rfl
  rw [h, brec]
  simp only [ble_tt]
  rfl
@[simp] theorem AHeap.nxt_alloc (H : AHeap) (x : ABlk) : (H.alloc x).nxt = H.nxt + 1 := rfl
@[simp] theorem AHeap.low_alloc (H : AHeap) (x : ABlk) : (H.alloc x).low = H.low := rfl
@[simp] theorem AHeap.nxt_upd (H : AHeap) (b : Nat) (x : ABlk) : (H.upd b x).nxt = H.nxt := rfl
theorem AHeap.low_upd (H : AHeap) (b : Nat) (x : ABlk) : (H.upd b x).low = if b ≤ H.low then b else H.low := by
  have h : (H.upd b x).low = Bool.rec (motive := fun _ => Nat) H.low b (Nat.ble b H.low) := rfl
  rw [h, brec]
  simp only [ble_tt]
@[simp] theorem AHeap.get_withLow (H : AHeap) (n b : Nat) : (H.withLow n).get b = H.get b := rfl
@[simp] theorem AHeap.nxt_withLow (H : AHeap) (n : Nat) : (H.withLow n).nxt = H.nxt := rfl
@[simp] theorem AHeap.low_withLow (H : AHeap) (n : Nat) : (H.withLow n).low = n := rfl
theorem AHeap.get_alloc (H : AHeap) (x : ABlk) (b : Nat) : (H.alloc x).get b = if b = H.nxt then some x else H.get b := by
  rw [AHeap.get_eq, AHeap.get_eq]
  simp only [AHeap.nxt_alloc]
  show (if b < H.nxt + 1 then (H.t.cons x).get (H.nxt + 1 - 1 - b) else none) = _
  rw [BT.get_cons]
  by_cases h : b = H.nxt
  · subst h; simp
  · rw [if_neg h]
    by_cases h1 : b < H.nxt
    · rw [if_pos (by omega), if_pos h1, if_neg (by omega)]
      congr 1; omega
    · rw [if_neg (by omega), if_neg h1]
theorem AHeap.get_upd (H : AHeap) (b : Nat) (x : ABlk) (hb : b < H.nxt) (c : Nat) : (H.upd b x).get c = if c = b then (H.get b).map (fun _ => x) else H.get c := by
  rw [AHeap.get_eq, AHeap.get_eq, AHeap.get_eq]
  simp only [AHeap.nxt_upd]
  show (if c < H.nxt then (H.t.set x (H.nxt - 1 - b)).get (H.nxt - 1 - c) else none) = _
  rw [BT.get_set]
  by_cases h : c = b
  · subst h; simp; split <;> rfl
  · rw [if_neg h]
    by_cases h1 : c < H.nxt
    · rw [if_pos h1, if_pos h1, if_neg (by omega)]
    · rw [if_neg h1, if_neg h1]
theorem AHeap.lt_of_get {H : AHeap} {b : Nat} {x : ABlk} (h : H.get b = some x) : b < H.nxt := by
  rw [AHeap.get_eq] at h
  split at h
  · assumption
  · cases h

def AHeap.owned (H : AHeap) (b : Nat) : Prop := (∃ n t sp, H.get b = some (.c n t true sp)) ∨ ∃ es, H.get b = some (.m es)
def AHeap.alive (H : AHeap) (b : Nat) : Prop := ∃ x, H.get b = some x ∧ x ≠ .dead

inductive MRel (e : Emb) : List (AV × AV) → List MapEntry → Prop
  | nil : MRel e [] []
  | cons {k v : AV} {m : MapEntry} {l : List (AV × AV)} {l' : List MapEntry} (hk : VRel e k m.key) (hv : VRel e v m.val) (t : MRel e l l') : MRel e ((k, v) :: l) (m :: l')

theorem MRel.mono {e e' : Emb} (h : ∀ b i, e b = some i → e' b = some i) : ∀ {l : List (AV × AV)} {l' : List MapEntry}, MRel e l l' → MRel e' l l'
  | _, _, .nil => .nil
  | _, _, .cons hk hv t => .cons (hk.mono h) (hv.mono h) (MRel.mono h t)

/-- A row of cells, as it lies. -/
def CRel (e : Emb) (i : Info) (n : Nat) (t : BT AV) (wr : Bool) (o : Option Obj) : Prop :=
  ∃ C ty z, o = some (.cells C ty z) ∧ C.size = i.room ∧ (wr = true → z.2 ≤ z.1) ∧ ∀ k, k < n → ∃ v v', t.get k = some v ∧ C[i.off + k]? = some v' ∧ VRel e v v'

/-- A block, as it lies. -/
def ORel (e : Emb) (i : Info) (x : ABlk) (o : Option Obj) : Prop :=
  match x with
  | .c n t wr sp => i.len = n ∧ i.sp = sp ∧ i.off + n ≤ i.room ∧ CRel e i n t wr o
  | .m es => ∃ es' ck, o = some (.map es' ck) ∧ MRel e es es'.toList
  | .dead => True

theorem ORel.mono {e e' : Emb} (h : ∀ b i, e b = some i → e' b = some i) {i : Info} {x : ABlk} {o : Option Obj} (hr : ORel e i x o) : ORel e' i x o := by
  cases x with
  | c n t wr sp =>
    obtain ⟨a, b, c, C, ty, z, d, f, g, k⟩ := hr
    exact ⟨a, b, c, C, ty, z, d, f, g, fun j hj => let ⟨v, v', x, y, q⟩ := k j hj; ⟨v, v', x, y, q.mono h⟩⟩
  | m es => obtain ⟨es', ck, a, b⟩ := hr; exact ⟨es', ck, a, b.mono h⟩
  | dead => trivial

structure Rel (G : Nat) (e : Emb) (H : AHeap) (w : World) : Prop where
  lt : ∀ b i, e b = some i → b < H.nxt
  bnd : ∀ b i, e b = some i → i.blk < w.heap.size
  glob : ∀ g, g < G → ∃ i, e g = some i ∧ i.blk = g ∧ i.off = 0
  obj : ∀ b i x, e b = some i → H.get b = some x → ORel e i x w.heap[i.blk]?
  sep : ∀ b1 i1 b2 i2, e b1 = some i1 → e b2 = some i2 → b1 ≠ b2 → H.owned b1 → H.alive b2 → i1.blk ≠ i2.blk

/-- From one world to another, and what the abstract memory says of it. -/
structure Evo (G : Nat) (e : Emb) (H : AHeap) (w : World) (e' : Emb) (H' : AHeap) (w' : World) : Prop where
  rel : Rel G e' H' w'
  ext : ∀ b i, e b = some i → e' b = some i
  size : w.heap.size ≤ w'.heap.size
  tape : w'.tape = w.tape
  os : w'.os = w.os
  out : w'.output = w.output
  nxt : H.nxt ≤ H'.nxt
  low : H'.low ≤ H.low
  same : ∀ b, b < H.nxt → b < H'.low → H'.get b = H.get b
  dead : ∀ b, H.get b = some .dead → H'.get b = some .dead
  fresh : ∀ b i, e b = none → e' b = some i → H.nxt ≤ b ∧ (w.heap.size ≤ i.blk ∨ ∃ b0 i0, e b0 = some i0 ∧ i0.blk = i.blk ∧ H.get b0 ≠ some .dead ∧ H'.low ≤ b0)
  frame : ∀ B, B < w.heap.size → (∀ b i, e b = some i → i.blk = B → H.get b = some .dead ∨ b < H'.low) → w'.heap[B]? = w.heap[B]?

theorem Evo.refl {G : Nat} {e : Emb} {H : AHeap} {w : World} (h : Rel G e H w) : Evo G e H w e H w where
  rel := h
  ext := fun _ _ h => h
  size := Nat.le_refl _
  tape := rfl
  os := rfl
  out := rfl
  nxt := Nat.le_refl _
  low := Nat.le_refl _
  same := fun _ _ _ => rfl
  dead := fun _ h => h
  fresh := fun b i h h' => by rw [h] at h'; cases h'
  frame := fun _ _ _ => rfl

theorem Evo.trans {G : Nat} {e e1 e2 : Emb} {H H1 H2 : AHeap} {w w1 w2 : World} (h : Evo G e H w e1 H1 w1) (g : Evo G e1 H1 w1 e2 H2 w2) : Evo G e H w e2 H2 w2 where
  rel := g.rel
  ext := fun b i hb => g.ext b i (h.ext b i hb)
  size := Nat.le_trans h.size g.size
  tape := g.tape.trans h.tape
  os := g.os.trans h.os
  out := g.out.trans h.out
  nxt := Nat.le_trans h.nxt g.nxt
  low := Nat.le_trans g.low h.low
  same := fun b hb hl => (g.same b (Nat.lt_of_lt_of_le hb h.nxt) hl).trans (h.same b hb (Nat.lt_of_lt_of_le hl g.low))
  dead := fun b hb => g.dead b (h.dead b hb)
  fresh := fun b i hb hi => by
    cases h1 : e1 b with
    | some i1 =>
      have h2 := g.ext b i1 h1
      rw [hi] at h2
      cases h2
      obtain ⟨hn, hc⟩ := h.fresh b i hb h1
      refine ⟨hn, ?_⟩
      rcases hc with hc | ⟨b0, i0, a, b', c, d⟩
      · exact .inl hc
      · exact .inr ⟨b0, i0, a, b', c, Nat.le_trans g.low d⟩
    | none =>
      obtain ⟨hn, hc⟩ := g.fresh b i h1 hi
      refine ⟨Nat.le_trans h.nxt hn, ?_⟩
      rcases hc with hc | ⟨b0, i0, a, b', c, d⟩
      · exact .inl (Nat.le_trans h.size hc)
      · cases h0 : e b0 with
        | some i00 =>
          have h2 := h.ext b0 i00 h0
          rw [a] at h2
          cases h2
          exact .inr ⟨b0, i0, h0, b', fun hd => c (h.dead b0 hd), d⟩
        | none =>
          obtain ⟨_, hc'⟩ := h.fresh b0 i0 h0 a
          rcases hc' with hc' | ⟨b1, i1, a1, b1', c1, d1⟩
          · exact .inl (b' ▸ hc')
          · exact .inr ⟨b1, i1, a1, b1'.trans b', c1, Nat.le_trans g.low d1⟩
  frame := fun B hB hc => by
    have h1 : w1.heap[B]? = w.heap[B]? := h.frame B hB fun b i hb hi => (hc b i hb hi).imp id fun hl => Nat.lt_of_lt_of_le hl g.low
    rw [← h1]
    refine g.frame B (Nat.lt_of_lt_of_le hB h.size) fun b i hb hi => ?_
    cases h0 : e b with
    | some i0 =>
      have h2 := h.ext b i0 h0
      rw [hb] at h2
      cases h2
      exact (hc b i h0 hi).imp (h.dead b) id
    | none =>
      obtain ⟨_, hc'⟩ := h.fresh b i h0 hb
      rcases hc' with hc' | ⟨b1, i1, a1, b1', c1, d1⟩
      · omega
      · rcases hc b1 i1 a1 (b1'.trans hi) with hd | hl
        · exact absurd hd c1
        · have := g.low; omega

/-- The count of changes begun anew, and taken up again behind. -/
theorem Evo.withLow {G : Nat} {e e' : Emb} {H H' : AHeap} {w w' : World} {n : Nat} (h : Evo G e (H.withLow n) w e' H' w') : Evo G e H w e' (H'.withLow (min H.low H'.low)) w' where
  rel := ⟨h.rel.lt, h.rel.bnd, h.rel.glob, h.rel.obj, h.rel.sep⟩
  ext := h.ext
  size := h.size
  tape := h.tape
  os := h.os
  out := h.out
  nxt := h.nxt
  low := Nat.min_le_left _ _
  same := fun b hb hl => h.same b hb (Nat.lt_of_lt_of_le hl (Nat.min_le_right _ _))
  dead := h.dead
  fresh := fun b i hb hi => by
    obtain ⟨hn, hc⟩ := h.fresh b i hb hi
    refine ⟨hn, hc.imp id ?_⟩
    rintro ⟨b0, i0, a, b', c, d⟩
    exact ⟨b0, i0, a, b', c, Nat.le_trans (Nat.min_le_right _ _) d⟩
  frame := fun B hB hc => h.frame B hB fun b i hb hi => (hc b i hb hi).imp id fun hl => Nat.lt_of_lt_of_le hl (Nat.min_le_right _ _)

theorem Rel.withLow {G : Nat} {e : Emb} {H : AHeap} {w : World} (n : Nat) (h : Rel G e H w) : Rel G e (H.withLow n) w :=
  ⟨h.lt, h.bnd, h.glob, h.obj, h.sep⟩

/-- What is new is forgotten: nothing that was there has changed. -/
theorem Evo.forget {G : Nat} {e e' : Emb} {H H' : AHeap} {w w' : World} (hr : Rel G e H w) (h : Evo G e (H.withLow H.nxt) w e' H' w') (hl : H.nxt ≤ H'.low) : Evo G e H w e H w' := by
  have hf : ∀ B, B < w.heap.size → w'.heap[B]? = w.heap[B]? := fun B hB => h.frame B hB fun b i hb _ => .inr (Nat.lt_of_lt_of_le (hr.lt b i hb) hl)
  exact {
    rel := {
      lt := hr.lt
      bnd := fun b i hb => Nat.lt_of_lt_of_le (hr.bnd b i hb) h.size
      glob := hr.glob
      obj := fun b i x hb hg => by rw [hf _ (hr.bnd b i hb)]; exact hr.obj b i x hb hg
      sep := hr.sep }
    ext := fun _ _ h => h
    size := h.size
    tape := h.tape
    os := h.os
    out := h.out
    nxt := Nat.le_refl _
    low := Nat.le_refl _
    same := fun _ _ _ => rfl
    dead := fun _ h => h
    fresh := fun b i h1 h2 => by rw [h1] at h2; cases h2
    frame := fun B hB _ => hf B hB }

/-! ### Three ways to go on: a new block; a block changed; a count of draws -/
theorem Rel.heap_eq {G : Nat} {e : Emb} {H : AHeap} {w w' : World} (h : Rel G e H w) (hw : w'.heap = w.heap) : Rel G e H w' :=
  ⟨h.lt, hw ▸ h.bnd, h.glob, hw ▸ h.obj, h.sep⟩

theorem Evo.drew {G : Nat} {e : Emb} {H : AHeap} {w : World} (h : Rel G e H w) (n : Nat) : Evo G e H w e H { w with drawn := n } where
  rel := h.heap_eq rfl
  ext := fun _ _ h => h
  size := Nat.le_refl _
  tape := rfl
  os := rfl
  out := rfl
  nxt := Nat.le_refl _
  low := Nat.le_refl _
  same := fun _ _ _ => rfl
  dead := fun _ h => h
  fresh := fun b i h h' => by rw [h] at h'; cases h'
  frame := fun _ _ _ => rfl

def Emb.put (e : Emb) (b : Nat) (i : Info) : Emb := fun c => if c = b then some i else e c

theorem Emb.put_ext {e : Emb} {b : Nat} {i : Info} (h : e b = none) : ∀ c j, e c = some j → e.put b i c = some j := fun c j hc => by
  unfold Emb.put
  split
  · subst_vars; rw [h] at hc; cases hc
  · exact hc
@[simp] theorem Emb.put_self (e : Emb) (b : Nat) (i : Info) : e.put b i b = some i := by simp [Emb.put]

theorem Rel.none_nxt {G : Nat} {e : Emb} {H : AHeap} {w : World} (h : Rel G e H w) : e H.nxt = none := by
  cases he : e H.nxt with
  | none => rfl
  | some i => exact absurd (h.lt _ _ he) (Nat.lt_irrefl _)

theorem Emb.put_cases {e : Emb} {b : Nat} {i : Info} {c : Nat} {j : Info} (hj : e.put b i c = some j) : (c = b ∧ j = i) ∨ (c ≠ b ∧ e c = some j) := by
  unfold Emb.put at hj
  split at hj
  · rename_i hc; exact .inl ⟨hc, by cases hj; rfl⟩
  · rename_i hc; exact .inr ⟨hc, hj⟩

theorem heap_alloc_old (w : World) (o : Obj) (B : Nat) (hB : B < w.heap.size) : (w.alloc o).heap[B]? = w.heap[B]? := by
  show (w.heap.push o)[B]? = _
  rw [Array.getElem?_push, if_neg (by omega)]
theorem heap_alloc_new (w : World) (o : Obj) : (w.alloc o).heap[w.heap.size]? = some o := by
  show (w.heap.push o)[w.heap.size]? = _
  simp

/-- A new block. -/
theorem Evo.alloc {G : Nat} {e : Emb} {H : AHeap} {w : World} (h : Rel G e H w) (x : ABlk) (o : Obj) (i : Info) (hi : i.blk = w.heap.size) (hx : ORel e i x (some o)) :
    Evo G e H w (e.put H.nxt i) (H.alloc x) (w.alloc o) := by
  have h0 := h.none_nxt
  have hext := Emb.put_ext (i := i) h0
  have hget : ∀ c, c ≠ H.nxt → (H.alloc x).get c = H.get c := fun c hc => by rw [AHeap.get_alloc, if_neg hc]
  have hgetn : (H.alloc x).get H.nxt = some x := by rw [AHeap.get_alloc, if_pos rfl]
  refine { rel := ?_, ext := hext, size := by simp, tape := rfl, os := rfl, out := rfl, nxt := by simp, low := by simp, same := ?_, dead := ?_, fresh := ?_, frame := fun B hB _ => heap_alloc_old w o B hB }
  · refine { lt := ?_, bnd := ?_, glob := ?_, obj := ?_, sep := ?_ }
    · intro c j hj
      rcases Emb.put_cases hj with ⟨rfl, _⟩ | ⟨_, hj⟩
      · simp
      · have := h.lt c j hj; simp; omega
    · intro c j hj
      rcases Emb.put_cases hj with ⟨_, rfl⟩ | ⟨_, hj⟩
      · simp; omega
      · have := h.bnd c j hj; simp; omega
    · intro g hg
      obtain ⟨i, hi, a, b⟩ := h.glob g hg
      exact ⟨i, hext g i hi, a, b⟩
    · intro c j y hj hg
      rcases Emb.put_cases hj with ⟨rfl, rfl⟩ | ⟨hne, hj⟩
      · rw [hgetn] at hg
        cases hg
        rw [hi, heap_alloc_new]
        exact hx.mono hext
      · rw [hget c hne] at hg
        rw [heap_alloc_old _ _ _ (h.bnd c j hj)]
        exact (h.obj c j y hj hg).mono hext
    · intro b1 i1 b2 i2 h1 h2 hne ho ha
      have own : ∀ c, c ≠ H.nxt → (H.alloc x).owned c → H.owned c := fun c hc ho => by
        unfold AHeap.owned at *; rwa [hget c hc] at ho
      have al : ∀ c, c ≠ H.nxt → (H.alloc x).alive c → H.alive c := fun c hc ho => by
        unfold AHeap.alive at *; rwa [hget c hc] at ho
      rcases Emb.put_cases h1 with ⟨rfl, rfl⟩ | ⟨hn1, q1⟩ <;> rcases Emb.put_cases h2 with ⟨rfl, rfl⟩ | ⟨hn2, q2⟩
      · exact absurd rfl hne
      · have := h.bnd b2 i2 q2; omega
      · have := h.bnd b1 i1 q1; omega
      · exact h.sep b1 i1 b2 i2 q1 q2 hne (own b1 hn1 ho) (al b2 hn2 ha)
  · intro b hb _; exact hget b (by omega)
  · intro b hb
    rw [hget b (by intro h; subst h; have := AHeap.lt_of_get hb; omega)]
    exact hb
  · intro b j hb hj
    rcases Emb.put_cases hj with ⟨rfl, rfl⟩ | ⟨_, hj⟩
    · exact ⟨Nat.le_refl _, .inl (by omega)⟩
    · rw [hb] at hj; cases hj

theorem AHeap.owned_alive {H : AHeap} {b : Nat} (h : H.owned b) : H.alive b := by
  rcases h with ⟨n, t, sp, h⟩ | ⟨es, h⟩
  · exact ⟨_, h, by simp⟩
  · exact ⟨_, h, by simp⟩

/-- A block of one's own, changed. -/
theorem Evo.change {G : Nat} {e : Emb} {H : AHeap} {w w' : World} (h : Rel G e H w) {b : Nat} {i : Info} (hb : e b = some i) (ho : H.owned b) (x : ABlk) (o : Obj)
    (hw : w'.heap = w.heap.setIfInBounds i.blk o) (ht : w'.tape = w.tape) (hos : w'.os = w.os) (hout : w'.output = w.output) (hx : ORel e i x (some o)) :
    Evo G e H w e (H.upd b x) w' := by
  have hlt := h.lt b i hb
  have hblk := h.bnd b i hb
  have hget : ∀ c, c ≠ b → (H.upd b x).get c = H.get c := fun c hc => by rw [AHeap.get_upd _ _ _ hlt, if_neg hc]
  have hgetb : (H.upd b x).get b = some x := by
    rw [AHeap.get_upd _ _ _ hlt, if_pos rfl]
    obtain ⟨y, hy, _⟩ := AHeap.owned_alive ho
    rw [hy]; rfl
  have hold : ∀ B, B ≠ i.blk → w'.heap[B]? = w.heap[B]? := fun B hB => by
    rw [hw, Array.getElem?_setIfInBounds, if_neg (Ne.symm hB)]
  have hnew : w'.heap[i.blk]? = some o := by
    rw [hw, Array.getElem?_setIfInBounds, if_pos rfl, if_pos hblk]
  have hlow : (H.upd b x).low ≤ b := by rw [AHeap.low_upd]; split <;> omega
  refine { rel := ?_, ext := fun _ _ h => h, size := by rw [hw]; simp, tape := ht, os := hos, out := hout, nxt := by simp, low := by rw [AHeap.low_upd]; split <;> omega, same := ?_, dead := ?_, fresh := fun c j h1 h2 => (by rw [h1] at h2; cases h2), frame := ?_ }
  · refine { lt := fun c j hj => by simpa using h.lt c j hj, bnd := fun c j hj => by rw [hw]; simpa using h.bnd c j hj, glob := h.glob, obj := ?_, sep := ?_ }
    · intro c j y hj hg
      by_cases hc : c = b
      · subst hc
        rw [hb] at hj; cases hj
        rw [hgetb] at hg; cases hg
        rw [hnew]; exact hx
      · rw [hget c hc] at hg
        cases y with
        | dead => trivial
        | c n t wr sp =>
          rw [hold _ (Ne.symm (h.sep b i c j hb hj (Ne.symm hc) ho ⟨_, hg, by simp⟩))]
          exact h.obj c j _ hj hg
        | m es =>
          rw [hold _ (Ne.symm (h.sep b i c j hb hj (Ne.symm hc) ho ⟨_, hg, by simp⟩))]
          exact h.obj c j _ hj hg
    · intro b1 i1 b2 i2 h1 h2 hne ho1 ha2
      have own : ∀ c, c ≠ b → (H.upd b x).owned c → H.owned c := fun c hc ho => by
        unfold AHeap.owned at *; rwa [hget c hc] at ho
      have al : ∀ c, c ≠ b → (H.upd b x).alive c → H.alive c := fun c hc ho => by
        unfold AHeap.alive at *; rwa [hget c hc] at ho
      by_cases e1 : b1 = b
      · subst e1
        exact h.sep b1 i1 b2 i2 h1 h2 hne ho (al b2 (Ne.symm hne) ha2)
      · by_cases e2 : b2 = b
        · subst e2
          exact h.sep b1 i1 b2 i2 h1 h2 hne (own b1 e1 ho1) (AHeap.owned_alive ho)
        · exact h.sep b1 i1 b2 i2 h1 h2 hne (own b1 e1 ho1) (al b2 e2 ha2)
  · intro c _ hl; exact hget c (by omega)
  · intro c hc
    have hne : c ≠ b := by
      intro he; subst he
      rcases ho with ⟨n, t, sp, h⟩ | ⟨es, h⟩ <;> rw [hc] at h <;> cases h
    rw [hget c hne]; exact hc
  · intro B hB hcond
    by_cases hBe : B = i.blk
    · subst hBe
      rcases hcond b i hb rfl with hd | hl
      · rcases ho with ⟨n, t, sp, h⟩ | ⟨es, h⟩ <;> rw [hd] at h <;> cases h
      · omega
    · exact hold B hBe

/-- A row of one's own that may have room behind it, grown in its place: the elder block is dead, a new one stands for the whole. -/
theorem Evo.growIn {G : Nat} {e : Emb} {H : AHeap} {w w' : World} (h : Rel G e H w) {b : Nat} {i : Info} (hb : e b = some i) (ho : H.owned b) (x : ABlk) (o : Obj) (j : Info) (hj : j.blk = i.blk)
    (hw : w'.heap = w.heap.setIfInBounds i.blk o) (ht : w'.tape = w.tape) (hos : w'.os = w.os) (hout : w'.output = w.output) (hx : ORel e j x (some o)) :
    Evo G e H w (e.put H.nxt j) ((H.upd b .dead).alloc x) w' := by
  have h1 : Evo G e H w e (H.upd b .dead) w' := Evo.change h hb ho .dead o hw ht hos hout trivial
  have hr := h1.rel
  have hn : (H.upd b .dead).nxt = H.nxt := rfl
  have h0 : e H.nxt = none := h.none_nxt
  have hext := Emb.put_ext (i := j) h0
  have hlt := h.lt b i hb
  have hget : ∀ c, c ≠ H.nxt → ((H.upd b .dead).alloc x).get c = (H.upd b .dead).get c := fun c hc => by rw [AHeap.get_alloc, hn, if_neg hc]
  have hgetn : ((H.upd b .dead).alloc x).get H.nxt = some x := by rw [AHeap.get_alloc, if_pos hn.symm]
  have hdead : (H.upd b .dead).get b = some .dead := by
    rw [AHeap.get_upd _ _ _ hlt, if_pos rfl]
    obtain ⟨y, hy, _⟩ := AHeap.owned_alive ho
    rw [hy]; rfl
  have hgetu : ∀ c, c ≠ b → (H.upd b .dead).get c = H.get c := fun c hc => by rw [AHeap.get_upd _ _ _ hlt, if_neg hc]
  have hnew : w'.heap[i.blk]? = some o := by
    rw [hw, Array.getElem?_setIfInBounds, if_pos rfl, if_pos (h.bnd b i hb)]
  have hlow : (H.upd b .dead).low ≤ b := by rw [AHeap.low_upd]; split <;> omega
  -- no other living block lies there
  have hother : ∀ c k, e c = some k → (H.upd b .dead).alive c → k.blk ≠ i.blk := fun c k hc ha => by
    by_cases hcb : c = b
    · subst hcb
      obtain ⟨y, hy, hyd⟩ := ha
      rw [hdead] at hy; cases hy; exact absurd rfl hyd
    · have ha' : H.alive c := by unfold AHeap.alive at *; rwa [hgetu c hcb] at ha
      exact Ne.symm (h.sep b i c k hb hc (Ne.symm hcb) ho ha')
  refine { rel := ?_, ext := hext, size := h1.size, tape := ht, os := hos, out := hout, nxt := by simp, low := by rw [AHeap.low_alloc]; exact h1.low, same := ?_, dead := ?_, fresh := ?_, frame := fun B hB hc => h1.frame B hB (by rw [AHeap.low_alloc] at hc; exact hc) }
  · refine { lt := ?_, bnd := ?_, glob := ?_, obj := ?_, sep := ?_ }
    · intro c k hk
      rcases Emb.put_cases hk with ⟨rfl, _⟩ | ⟨_, hk⟩
      · simp
      · have := h.lt c k hk; simp; omega
    · intro c k hk
      rcases Emb.put_cases hk with ⟨_, rfl⟩ | ⟨_, hk⟩
      · rw [hj]; exact hr.bnd b i hb
      · exact hr.bnd c k hk
    · intro g hg
      obtain ⟨i, hi, a, b⟩ := h.glob g hg
      exact ⟨i, hext g i hi, a, b⟩
    · intro c k y hk hg
      rcases Emb.put_cases hk with ⟨rfl, rfl⟩ | ⟨hne, hk⟩
      · rw [hgetn] at hg
        cases hg
        rw [hj, hnew]
        exact hx.mono hext
      · rw [hget c hne] at hg
        exact (hr.obj c k y hk hg).mono hext
    · intro b1 i1 b2 i2 q1 q2 hne ho1 ha2
      have own : ∀ c, c ≠ H.nxt → ((H.upd b .dead).alloc x).owned c → (H.upd b .dead).owned c := fun c hc ho => by
        unfold AHeap.owned at *; rwa [hget c hc] at ho
      have al : ∀ c, c ≠ H.nxt → ((H.upd b .dead).alloc x).alive c → (H.upd b .dead).alive c := fun c hc ho => by
        unfold AHeap.alive at *; rwa [hget c hc] at ho
      rcases Emb.put_cases q1 with ⟨rfl, rfl⟩ | ⟨hn1, p1⟩ <;> rcases Emb.put_cases q2 with ⟨rfl, rfl⟩ | ⟨hn2, p2⟩
      · exact absurd rfl hne
      · rw [hj]; exact Ne.symm (hother b2 i2 p2 (al b2 hn2 ha2))
      · rw [hj]; exact hother b1 i1 p1 (AHeap.owned_alive (own b1 hn1 ho1))
      · exact hr.sep b1 i1 b2 i2 p1 p2 hne (own b1 hn1 ho1) (al b2 hn2 ha2)
  · intro c hc hl
    rw [hget c (by omega)]
    exact h1.same c hc (by rw [AHeap.low_alloc] at hl; exact hl)
  · intro c hc
    rw [hget c (by intro he; subst he; have := AHeap.lt_of_get hc; omega)]
    exact h1.dead c hc
  · intro c k hc hk
    rcases Emb.put_cases hk with ⟨rfl, rfl⟩ | ⟨_, hk⟩
    · refine ⟨Nat.le_refl _, .inr ⟨b, i, hb, hj.symm, ?_, ?_⟩⟩
      · intro hd
        rcases ho with ⟨n, t, sp, h⟩ | ⟨es, h⟩ <;> rw [hd] at h <;> cases h
      · rw [AHeap.low_alloc]; exact hlow
    · rw [hc] at hk; cases hk
end
end Go.Ab
