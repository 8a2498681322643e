/- A logic over an abstract memory, and that it is sound (1 of 9). -/
import Derived.Calls
import Derived.Defers
import Derived.Laws.Cells
import Derived.Laws.Append
import Derived.Laws.World
import Derived.Laws.Slices
import Derived.Laws.Strings2
/-
 An abstract memory for Go runs: blocks by number, no capacities, no draws; its relation to the model's world.
-/
namespace Go.Ab
open Go
inductive BT (α : Type) where
 | lf : BT α
 | nd (l : BT α) (v : α) (r : BT α) : BT α
noncomputable section
def BT.get {α : Type} (t : BT α) : Nat → Option α :=
 BT.rec (motive := fun _ => Nat → Option α) (fun _ => none)
  (fun _ v _ il ir i => Bool.rec (motive := fun _ => Option α)
   (Bool.rec (motive := fun _ => Option α) (ir (Nat.sub (Nat.div i 2) 1)) (il (Nat.div i 2)) (Nat.beq (Nat.mod i 2) 1)) (some v) (Nat.beq i 0)) t
def BT.set {α : Type} (a : α) (t : BT α) : Nat → BT α :=
 BT.rec (motive := fun _ => Nat → BT α) (fun _ => .lf)
  (fun l v r il ir i => Bool.rec (motive := fun _ => BT α)
   (Bool.rec (motive := fun _ => BT α) (.nd l v (ir (Nat.sub (Nat.div i 2) 1))) (.nd (il (Nat.div i 2)) v r) (Nat.beq (Nat.mod i 2) 1)) (.nd l a r) (Nat.beq i 0)) t
def BT.cons {α : Type} (t : BT α) : α → BT α :=
 BT.rec (motive := fun _ => α → BT α) (fun x => .nd .lf x .lf) (fun l y _ _ ir x => .nd (ir y) x l) t
def BT.ofList {α : Type} (l : List α) : BT α := List.rec (motive := fun _ => BT α) .lf (fun a _ ih => ih.cons a) l
section
variable {α : Type}
@[simp] theorem BT.get_lf (i : Nat) : (BT.lf : BT α).get i = none := rfl
theorem brec {C : Type} (a b : C) (x : Bool) : Bool.rec (motive := fun _ => C) a b x = if x = true then b else a := by cases x <;> rfl
theorem beq_tt (a b : Nat) : (Nat.beq a b = true) = (a = b) := propext ⟨Nat.eq_of_beq_eq_true, fun h => by subst h; exact Nat.beq_refl a⟩
theorem BT.get_nd (l r : BT α) (v : α) (i : Nat) : (BT.nd l v r).get i =
  if i = 0 then some v else if i % 2 = 1 then l.get (i / 2) else r.get (i / 2 - 1) := by
 have h : (BT.nd l v r).get i = Bool.rec (motive := fun _ => Option α)
   (Bool.rec (motive := fun _ => Option α) (r.get (Nat.sub (Nat.div i 2) 1)) (l.get (Nat.div i 2)) (Nat.beq (Nat.mod i 2) 1)) (some v) (Nat.beq i 0) := rfl
 rw [h, brec, brec]
 simp only [beq_tt]
 rfl
theorem BT.set_nd (l r : BT α) (v a : α) (i : Nat) : (BT.nd l v r).set a i =
  if i = 0 then .nd l a r else if i % 2 = 1 then .nd (l.set a (i / 2)) v r else .nd l v (r.set a (i / 2 - 1)) := by
 have h : (BT.nd l v r).set a i = Bool.rec (motive := fun _ => BT α)
   (Bool.rec (motive := fun _ => BT α) (.nd l v (r.set a (Nat.sub (Nat.div i 2) 1))) (.nd (l.set a (Nat.div i 2)) v r) (Nat.beq (Nat.mod i 2) 1)) (.nd l a r) (Nat.beq i 0) := rfl
 rw [h, brec, brec]
 simp only [beq_tt]
 rfl
@[simp] theorem BT.cons_lf (x : α) : (BT.lf : BT α).cons x = .nd .lf x .lf := rfl
@[simp] theorem BT.cons_nd (l r : BT α) (y x : α) : (BT.nd l y r).cons x = .nd (r.cons y) x l := rfl
theorem BT.get_set (t : BT α) (a : α) : ∀ (i j : Nat), (t.set a i).get j = if j = i then (t.get i).map (fun _ => a) else t.get j := by
 induction t with
 | lf => intro i j; show (BT.lf : BT α).get j = _; simp
 | nd l v r il ir =>
  intro i j
  rw [BT.set_nd]
  by_cases hi : i = 0
  · subst hi
    rw [if_pos rfl, BT.get_nd, BT.get_nd, BT.get_nd]
    by_cases hj : j = 0 <;> simp [hj]
  · rw [if_neg hi]
    by_cases hm : i % 2 = 1
    · rw [if_pos hm]
      simp only [BT.get_nd, il, if_neg hi, if_pos hm]
      by_cases hj : j = 0
      · subst hj; simp [Ne.symm hi]
      · by_cases hjm : j % 2 = 1
        · simp only [if_neg hj, if_pos hjm]
          by_cases he : j = i
          · simp [he]
          · have : ¬ (j / 2 = i / 2) := by omega
            simp [he, this]
        · simp only [if_neg hj, if_neg hjm]
          have : j ≠ i := by intro h; subst h; exact hjm hm
          simp [this]
    · rw [if_neg hm]
      simp only [BT.get_nd, ir, if_neg hi, if_neg hm]
      by_cases hj : j = 0
      · subst hj; simp [Ne.symm hi]
      · by_cases hjm : j % 2 = 1
        · simp only [if_neg hj, if_pos hjm]
          have : j ≠ i := by intro h; subst h; exact hm hjm
          simp [this]
        · simp only [if_neg hj, if_neg hjm]
          by_cases he : j = i
          · simp [he]
          · have : ¬ (j / 2 - 1 = i / 2 - 1) := by omega
            simp [he, this]
theorem BT.get_cons (t : BT α) : ∀ (x : α) (i : Nat), (t.cons x).get i = if i = 0 then some x else t.get (i - 1) := by
 induction t with
 | lf =>
  intro x i
  rw [BT.cons_lf, BT.get_nd]
  by_cases h : i = 0 <;> simp [h]
 | nd l y r _ ir =>
  intro x i
  rw [BT.cons_nd, BT.get_nd]
  by_cases h : i = 0
  · simp [h]
  · rw [if_neg h, if_neg h, BT.get_nd]
    by_cases hm : i % 2 = 1
    · rw [if_pos hm, ir]
      by_cases h1 : i = 1
      · subst h1; simp
      · have e1 : ¬ (i / 2 = 0) := by omega
        have e2 : ¬ (i - 1 = 0) := by omega
        have e3 : ¬ ((i - 1) % 2 = 1) := by omega
        rw [if_neg e1, if_neg e2, if_neg e3]
        congr 1; omega
    · have e2 : ¬ (i - 1 = 0) := by omega
      have e3 : (i - 1) % 2 = 1 := by omega
      rw [if_neg hm, if_neg e2, if_pos e3]
      congr 1; omega
theorem BT.get_ofList : ∀ (l : List α) (i : Nat), (BT.ofList l).get i = l[i]?
 | [], i => by show (BT.lf : BT α).get i = _; simp
 | a :: l, i => by
  show ((BT.ofList l).cons a).get i = _
  rw [BT.get_cons, BT.get_ofList l]
  cases i <;> simp
end
inductive AVp (X : Type) where
  | i (k n : Nat)
 | b (v : Bool)
  | s (len code : Nat)
 | p (b o : Nat)
 | sl (b o len cap : Nat)
 | x (v : X)
inductive AX where
 | bad
 | nilp | nils | nilm | nilf | nili
 | m (r : Nat)
 | fn (f : Nat) (first captured : List (AVp AX))
 | ifc (t : Nat) (v : AVp AX)
 | agg (l : List (AVp AX))
 | tup (l : List (AVp AX))
 | fl (bits : Nat)
  | sy (m r : Nat)
  | rg (k lo hi : Nat)
  | xs (b o len : Nat)
abbrev AV := AVp AX
def kindOf : Nat → IntKind
 | 0 => .i8 | 1 => .i16 | 2 => .i32 | 3 => .i64 | 4 => .u8 | 5 => .u16 | 6 => .u32 | _ => .u64
def bytesOf : Nat → Nat → List UInt8
 | 0, _ => []
 | n + 1, c => UInt8.ofNat (c % 256) :: bytesOf n (c / 256)
structure Info where
 blk : Nat
 off : Nat
 len : Nat
 sp : Nat
 room : Nat
abbrev Emb := Nat → Option Info
def CapOk (i : Info) (o cap cap' : Nat) : Prop :=
 cap' = cap ∨ (0 < i.sp ∧ o + cap * i.sp = i.len ∧ cap ≤ cap' ∧ i.off + o + cap' * i.sp ≤ i.room)
mutual
inductive VRel (e : Emb) : AV → Value → Prop
 | bad (v : Value) : VRel e (.x .bad) v
 | i (k n : Nat) (hk : k < 8) (hn : n < 2 ^ (kindOf k).bits) : VRel e (.i k n) (.int (kindOf k) ((kindOf k).wrap (n : Int)))
 | b (v : Bool) : VRel e (.b v) (.bool v)
 | s (len code : Nat) (h : code < 256 ^ len) : VRel e (.s len code) (.string ⟨(bytesOf len code).toArray⟩)
 | p (b o : Nat) (i : Info) (h : e b = some i) : VRel e (.p b o) (.pointer (some ⟨i.blk, i.off + o, none⟩))
 | sl (b o len cap cap' : Nat) (i : Info) (h : e b = some i) (hc : CapOk i o cap cap') :
    VRel e (.sl b o len cap) (.slice (some ⟨i.blk, i.off + o, none⟩) len cap')
 | slq (b o : Nat) (a : Addr) : VRel e (.sl b o 0 0) (.slice (some a) 0 0)
 | nilp : VRel e (.x .nilp) (.pointer none)
 | nils : VRel e (.x .nils) (.slice none 0 0)
 | nilm : VRel e (.x .nilm) (.map none)
 | nilf : VRel e (.x .nilf) .nilFunc
 | nili : VRel e (.x .nili) .nilIface
 | m (r : Nat) (i : Info) (h : e r = some i) : VRel e (.x (.m r)) (.map (some i.blk))
 | fn (f : Nat) (a c : List AV) (a' c' : List Value) (ha : VRels e a a') (hc : VRels e c c') : VRel e (.x (.fn f a c)) (.func (.func f) a'.toArray c'.toArray)
 | ifc (t : Nat) (v : AV) (v' : Value) (h : VRel e v v') : VRel e (.x (.ifc t v)) (.iface t v')
 | agg (l : List AV) (l' : List Value) (h : VRels e l l') : VRel e (.x (.agg l)) (.agg l'.toArray)
 | tup (l : List AV) (l' : List Value) (h : VRels e l l') : VRel e (.x (.tup l)) (.tuple l'.toArray)
 | fl (bits : Nat) : VRel e (.x (.fl bits)) (.float .f64 bits)
 | sy (m r n : Nat) (hn : n < 2 ^ (kindOf 3).bits) (h : ∃ q : Nat, (kindOf 3).wrap (n : Int) % (m : Int) = q ∧ r / 65536 ≤ q ∧ q ≤ r % 65536) : VRel e (.x (.sy m r)) (.int (kindOf 3) ((kindOf 3).wrap (n : Int)))
 | rg (k lo hi n : Nat) (hk : k < 8) (hn : n < 2 ^ (kindOf k).bits) (h1 : lo ≤ n) (h2 : n ≤ hi) : VRel e (.x (.rg k lo hi)) (.int (kindOf k) ((kindOf k).wrap (n : Int)))
 | xs (b o len : Nat) (i : Info) (h : e b = some i) : VRel e (.x (.xs b o len)) (.slice (some ⟨i.blk, i.off + o, none⟩) len len)
inductive VRels (e : Emb) : List AV → List Value → Prop
 | nil : VRels e [] []
 | cons {v : AV} {v' : Value} {l : List AV} {l' : List Value} (h : VRel e v v') (t : VRels e l l') : VRels e (v :: l) (v' :: l')
end
end
end Go.Ab
namespace Go.Ab
open Go
mutual
theorem VRel.mono {e e' : Emb} (h : ∀ b i, e b = some i → e' b = some i) : ∀ {v : AV} {v' : Value}, VRel e v v' → VRel e' v v'
 | _, _, .bad v => .bad v
 | _, _, .i k n hk hn => .i k n hk hn
 | _, _, .b v => .b v
 | _, _, .s l c hc => .s l c hc
 | _, _, .p b o i hi => .p b o i (h _ _ hi)
 | _, _, .sl b o l c c' i hi hc => .sl b o l c c' i (h _ _ hi) hc
 | _, _, .slq b o a => .slq b o a
 | _, _, .nilp => .nilp
 | _, _, .nils => .nils
 | _, _, .nilm => .nilm
 | _, _, .nilf => .nilf
 | _, _, .nili => .nili
 | _, _, .m r i hi => .m r i (h _ _ hi)
 | _, _, .fn f a c a' c' ha hc => .fn f a c a' c' (VRels.mono h ha) (VRels.mono h hc)
 | _, _, .ifc t v v' hv => .ifc t v v' (VRel.mono h hv)
 | _, _, .agg l l' hl => .agg l l' (VRels.mono h hl)
 | _, _, .tup l l' hl => .tup l l' (VRels.mono h hl)
 | _, _, .fl b => .fl b
 | _, _, .sy m r n hn hi => .sy m r n hn hi
 | _, _, .rg k lo hi n hk hn h1 h2 => .rg k lo hi n hk hn h1 h2
 | _, _, .xs b o l i hi => .xs b o l i (h _ _ hi)
theorem VRels.mono {e e' : Emb} (h : ∀ b i, e b = some i → e' b = some i) : ∀ {l : List AV} {l' : List Value}, VRels e l l' → VRels e' l l'
 | _, _, .nil => .nil
 | _, _, .cons hv ht => .cons (VRel.mono h hv) (VRels.mono h ht)
end
theorem VRels.length {e : Emb} : ∀ {l : List AV} {l' : List Value}, VRels e l l' → l.length = l'.length
 | _, _, .nil => rfl
 | _, _, .cons _ ht => by simp [VRels.length ht]
theorem VRels.append {e : Emb} : ∀ {l m : List AV} {l' m' : List Value}, VRels e l l' → VRels e m m' → VRels e (l ++ m) (l' ++ m')
 | _, _, _, _, .nil, h => h
 | _, _, _, _, .cons hv ht, h => .cons hv (VRels.append ht h)
theorem VRels.get {e : Emb} : ∀ {l : List AV} {l' : List Value}, VRels e l l' → ∀ {k : Nat} {v : AV}, l[k]? = some v → ∃ v', l'[k]? = some v' ∧ VRel e v v'
 | _, _, .nil, k, v, h => by simp at h
 | _, _, .cons hv ht, 0, v, h => by simp at h; subst h; exact ⟨_, by simp, hv⟩
 | _, _, .cons hv ht, k + 1, v, h => by simp at h; obtain ⟨v', h1, h2⟩ := VRels.get ht h; exact ⟨v', by simpa using h1, h2⟩
theorem VRels.of_get {e : Emb} : ∀ {l : List AV} {l' : List Value}, l.length = l'.length → (∀ (k : Nat) (v : AV) (v' : Value), l[k]? = some v → l'[k]? = some v' → VRel e v v') → VRels e l l'
 | [], [], _, _ => .nil
 | v :: l, v' :: l', hl, h => .cons (h 0 v v' (by simp) (by simp)) (VRels.of_get (by simpa using hl) fun k a a' h1 h2 => h (k + 1) a a' (by simpa using h1) (by simpa using h2))
 | [], _ :: _, hl, _ => by simp at hl
 | _ :: _, [], hl, _ => by simp at hl
inductive ABlk where
  | c (len : Nat) (t : BT AV) (w : Bool) (sp : Nat)
 | m (es : List (AV × AV))
 | dead
structure AHeap where
 t : BT ABlk
 nxt : Nat
 low : Nat
noncomputable section
def AHeap.get (H : AHeap) (b : Nat) : Option ABlk :=
 Bool.rec (motive := fun _ => Option ABlk) none (H.t.get (Nat.sub (Nat.sub H.nxt 1) b)) (Nat.ble (Nat.add b 1) H.nxt)
def AHeap.alloc (H : AHeap) (x : ABlk) : AHeap := ⟨H.t.cons x, Nat.add H.nxt 1, H.low⟩
def AHeap.upd (H : AHeap) (b : Nat) (x : ABlk) : AHeap :=
 ⟨H.t.set x (Nat.sub (Nat.sub H.nxt 1) b), H.nxt, Bool.rec (motive := fun _ => Nat) H.low b (Nat.ble b H.low)⟩
def AHeap.withLow (H : AHeap) (n : Nat) : AHeap := ⟨H.t, H.nxt, n⟩
theorem ble_tt (a b : Nat) : (Nat.ble a b = true) = (a ≤ b) := propext ⟨Nat.le_of_ble_eq_true, Nat.ble_eq_true_of_le⟩
theorem AHeap.get_eq (H : AHeap) (b : Nat) : H.get b = if b < H.nxt then H.t.get (H.nxt - 1 - b) else none := by
 have h : H.get b = Bool.rec (motive := fun _ => Option ABlk) none (H.t.get (H.nxt - 1 - b)) (Nat.ble (b + 1) H.nxt) := rfl
 rw [h, brec]
 simp only [ble_tt]
 rfl
@[simp] theorem AHeap.nxt_alloc (H : AHeap) (x : ABlk) : (H.alloc x).nxt = H.nxt + 1 := rfl
@[simp] theorem AHeap.low_alloc (H : AHeap) (x : ABlk) : (H.alloc x).low = H.low := rfl
@[simp] theorem AHeap.nxt_upd (H : AHeap) (b : Nat) (x : ABlk) : (H.upd b x).nxt = H.nxt := rfl
theorem AHeap.low_upd (H : AHeap) (b : Nat) (x : ABlk) : (H.upd b x).low = if b ≤ H.low then b else H.low := by
 have h : (H.upd b x).low = Bool.rec (motive := fun _ => Nat) H.low b (Nat.ble b H.low) := rfl
 rw [h, brec]
 simp only [ble_tt]
@[simp] theorem AHeap.get_withLow (H : AHeap) (n b : Nat) : (H.withLow n).get b = H.get b := rfl
@[simp] theorem AHeap.nxt_withLow (H : AHeap) (n : Nat) : (H.withLow n).nxt = H.nxt := rfl
@[simp] theorem AHeap.low_withLow (H : AHeap) (n : Nat) : (H.withLow n).low = n := rfl
theorem AHeap.get_alloc (H : AHeap) (x : ABlk) (b : Nat) : (H.alloc x).get b = if b = H.nxt then some x else H.get b := by
 rw [AHeap.get_eq, AHeap.get_eq]
 simp only [AHeap.nxt_alloc]
 show (if b < H.nxt + 1 then (H.t.cons x).get (H.nxt + 1 - 1 - b) else none) = _
 rw [BT.get_cons]
 by_cases h : b = H.nxt
 · subst h; simp
 · rw [if_neg h]
   by_cases h1 : b < H.nxt
   · rw [if_pos (by omega), if_pos h1, if_neg (by omega)]
     congr 1; omega
   · rw [if_neg (by omega), if_neg h1]
theorem AHeap.get_upd (H : AHeap) (b : Nat) (x : ABlk) (hb : b < H.nxt) (c : Nat) : (H.upd b x).get c = if c = b then (H.get b).map (fun _ => x) else H.get c := by
 rw [AHeap.get_eq, AHeap.get_eq, AHeap.get_eq]
 simp only [AHeap.nxt_upd]
 show (if c < H.nxt then (H.t.set x (H.nxt - 1 - b)).get (H.nxt - 1 - c) else none) = _
 rw [BT.get_set]
 by_cases h : c = b
 · subst h; simp; split <;> rfl
 · rw [if_neg h]
   by_cases h1 : c < H.nxt
   · rw [if_pos h1, if_pos h1, if_neg (by omega)]
   · rw [if_neg h1, if_neg h1]
theorem AHeap.lt_of_get {H : AHeap} {b : Nat} {x : ABlk} (h : H.get b = some x) : b < H.nxt := by
 rw [AHeap.get_eq] at h
 split at h
 · assumption
 · cases h
def AHeap.owned (H : AHeap) (b : Nat) : Prop := (∃ n t sp, H.get b = some (.c n t true sp)) ∨ ∃ es, H.get b = some (.m es)
def AHeap.alive (H : AHeap) (b : Nat) : Prop := ∃ x, H.get b = some x ∧ x ≠ .dead
inductive MRel (e : Emb) : List (AV × AV) → List MapEntry → Prop
 | nil : MRel e [] []
 | cons {k v : AV} {m : MapEntry} {l : List (AV × AV)} {l' : List MapEntry} (hk : VRel e k m.key) (hv : VRel e v m.val) (t : MRel e l l') : MRel e ((k, v) :: l) (m :: l')
theorem MRel.mono {e e' : Emb} (h : ∀ b i, e b = some i → e' b = some i) : ∀ {l : List (AV × AV)} {l' : List MapEntry}, MRel e l l' → MRel e' l l'
 | _, _, .nil => .nil
 | _, _, .cons hk hv t => .cons (hk.mono h) (hv.mono h) (MRel.mono h t)
def CRel (e : Emb) (i : Info) (n : Nat) (t : BT AV) (wr : Bool) (o : Option Obj) : Prop :=
 ∃ C ty z, o = some (.cells C ty z) ∧ C.size = i.room ∧ (wr = true → z.2 ≤ z.1) ∧ ∀ k, k < n → ∃ v v', t.get k = some v ∧ C[i.off + k]? = some v' ∧ VRel e v v'
def BornOk (es : List MapEntry) (ck : Nat) : Prop := es.map (·.born) = List.range es.length ∧ ck = es.length
theorem BornOk.nil : BornOk [] 0 := ⟨rfl, rfl⟩
theorem BornOk.nodup {es : List MapEntry} {ck : Nat} (h : BornOk es ck) : (es.map (·.born)).Nodup := by rw [h.1]; exact List.nodup_range
theorem BornOk.lt {es : List MapEntry} {ck : Nat} (h : BornOk es ck) : ∀ x ∈ es, x.born < ck := fun x hx => by
 have : x.born ∈ es.map (·.born) := List.mem_map.2 ⟨x, hx, rfl⟩
 rw [h.1, List.mem_range] at this
 rw [h.2]; exact this
theorem BornOk.at {es : List MapEntry} {ck : Nat} (h : BornOk es ck) {j : Nat} {m : MapEntry} (hm : es[j]? = some m) : m.born = j := by
 have h1 : (es.map (·.born))[j]? = some m.born := by simp [hm]
 obtain ⟨hlt, _⟩ := List.getElem?_eq_some_iff.1 hm
 rw [h.1, List.getElem?_range hlt] at h1
 exact (Option.some.inj h1).symm
theorem BornOk.snoc {es : List MapEntry} {ck : Nat} (h : BornOk es ck) (k v : Value) : BornOk (es ++ [{ key := k, val := v, born := ck }]) (ck + 1) := by
 refine ⟨?_, by simp [h.2]⟩
 rw [List.map_append, h.1, List.length_append, h.2]
 simp [List.range_succ]
theorem BornOk.set {es : List MapEntry} {ck : Nat} (h : BornOk es ck) {j : Nat} {m : MapEntry} (hm : es[j]? = some m) (k v : Value) : BornOk (es.set j { m with key := k, val := v }) ck := by
 have hmap : (es.set j { m with key := k, val := v }).map (·.born) = es.map (·.born) := by
  apply List.ext_getElem?
  intro i
  rw [List.getElem?_map, List.getElem?_map, List.getElem?_set]
  by_cases hij : j = i
  · subst hij
    obtain ⟨hlt, hme⟩ := List.getElem?_eq_some_iff.1 hm
    simp [hlt, hme]
  · simp [hij]
 exact ⟨by rw [hmap, h.1, List.length_set], by rw [h.2, List.length_set]⟩
def ORel (e : Emb) (i : Info) (x : ABlk) (o : Option Obj) : Prop :=
 match x with
 | .c n t wr sp => i.len = n ∧ i.sp = sp ∧ i.off + n ≤ i.room ∧ CRel e i n t wr o
 | .m es => ∃ es' ck, o = some (.map es' ck) ∧ MRel e es es'.toList ∧ BornOk es'.toList ck
 | .dead => True
theorem ORel.mono {e e' : Emb} (h : ∀ b i, e b = some i → e' b = some i) {i : Info} {x : ABlk} {o : Option Obj} (hr : ORel e i x o) : ORel e' i x o := by
 cases x with
 | c n t wr sp =>
  obtain ⟨a, b, c, C, ty, z, d, f, g, k⟩ := hr
  exact ⟨a, b, c, C, ty, z, d, f, g, fun j hj => let ⟨v, v', x, y, q⟩ := k j hj; ⟨v, v', x, y, q.mono h⟩⟩
 | m es => obtain ⟨es', ck, a, b, c⟩ := hr; exact ⟨es', ck, a, b.mono h, c⟩
 | dead => trivial
structure Rel (G : Nat) (e : Emb) (H : AHeap) (w : World) : Prop where
 lt : ∀ b i, e b = some i → b < H.nxt
 bnd : ∀ b i, e b = some i → i.blk < w.heap.size
 glob : ∀ g, g < G → ∃ i, e g = some i ∧ i.blk = g ∧ i.off = 0
 obj : ∀ b i x, e b = some i → H.get b = some x → ORel e i x w.heap[i.blk]?
 sep : ∀ b1 i1 b2 i2, e b1 = some i1 → e b2 = some i2 → b1 ≠ b2 → H.owned b1 → H.alive b2 → i1.blk ≠ i2.blk
structure Evo (G : Nat) (e : Emb) (H : AHeap) (w : World) (e' : Emb) (H' : AHeap) (w' : World) : Prop where
 rel : Rel G e' H' w'
 ext : ∀ b i, e b = some i → e' b = some i
 size : w.heap.size ≤ w'.heap.size
 tape : w'.tape = w.tape
 os : w'.os = w.os
 out : w'.output = w.output
 nxt : H.nxt ≤ H'.nxt
 low : H'.low ≤ H.low
 same : ∀ b, b < H.nxt → b < H'.low → H'.get b = H.get b
 dead : ∀ b, H.get b = some .dead → H'.get b = some .dead
 fresh : ∀ b i, e b = none → e' b = some i → H.nxt ≤ b ∧ (w.heap.size ≤ i.blk ∨ ∃ b0 i0, e b0 = some i0 ∧ i0.blk = i.blk ∧ H.get b0 ≠ some .dead ∧ H'.low ≤ b0)
 frame : ∀ B, B < w.heap.size → (∀ b i, e b = some i → i.blk = B → H.get b = some .dead ∨ b < H'.low) → w'.heap[B]? = w.heap[B]?
theorem Evo.refl {G : Nat} {e : Emb} {H : AHeap} {w : World} (h : Rel G e H w) : Evo G e H w e H w where
 rel := h
 ext := fun _ _ h => h
 size := Nat.le_refl _
 tape := rfl
 os := rfl
 out := rfl
 nxt := Nat.le_refl _
 low := Nat.le_refl _
 same := fun _ _ _ => rfl
 dead := fun _ h => h
 fresh := fun b i h h' => by rw [h] at h'; cases h'
 frame := fun _ _ _ => rfl
theorem Evo.trans {G : Nat} {e e1 e2 : Emb} {H H1 H2 : AHeap} {w w1 w2 : World} (h : Evo G e H w e1 H1 w1) (g : Evo G e1 H1 w1 e2 H2 w2) : Evo G e H w e2 H2 w2 where
 rel := g.rel
 ext := fun b i hb => g.ext b i (h.ext b i hb)
 size := Nat.le_trans h.size g.size
 tape := g.tape.trans h.tape
 os := g.os.trans h.os
 out := g.out.trans h.out
 nxt := Nat.le_trans h.nxt g.nxt
 low := Nat.le_trans g.low h.low
 same := fun b hb hl => (g.same b (Nat.lt_of_lt_of_le hb h.nxt) hl).trans (h.same b hb (Nat.lt_of_lt_of_le hl g.low))
 dead := fun b hb => g.dead b (h.dead b hb)
 fresh := fun b i hb hi => by
  cases h1 : e1 b with
  | some i1 =>
   have h2 := g.ext b i1 h1
   rw [hi] at h2
   cases h2
   obtain ⟨hn, hc⟩ := h.fresh b i hb h1
   refine ⟨hn, ?_⟩
   rcases hc with hc | ⟨b0, i0, a, b', c, d⟩
   · exact .inl hc
   · exact .inr ⟨b0, i0, a, b', c, Nat.le_trans g.low d⟩
  | none =>
   obtain ⟨hn, hc⟩ := g.fresh b i h1 hi
   refine ⟨Nat.le_trans h.nxt hn, ?_⟩
   rcases hc with hc | ⟨b0, i0, a, b', c, d⟩
   · exact .inl (Nat.le_trans h.size hc)
   · cases h0 : e b0 with
     | some i00 =>
      have h2 := h.ext b0 i00 h0
      rw [a] at h2
      cases h2
      exact .inr ⟨b0, i0, h0, b', fun hd => c (h.dead b0 hd), d⟩
     | none =>
      obtain ⟨_, hc'⟩ := h.fresh b0 i0 h0 a
      rcases hc' with hc' | ⟨b1, i1, a1, b1', c1, d1⟩
      · exact .inl (b' ▸ hc')
      · exact .inr ⟨b1, i1, a1, b1'.trans b', c1, Nat.le_trans g.low d1⟩
 frame := fun B hB hc => by
  have h1 : w1.heap[B]? = w.heap[B]? := h.frame B hB fun b i hb hi => (hc b i hb hi).imp id fun hl => Nat.lt_of_lt_of_le hl g.low
  rw [← h1]
  refine g.frame B (Nat.lt_of_lt_of_le hB h.size) fun b i hb hi => ?_
  cases h0 : e b with
  | some i0 =>
   have h2 := h.ext b i0 h0
   rw [hb] at h2
   cases h2
   exact (hc b i h0 hi).imp (h.dead b) id
  | none =>
   obtain ⟨_, hc'⟩ := h.fresh b i h0 hb
   rcases hc' with hc' | ⟨b1, i1, a1, b1', c1, d1⟩
   · omega
   · rcases hc b1 i1 a1 (b1'.trans hi) with hd | hl
     · exact absurd hd c1
     · have := g.low; omega
theorem Evo.withLow {G : Nat} {e e' : Emb} {H H' : AHeap} {w w' : World} {n : Nat} (h : Evo G e (H.withLow n) w e' H' w') : Evo G e H w e' (H'.withLow (min H.low H'.low)) w' where
 rel := ⟨h.rel.lt, h.rel.bnd, h.rel.glob, h.rel.obj, h.rel.sep⟩
 ext := h.ext
 size := h.size
 tape := h.tape
 os := h.os
 out := h.out
 nxt := h.nxt
 low := Nat.min_le_left _ _
 same := fun b hb hl => h.same b hb (Nat.lt_of_lt_of_le hl (Nat.min_le_right _ _))
 dead := h.dead
 fresh := fun b i hb hi => by
  obtain ⟨hn, hc⟩ := h.fresh b i hb hi
  refine ⟨hn, hc.imp id ?_⟩
  rintro ⟨b0, i0, a, b', c, d⟩
  exact ⟨b0, i0, a, b', c, Nat.le_trans (Nat.min_le_right _ _) d⟩
 frame := fun B hB hc => h.frame B hB fun b i hb hi => (hc b i hb hi).imp id fun hl => Nat.lt_of_lt_of_le hl (Nat.min_le_right _ _)
theorem Rel.withLow {G : Nat} {e : Emb} {H : AHeap} {w : World} (n : Nat) (h : Rel G e H w) : Rel G e (H.withLow n) w :=
 ⟨h.lt, h.bnd, h.glob, h.obj, h.sep⟩
theorem Evo.forget {G : Nat} {e e' : Emb} {H H' : AHeap} {w w' : World} (hr : Rel G e H w) (h : Evo G e (H.withLow H.nxt) w e' H' w') (hl : H.nxt ≤ H'.low) : Evo G e H w e H w' := by
 have hf : ∀ B, B < w.heap.size → w'.heap[B]? = w.heap[B]? := fun B hB => h.frame B hB fun b i hb _ => .inr (Nat.lt_of_lt_of_le (hr.lt b i hb) hl)
 exact {
  rel := {
   lt := hr.lt
   bnd := fun b i hb => Nat.lt_of_lt_of_le (hr.bnd b i hb) h.size
   glob := hr.glob
   obj := fun b i x hb hg => by rw [hf _ (hr.bnd b i hb)]; exact hr.obj b i x hb hg
   sep := hr.sep }
  ext := fun _ _ h => h
  size := h.size
  tape := h.tape
  os := h.os
  out := h.out
  nxt := Nat.le_refl _
  low := Nat.le_refl _
  same := fun _ _ _ => rfl
  dead := fun _ h => h
  fresh := fun b i h1 h2 => by rw [h1] at h2; cases h2
  frame := fun B hB _ => hf B hB }
theorem Rel.heap_eq {G : Nat} {e : Emb} {H : AHeap} {w w' : World} (h : Rel G e H w) (hw : w'.heap = w.heap) : Rel G e H w' :=
 ⟨h.lt, hw ▸ h.bnd, h.glob, hw ▸ h.obj, h.sep⟩
theorem Evo.drew {G : Nat} {e : Emb} {H : AHeap} {w : World} (h : Rel G e H w) (n : Nat) : Evo G e H w e H { w with drawn := n } where
 rel := h.heap_eq rfl
 ext := fun _ _ h => h
 size := Nat.le_refl _
 tape := rfl
 os := rfl
 out := rfl
 nxt := Nat.le_refl _
 low := Nat.le_refl _
 same := fun _ _ _ => rfl
 dead := fun _ h => h
 fresh := fun b i h h' => by rw [h] at h'; cases h'
 frame := fun _ _ _ => rfl
def Emb.put (e : Emb) (b : Nat) (i : Info) : Emb := fun c => if c = b then some i else e c
theorem Emb.put_ext {e : Emb} {b : Nat} {i : Info} (h : e b = none) : ∀ c j, e c = some j → e.put b i c = some j := fun c j hc => by
 unfold Emb.put
 split
 · subst_vars; rw [h] at hc; cases hc
 · exact hc
@[simp] theorem Emb.put_self (e : Emb) (b : Nat) (i : Info) : e.put b i b = some i := by simp [Emb.put]
theorem Rel.none_nxt {G : Nat} {e : Emb} {H : AHeap} {w : World} (h : Rel G e H w) : e H.nxt = none := by
 cases he : e H.nxt with
 | none => rfl
 | some i => exact absurd (h.lt _ _ he) (Nat.lt_irrefl _)
theorem Emb.put_cases {e : Emb} {b : Nat} {i : Info} {c : Nat} {j : Info} (hj : e.put b i c = some j) : (c = b ∧ j = i) ∨ (c ≠ b ∧ e c = some j) := by
 unfold Emb.put at hj
 split at hj
 · rename_i hc; exact .inl ⟨hc, by cases hj; rfl⟩
 · rename_i hc; exact .inr ⟨hc, hj⟩
theorem heap_alloc_old (w : World) (o : Obj) (B : Nat) (hB : B < w.heap.size) : (w.alloc o).heap[B]? = w.heap[B]? := by
 show (w.heap.push o)[B]? = _
 rw [Array.getElem?_push, if_neg (by omega)]
theorem heap_alloc_new (w : World) (o : Obj) : (w.alloc o).heap[w.heap.size]? = some o := by
 show (w.heap.push o)[w.heap.size]? = _
 simp
theorem Evo.alloc {G : Nat} {e : Emb} {H : AHeap} {w : World} (h : Rel G e H w) (x : ABlk) (o : Obj) (i : Info) (hi : i.blk = w.heap.size) (hx : ORel e i x (some o)) :
  Evo G e H w (e.put H.nxt i) (H.alloc x) (w.alloc o) := by
 have h0 := h.none_nxt
 have hext := Emb.put_ext (i := i) h0
 have hget : ∀ c, c ≠ H.nxt → (H.alloc x).get c = H.get c := fun c hc => by rw [AHeap.get_alloc, if_neg hc]
 have hgetn : (H.alloc x).get H.nxt = some x := by rw [AHeap.get_alloc, if_pos rfl]
 refine { rel := ?_, ext := hext, size := by simp, tape := rfl, os := rfl, out := rfl, nxt := by simp, low := by simp, same := ?_, dead := ?_, fresh := ?_, frame := fun B hB _ => heap_alloc_old w o B hB }
 · refine { lt := ?_, bnd := ?_, glob := ?_, obj := ?_, sep := ?_ }
   · intro c j hj
     rcases Emb.put_cases hj with ⟨rfl, _⟩ | ⟨_, hj⟩
     · simp
     · have := h.lt c j hj; simp; omega
   · intro c j hj
     rcases Emb.put_cases hj with ⟨_, rfl⟩ | ⟨_, hj⟩
     · simp; omega
     · have := h.bnd c j hj; simp; omega
   · intro g hg
     obtain ⟨i, hi, a, b⟩ := h.glob g hg
     exact ⟨i, hext g i hi, a, b⟩
   · intro c j y hj hg
     rcases Emb.put_cases hj with ⟨rfl, rfl⟩ | ⟨hne, hj⟩
     · rw [hgetn] at hg
       cases hg
       rw [hi, heap_alloc_new]
       exact hx.mono hext
     · rw [hget c hne] at hg
       rw [heap_alloc_old _ _ _ (h.bnd c j hj)]
       exact (h.obj c j y hj hg).mono hext
   · intro b1 i1 b2 i2 h1 h2 hne ho ha
     have own : ∀ c, c ≠ H.nxt → (H.alloc x).owned c → H.owned c := fun c hc ho => by
      unfold AHeap.owned at *; rwa [hget c hc] at ho
     have al : ∀ c, c ≠ H.nxt → (H.alloc x).alive c → H.alive c := fun c hc ho => by
      unfold AHeap.alive at *; rwa [hget c hc] at ho
     rcases Emb.put_cases h1 with ⟨rfl, rfl⟩ | ⟨hn1, q1⟩ <;> rcases Emb.put_cases h2 with ⟨rfl, rfl⟩ | ⟨hn2, q2⟩
     · exact absurd rfl hne
     · have := h.bnd b2 i2 q2; omega
     · have := h.bnd b1 i1 q1; omega
     · exact h.sep b1 i1 b2 i2 q1 q2 hne (own b1 hn1 ho) (al b2 hn2 ha)
 · intro b hb _; exact hget b (by omega)
 · intro b hb
   rw [hget b (by intro h; subst h; have := AHeap.lt_of_get hb; omega)]
   exact hb
 · intro b j hb hj
   rcases Emb.put_cases hj with ⟨rfl, rfl⟩ | ⟨_, hj⟩
   · exact ⟨Nat.le_refl _, .inl (by omega)⟩
   · rw [hb] at hj; cases hj
theorem AHeap.owned_alive {H : AHeap} {b : Nat} (h : H.owned b) : H.alive b := by
 rcases h with ⟨n, t, sp, h⟩ | ⟨es, h⟩
 · exact ⟨_, h, by simp⟩
 · exact ⟨_, h, by simp⟩
theorem Evo.change {G : Nat} {e : Emb} {H : AHeap} {w w' : World} (h : Rel G e H w) {b : Nat} {i : Info} (hb : e b = some i) (ho : H.owned b) (x : ABlk) (o : Obj)
  (hw : w'.heap = w.heap.setIfInBounds i.blk o) (ht : w'.tape = w.tape) (hos : w'.os = w.os) (hout : w'.output = w.output) (hx : ORel e i x (some o)) :
  Evo G e H w e (H.upd b x) w' := by
 have hlt := h.lt b i hb
 have hblk := h.bnd b i hb
 have hget : ∀ c, c ≠ b → (H.upd b x).get c = H.get c := fun c hc => by rw [AHeap.get_upd _ _ _ hlt, if_neg hc]
 have hgetb : (H.upd b x).get b = some x := by
  rw [AHeap.get_upd _ _ _ hlt, if_pos rfl]
  obtain ⟨y, hy, _⟩ := AHeap.owned_alive ho
  rw [hy]; rfl
 have hold : ∀ B, B ≠ i.blk → w'.heap[B]? = w.heap[B]? := fun B hB => by
  rw [hw, Array.getElem?_setIfInBounds, if_neg (Ne.symm hB)]
 have hnew : w'.heap[i.blk]? = some o := by
  rw [hw, Array.getElem?_setIfInBounds, if_pos rfl, if_pos hblk]
 have hlow : (H.upd b x).low ≤ b := by rw [AHeap.low_upd]; split <;> omega
 refine { rel := ?_, ext := fun _ _ h => h, size := by rw [hw]; simp, tape := ht, os := hos, out := hout, nxt := by simp, low := by rw [AHeap.low_upd]; split <;> omega, same := ?_, dead := ?_, fresh := fun c j h1 h2 => (by rw [h1] at h2; cases h2), frame := ?_ }
 · refine { lt := fun c j hj => by simpa using h.lt c j hj, bnd := fun c j hj => by rw [hw]; simpa using h.bnd c j hj, glob := h.glob, obj := ?_, sep := ?_ }
   · intro c j y hj hg
     by_cases hc : c = b
     · subst hc
       rw [hb] at hj; cases hj
       rw [hgetb] at hg; cases hg
       rw [hnew]; exact hx
     · rw [hget c hc] at hg
       cases y with
       | dead => trivial
       | c n t wr sp =>
        rw [hold _ (Ne.symm (h.sep b i c j hb hj (Ne.symm hc) ho ⟨_, hg, by simp⟩))]
        exact h.obj c j _ hj hg
       | m es =>
        rw [hold _ (Ne.symm (h.sep b i c j hb hj (Ne.symm hc) ho ⟨_, hg, by simp⟩))]
        exact h.obj c j _ hj hg
   · intro b1 i1 b2 i2 h1 h2 hne ho1 ha2
     have own : ∀ c, c ≠ b → (H.upd b x).owned c → H.owned c := fun c hc ho => by
      unfold AHeap.owned at *; rwa [hget c hc] at ho
     have al : ∀ c, c ≠ b → (H.upd b x).alive c → H.alive c := fun c hc ho => by
      unfold AHeap.alive at *; rwa [hget c hc] at ho
     by_cases e1 : b1 = b
     · subst e1
       exact h.sep b1 i1 b2 i2 h1 h2 hne ho (al b2 (Ne.symm hne) ha2)
     · by_cases e2 : b2 = b
       · subst e2
         exact h.sep b1 i1 b2 i2 h1 h2 hne (own b1 e1 ho1) (AHeap.owned_alive ho)
       · exact h.sep b1 i1 b2 i2 h1 h2 hne (own b1 e1 ho1) (al b2 e2 ha2)
 · intro c _ hl; exact hget c (by omega)
 · intro c hc
   have hne : c ≠ b := by
    intro he; subst he
    rcases ho with ⟨n, t, sp, h⟩ | ⟨es, h⟩ <;> rw [hc] at h <;> cases h
   rw [hget c hne]; exact hc
 · intro B hB hcond
   by_cases hBe : B = i.blk
   · subst hBe
     rcases hcond b i hb rfl with hd | hl
     · rcases ho with ⟨n, t, sp, h⟩ | ⟨es, h⟩ <;> rw [hd] at h <;> cases h
     · omega
   · exact hold B hBe
theorem Evo.growIn {G : Nat} {e : Emb} {H : AHeap} {w w' : World} (h : Rel G e H w) {b : Nat} {i : Info} (hb : e b = some i) (ho : H.owned b) (x : ABlk) (o : Obj) (j : Info) (hj : j.blk = i.blk)
  (hw : w'.heap = w.heap.setIfInBounds i.blk o) (ht : w'.tape = w.tape) (hos : w'.os = w.os) (hout : w'.output = w.output) (hx : ORel e j x (some o)) :
  Evo G e H w (e.put H.nxt j) ((H.upd b .dead).alloc x) w' := by
 have h1 : Evo G e H w e (H.upd b .dead) w' := Evo.change h hb ho .dead o hw ht hos hout trivial
 have hr := h1.rel
 have hn : (H.upd b .dead).nxt = H.nxt := rfl
 have h0 : e H.nxt = none := h.none_nxt
 have hext := Emb.put_ext (i := j) h0
 have hlt := h.lt b i hb
 have hget : ∀ c, c ≠ H.nxt → ((H.upd b .dead).alloc x).get c = (H.upd b .dead).get c := fun c hc => by rw [AHeap.get_alloc, hn, if_neg hc]
 have hgetn : ((H.upd b .dead).alloc x).get H.nxt = some x := by rw [AHeap.get_alloc, if_pos hn.symm]
 have hdead : (H.upd b .dead).get b = some .dead := by
  rw [AHeap.get_upd _ _ _ hlt, if_pos rfl]
  obtain ⟨y, hy, _⟩ := AHeap.owned_alive ho
  rw [hy]; rfl
 have hgetu : ∀ c, c ≠ b → (H.upd b .dead).get c = H.get c := fun c hc => by rw [AHeap.get_upd _ _ _ hlt, if_neg hc]
 have hnew : w'.heap[i.blk]? = some o := by
  rw [hw, Array.getElem?_setIfInBounds, if_pos rfl, if_pos (h.bnd b i hb)]
 have hlow : (H.upd b .dead).low ≤ b := by rw [AHeap.low_upd]; split <;> omega
 have hother : ∀ c k, e c = some k → (H.upd b .dead).alive c → k.blk ≠ i.blk := fun c k hc ha => by
  by_cases hcb : c = b
  · subst hcb
    obtain ⟨y, hy, hyd⟩ := ha
    rw [hdead] at hy; cases hy; exact absurd rfl hyd
  · have ha' : H.alive c := by unfold AHeap.alive at *; rwa [hgetu c hcb] at ha
    exact Ne.symm (h.sep b i c k hb hc (Ne.symm hcb) ho ha')
 refine { rel := ?_, ext := hext, size := h1.size, tape := ht, os := hos, out := hout, nxt := by simp, low := by rw [AHeap.low_alloc]; exact h1.low, same := ?_, dead := ?_, fresh := ?_, frame := fun B hB hc => h1.frame B hB (by rw [AHeap.low_alloc] at hc; exact hc) }
 · refine { lt := ?_, bnd := ?_, glob := ?_, obj := ?_, sep := ?_ }
   · intro c k hk
     rcases Emb.put_cases hk with ⟨rfl, _⟩ | ⟨_, hk⟩
     · simp
     · have := h.lt c k hk; simp; omega
   · intro c k hk
     rcases Emb.put_cases hk with ⟨_, rfl⟩ | ⟨_, hk⟩
     · rw [hj]; exact hr.bnd b i hb
     · exact hr.bnd c k hk
   · intro g hg
     obtain ⟨i, hi, a, b⟩ := h.glob g hg
     exact ⟨i, hext g i hi, a, b⟩
   · intro c k y hk hg
     rcases Emb.put_cases hk with ⟨rfl, rfl⟩ | ⟨hne, hk⟩
     · rw [hgetn] at hg
       cases hg
       rw [hj, hnew]
       exact hx.mono hext
     · rw [hget c hne] at hg
       exact (hr.obj c k y hk hg).mono hext
   · intro b1 i1 b2 i2 q1 q2 hne ho1 ha2
     have own : ∀ c, c ≠ H.nxt → ((H.upd b .dead).alloc x).owned c → (H.upd b .dead).owned c := fun c hc ho => by
      unfold AHeap.owned at *; rwa [hget c hc] at ho
     have al : ∀ c, c ≠ H.nxt → ((H.upd b .dead).alloc x).alive c → (H.upd b .dead).alive c := fun c hc ho => by
      unfold AHeap.alive at *; rwa [hget c hc] at ho
     rcases Emb.put_cases q1 with ⟨rfl, rfl⟩ | ⟨hn1, p1⟩ <;> rcases Emb.put_cases q2 with ⟨rfl, rfl⟩ | ⟨hn2, p2⟩
     · exact absurd rfl hne
     · rw [hj]; exact Ne.symm (hother b2 i2 p2 (al b2 hn2 ha2))
     · rw [hj]; exact hother b1 i1 p1 (AHeap.owned_alive (own b1 hn1 ho1))
     · exact hr.sep b1 i1 b2 i2 p1 p2 hne (own b1 hn1 ho1) (al b2 hn2 ha2)
 · intro c hc hl
   rw [hget c (by omega)]
   exact h1.same c hc (by rw [AHeap.low_alloc] at hl; exact hl)
 · intro c hc
   rw [hget c (by intro he; subst he; have := AHeap.lt_of_get hc; omega)]
   exact h1.dead c hc
 · intro c k hc hk
   rcases Emb.put_cases hk with ⟨rfl, rfl⟩ | ⟨_, hk⟩
   · refine ⟨Nat.le_refl _, .inr ⟨b, i, hb, hj.symm, ?_, ?_⟩⟩
     · intro hd
       rcases ho with ⟨n, t, sp, h⟩ | ⟨es, h⟩ <;> rw [hd] at h <;> cases h
     · rw [AHeap.low_alloc]; exact hlow
   · rw [hc] at hk; cases hk
end
end Go.Ab
namespace Go.Ab
open Go
inductive Loc where
 | nil | cons (t : Nat) (v : AV) (e : Loc)
inductive VP where
 | top | lft (p : VP) | rgt (p : VP)
structure Env where
 loc : Loc
 B : BT AV
inductive ORes where
 | v (v : AV) (H : AHeap)
 | pan (v : AV) (H : AHeap)
 | fail
def undefA : AV := .x (.tup [])
theorem vrel_undef (e : Emb) : VRel e undefA undef := .tup [] [] .nil
noncomputable section
def Loc.get (en : Loc) (t : Nat) : AV :=
 Loc.rec (motive := fun _ => AV) (.x .bad) (fun t' v _ ih => Bool.rec (motive := fun _ => AV) ih v (Nat.beq t' t)) en
theorem Loc.get_nil (t : Nat) : Loc.nil.get t = .x .bad := rfl
theorem Loc.get_cons (d : Nat) (v : AV) (en : Loc) (t : Nat) : (Loc.cons d v en).get t = if d = t then v else en.get t := by
 have h : (Loc.cons d v en).get t = Bool.rec (motive := fun _ => AV) (en.get t) v (Nat.beq d t) := rfl
 rw [h, brec]
 simp only [beq_tt]
def VP.get (p : VP) (t : BT AV) : AV :=
 VP.rec (motive := fun _ => BT AV → AV) (fun t => BT.rec (motive := fun _ => AV) (.x .bad) (fun _ v _ _ _ => v) t)
  (fun _ ih t => BT.rec (motive := fun _ => AV) (.x .bad) (fun l _ _ _ _ => ih l) t) (fun _ ih t => BT.rec (motive := fun _ => AV) (.x .bad) (fun _ _ r _ _ => ih r) t) p t
def VP.put (p : VP) (a : AV) (t : BT AV) : BT AV :=
 VP.rec (motive := fun _ => BT AV → BT AV) (fun t => BT.rec (motive := fun _ => BT AV) .lf (fun l _ r _ _ => .nd l a r) t)
  (fun _ ih t => BT.rec (motive := fun _ => BT AV) .lf (fun l v r _ _ => .nd (ih l) v r) t) (fun _ ih t => BT.rec (motive := fun _ => BT AV) .lf (fun l v r _ _ => .nd l v (ih r)) t) p t
@[simp] theorem VP.get_lf (p : VP) : p.get .lf = .x .bad := by cases p <;> rfl
@[simp] theorem VP.get_h (l r : BT AV) (v : AV) : VP.top.get (.nd l v r) = v := rfl
@[simp] theorem VP.get_l (p : VP) (l r : BT AV) (v : AV) : (VP.lft p).get (.nd l v r) = p.get l := rfl
@[simp] theorem VP.get_r (p : VP) (l r : BT AV) (v : AV) : (VP.rgt p).get (.nd l v r) = p.get r := rfl
@[simp] theorem VP.put_lf (p : VP) (a : AV) : p.put a .lf = .lf := by cases p <;> rfl
@[simp] theorem VP.put_h (l r : BT AV) (v a : AV) : VP.top.put a (.nd l v r) = .nd l a r := rfl
@[simp] theorem VP.put_l (p : VP) (l r : BT AV) (v a : AV) : (VP.lft p).put a (.nd l v r) = .nd (p.put a l) v r := rfl
@[simp] theorem VP.put_r (p : VP) (l r : BT AV) (v a : AV) : (VP.rgt p).put a (.nd l v r) = .nd l v (p.put a r) := rfl
theorem VP.get_put (a : AV) : ∀ (p q : VP) (t : BT AV), q.get (p.put a t) = q.get t ∨ (q = p ∧ q.get (p.put a t) = a)
 | p, q, .lf => by simp
 | .top, .top, .nd l v r => .inr ⟨rfl, rfl⟩
 | .top, .lft q, .nd l v r => .inl rfl
 | .top, .rgt q, .nd l v r => .inl rfl
 | .lft p, .top, .nd l v r => .inl rfl
 | .lft p, .lft q, .nd l v r => by
  rcases VP.get_put a p q l with h | ⟨rfl, h⟩
  · exact .inl (by simpa using h)
  · exact .inr ⟨rfl, by simpa using h⟩
 | .lft p, .rgt q, .nd l v r => .inl rfl
 | .rgt p, .top, .nd l v r => .inl rfl
 | .rgt p, .lft q, .nd l v r => .inl rfl
 | .rgt p, .rgt q, .nd l v r => by
  rcases VP.get_put a p q r with h | ⟨rfl, h⟩
  · exact .inl (by simpa using h)
  · exact .inr ⟨rfl, by simpa using h⟩
theorem VP.get_put_self (a : AV) : ∀ (p : VP) (t : BT AV), p.get (p.put a t) = a ∨ p.get (p.put a t) = .x .bad
 | p, .lf => .inr (by simp)
 | .top, .nd l v r => .inl rfl
 | .lft p, .nd l v r => VP.get_put_self a p l
 | .rgt p, .nd l v r => VP.get_put_self a p r
def VP.at : VP → BT Nat → Option Nat
 | _, .lf => none
 | .top, .nd _ v _ => some v
 | .lft p, .nd l _ _ => p.at l
 | .rgt p, .nd _ _ r => p.at r
def countB (t : Nat) : BT Nat → Nat
 | .lf => 0
 | .nd l v r => (if v = t then 1 else 0) + countB t l + countB t r
theorem countB_pos {t : Nat} : ∀ {p : VP} {S : BT Nat}, p.at S = some t → 0 < countB t S
 | p, .lf, h => by cases p <;> simp [VP.at] at h
 | .top, .nd l v r, h => by simp [VP.at] at h; simp [countB, h]; omega
 | .lft p, .nd l v r, h => by simp [VP.at] at h; have := countB_pos h; simp [countB]; omega
 | .rgt p, .nd l v r, h => by simp [VP.at] at h; have := countB_pos h; simp [countB]; omega
theorem VP.uniq {t : Nat} : ∀ {p q : VP} {S : BT Nat}, countB t S ≤ 1 → p.at S = some t → q.at S = some t → p = q
 | p, q, .lf, _, hp, _ => by cases p <;> simp [VP.at] at hp
 | .top, .top, .nd l v r, _, _, _ => rfl
 | .lft p, .lft q, .nd l v r, hc, hp, hq => by
  simp [VP.at] at hp hq; simp [countB] at hc; rw [VP.uniq (S := l) (by omega) hp hq]
 | .rgt p, .rgt q, .nd l v r, hc, hp, hq => by
  simp [VP.at] at hp hq; simp [countB] at hc; rw [VP.uniq (S := r) (by omega) hp hq]
 | .top, .lft q, .nd l v r, hc, hp, hq => by
  simp [VP.at] at hp hq; have := countB_pos hq; simp [countB, hp] at hc; omega
 | .top, .rgt q, .nd l v r, hc, hp, hq => by
  simp [VP.at] at hp hq; have := countB_pos hq; simp [countB, hp] at hc; omega
 | .lft p, .top, .nd l v r, hc, hp, hq => by
  simp [VP.at] at hp hq; have := countB_pos hp; simp [countB, hq] at hc; omega
 | .rgt p, .top, .nd l v r, hc, hp, hq => by
  simp [VP.at] at hp hq; have := countB_pos hp; simp [countB, hq] at hc; omega
 | .lft p, .rgt q, .nd l v r, hc, hp, hq => by
  simp [VP.at] at hp hq; have := countB_pos hp; have := countB_pos hq; simp [countB] at hc; omega
 | .rgt p, .lft q, .nd l v r, hc, hp, hq => by
  simp [VP.at] at hp hq; have := countB_pos hp; have := countB_pos hq; simp [countB] at hc; omega
def oT (t : Nat) (en : Env) : AV := en.loc.get t
def oV (p : VP) (en : Env) : AV := p.get en.B
def oC (v : AV) (_ : Env) : AV := v
def oG (g : Nat) (_ : Env) : AV := .p g 0
def oF (f : Nat) (_ : Env) : AV := .x (.fn f [] [])
structure DF where
 ds : List Deferred
 K : BT AV → Prop
def DF.any (ds : List Deferred) : DF := ⟨ds, fun _ => True⟩
def DF.free (D : DF) (p : VP) : Prop := ∀ B v, D.K B → D.K (p.put v B)
theorem DF.any_free (ds : List Deferred) (p : VP) : (DF.any ds).free p := fun _ _ _ => trivial
structure ARel (S : BT Nat) (n : Nat) (D : DF) (e : Emb) (en : Env) (a : Act) : Prop where
 size : a.tmps.size = n
 tmps : ∀ t, countB t S = 0 → VRel e (en.loc.get t) (a.tmps.getD t undef)
 vars : ∀ p t, VP.at p S = some t → VRel e (p.get en.B) (a.tmps.getD t undef)
 defers : a.defers = D.ds
 kept : D.K en.B
theorem ARel.mono {S : BT Nat} {n : Nat} {D : DF} {e e' : Emb} {en : Env} {a : Act} (h : ∀ b i, e b = some i → e' b = some i) (r : ARel S n D e en a) : ARel S n D e' en a :=
 ⟨r.size, fun t ht => (r.tmps t ht).mono h, fun p t ht => (r.vars p t ht).mono h, r.defers, r.kept⟩
theorem getD_put_self {a : Act} {d n : Nat} (hs : a.tmps.size = n) (hd : d < n) (v' : Value) : (a.put (some d) v').tmps.getD d undef = v' := by
 simp [Act.put, Array.getD, hs, hd]
theorem getD_put_ne {a : Act} {d t : Nat} (h : d ≠ t) (v' : Value) : (a.put (some d) v').tmps.getD t undef = a.tmps.getD t undef := by
 simp only [Act.put, Array.getD_eq_getD_getElem?, Array.getElem?_setIfInBounds]
 rw [if_neg h]
theorem ARel.put {S : BT Nat} {n : Nat} {D : DF} {e : Emb} {en : Env} {a : Act} (r : ARel S n D e en a) {d : Nat} (hd : d < n) (hS : countB d S = 0) {v : AV} {v' : Value} (hv : VRel e v v') :
  ARel S n D e ⟨.cons d v en.loc, en.B⟩ (a.put (some d) v') := by
 refine ⟨by simp [Act.put, r.size], fun t ht => ?_, fun p t ht => ?_, r.defers, r.kept⟩
 · rw [Loc.get_cons]
   by_cases h : d = t
   · subst h
     rw [if_pos rfl, getD_put_self r.size hd]; exact hv
   · rw [if_neg h, getD_put_ne h]; exact r.tmps t ht
 · have h : d ≠ t := by
     rintro rfl
     have := countB_pos ht
     omega
   rw [getD_put_ne h]; exact r.vars p t ht
theorem ARel.putV {S : BT Nat} {n : Nat} {D : DF} {e : Emb} {en : Env} {a : Act} (r : ARel S n D e en a) {d : Nat} (hd : d < n) {p : VP} (hp : p.at S = some d) (hS : countB d S ≤ 1) (hf : D.free p) {v : AV} {v' : Value} (hv : VRel e v v') :
  ARel S n D e ⟨en.loc, p.put v en.B⟩ (a.put (some d) v') := by
 refine ⟨by simp [Act.put, r.size], fun t ht => ?_, fun q t ht => ?_, r.defers, hf _ _ r.kept⟩
 · have h : d ≠ t := by
     rintro rfl
     have := countB_pos hp
     omega
   rw [getD_put_ne h]; exact r.tmps t ht
 · by_cases h : d = t
   · subst h
     have := VP.uniq hS ht hp
     subst this
     rw [getD_put_self r.size hd]
     rcases VP.get_put_self v q en.B with hq | hq
     · rw [hq]; exact hv
     · rw [hq]; exact .bad _
   · rw [getD_put_ne h]
     rcases VP.get_put v p q en.B with hq | ⟨rfl, hq⟩
     · rw [hq]; exact r.vars q t ht
     · rw [hp] at ht; cases ht; exact absurd rfl h
variable {S : BT Nat}
def OpndOk (P : Program) (S : BT Nat) (x : Operand) (o : Env → AV) : Prop :=
 ∀ n D e en a H w, Rel P.globals.size e H w → ARel S n D e en a → VRel e (o en) (a.eval x)
theorem opnd_tmp (P : Program) (t : Nat) (h : countB t S = 0) : OpndOk P S (.tmp t) (oT t) := fun _ _ _ _ _ _ _ _ r => r.tmps t h
theorem opnd_var (P : Program) (p : VP) (t : Nat) (h : p.at S = some t) : OpndOk P S (.tmp t) (oV p) := fun _ _ _ _ _ _ _ _ r => r.vars p t h
theorem opnd_const (P : Program) (v : Value) (av : AV) (h : ∀ e, VRel e av v) : OpndOk P S (.const v) (oC av) := fun _ _ e _ _ _ _ _ _ => h e
theorem opnd_global (P : Program) (g : Nat) (h : g < P.globals.size) : OpndOk P S (.global g) (oG g) := fun _ _ e _ _ _ _ hr _ => by
 obtain ⟨i, hi, hb, ho⟩ := hr.glob g h
 have := VRel.p g 0 i hi
 rw [hb, ho] at this
 exact this
theorem opnd_func (P : Program) (f : Nat) : OpndOk P S (.func f) (oF f) := fun _ _ _ _ _ _ _ _ _ => .fn f [] [] [] [] .nil .nil
def OSnd (P : Program) (S : BT Nat) (o : Oper) (en : Env) (H : AHeap) : ORes → Prop
 | .fail => True
 | .v v H' => ∀ n D e w a, Rel P.globals.size e H w → ARel S n D e en a →
    o.wp P a w (fun a' w' => ∃ e' v', a' = a.put o.dst v' ∧ VRel e' v v' ∧ Evo P.globals.size e H w e' H' w') (fun _ _ _ => False)
 | .pan v H' => ∀ n D e w a, Rel P.globals.size e H w → ARel S n D e en a →
    o.wp P a w (fun _ _ => False) (fun X a' w' => ∃ e' v', X = .panic [⟨v', false, false⟩] ∧ a' = a ∧ VRel e' v v' ∧ Evo P.globals.size e H w e' H' w')
theorem OSnd.value {P : Program} {o : Oper} {en : Env} {H H' : AHeap} {v : AV}
  (h : ∀ n D e w a, Rel P.globals.size e H w → ARel S n D e en a → ∃ e' v' w', (execOp a.eval o).run P w = .ok (.value v') w' ∧ VRel e' v v' ∧ Evo P.globals.size e H w e' H' w') :
  OSnd P S o en H (.v v H') := by
 intro n D e w a hr ha
 obtain ⟨e', v', w', h1, h2, h3⟩ := h n D e w a hr ha
 simp only [Oper.wp, h1, Oper.upon_value]
 exact ⟨e', v', rfl, h2, h3⟩
theorem OSnd.skip {P : Program} {o : Oper} {en : Env} {H H' : AHeap}
  (h : ∀ n D e w a, Rel P.globals.size e H w → ARel S n D e en a → ∃ e' w', (execOp a.eval o).run P w = .ok .skip w' ∧ Evo P.globals.size e H w e' H' w') :
  OSnd P S o en H (.v undefA H') := by
 intro n D e w a hr ha
 obtain ⟨e', w', h1, h3⟩ := h n D e w a hr ha
 simp only [Oper.wp, h1, Oper.upon_skip]
 exact ⟨e', undef, rfl, vrel_undef e', h3⟩
theorem OSnd.pure {P : Program} {o : Oper} {en : Env} {H : AHeap} {v : AV}
  (h : ∀ n D e w a, Rel P.globals.size e H w → ARel S n D e en a → ∃ v', (execOp a.eval o).run P w = .ok (.value v') w ∧ VRel e v v') :
  OSnd P S o en H (.v v H) :=
 OSnd.value fun n D e w a hr ha => let ⟨v', h1, h2⟩ := h n D e w a hr ha; ⟨e, v', w, h1, h2, Evo.refl hr⟩
section
variable {R : Type}
def avI (d : R) (f : Nat → Nat → R) (v : AV) : R := AVp.rec (motive := fun _ => R) f (fun _ => d) (fun _ _ => d) (fun _ _ => d) (fun _ _ _ _ => d) (fun _ => d) v
def avB (d : R) (f : Bool → R) (v : AV) : R := AVp.rec (motive := fun _ => R) (fun _ _ => d) f (fun _ _ => d) (fun _ _ => d) (fun _ _ _ _ => d) (fun _ => d) v
def avS (d : R) (f : Nat → Nat → R) (v : AV) : R := AVp.rec (motive := fun _ => R) (fun _ _ => d) (fun _ => d) f (fun _ _ => d) (fun _ _ _ _ => d) (fun _ => d) v
def avP (d : R) (f : Nat → Nat → R) (v : AV) : R := AVp.rec (motive := fun _ => R) (fun _ _ => d) (fun _ => d) (fun _ _ => d) f (fun _ _ _ _ => d) (fun _ => d) v
def avSl (d : R) (f : Nat → Nat → Nat → Nat → R) (v : AV) : R := AVp.rec (motive := fun _ => R) (fun _ _ => d) (fun _ => d) (fun _ _ => d) (fun _ _ => d) f (fun _ => d) v
def avX (d : R) (f : AX → R) (v : AV) : R := AVp.rec (motive := fun _ => R) (fun _ _ => d) (fun _ => d) (fun _ _ => d) (fun _ _ => d) (fun _ _ _ _ => d) f v
def axAgg (d : R) (f : List AV → R) (v : AX) : R := AX.casesOn (motive_1 := fun _ => R) v d d d d d d (fun _ => d) (fun _ _ _ => d) (fun _ _ => d) f (fun _ => d) (fun _ => d) (fun _ _ => d) (fun _ _ _ => d) (fun _ _ _ => d)
def axTup (d : R) (f : List AV → R) (v : AX) : R := AX.casesOn (motive_1 := fun _ => R) v d d d d d d (fun _ => d) (fun _ _ _ => d) (fun _ _ => d) (fun _ => d) f (fun _ => d) (fun _ _ => d) (fun _ _ _ => d) (fun _ _ _ => d)
def blkC (d : R) (f : Nat → BT AV → Bool → Nat → R) (x : Option ABlk) : R := Option.rec (motive := fun _ => R) d (fun y => ABlk.rec (motive := fun _ => R) f (fun _ => d) d y) x
def blkM (d : R) (f : List (AV × AV) → R) (x : Option ABlk) : R := Option.rec (motive := fun _ => R) d (fun y => ABlk.rec (motive := fun _ => R) (fun _ _ _ _ => d) f d y) x
def optE (d : R) (f : AV → R) (x : Option AV) : R := Option.rec (motive := fun _ => R) d f x
def bif' (d : R) (f : R) (c : Bool) : R := Bool.rec (motive := fun _ => R) d f c
end
def opMove (x : Env → AV) (en : Env) (H : AHeap) : ORes := .v (x en) H
theorem opMove_snd {P : Program} {o : Oper} {x : Operand} {x' : Env → AV} (ho : o.op = .move x ∨ o.op = .assign x) (hx : OpndOk P S x x') (en : Env) (H : AHeap) :
  OSnd P S o en H (opMove x' en H) :=
 OSnd.pure fun n D e w a hr ha => by
  refine ⟨a.eval x, ?_, hx n D e en a H w hr ha⟩
  rcases ho with ho | ho <;> simp [execOp, ho]
def opPick (c x y : Env → AV) (en : Env) (H : AHeap) : ORes := avB .fail (fun t => .v (Bool.rec (motive := fun _ => AV) (y en) (x en) t) H) (c en)
theorem opPick_snd {P : Program} {o : Oper} {c x y : Operand} {c' x' y' : Env → AV} (ho : o.op = .pick c x y) (hc : OpndOk P S c c') (hx : OpndOk P S x x') (hy : OpndOk P S y y') (en : Env) (H : AHeap) :
  OSnd P S o en H (opPick c' x' y' en H) := by
 unfold opPick
 cases h : c' en with
 | b t =>
  refine OSnd.pure fun n D e w a hr ha => ?_
  have h1 := hc n D e en a H w hr ha
  have h2 := hx n D e en a H w hr ha
  have h3 := hy n D e en a H w hr ha
  rw [h] at h1
  generalize hcv : a.eval c = cv at h1
  cases h1
  cases t
  · exact ⟨a.eval y, by simp [execOp, ho, hcv, asBool], h3⟩
  · exact ⟨a.eval x, by simp [execOp, ho, hcv, asBool], h2⟩
 | _ => trivial
def aggOf (P : Program) (t : TypeId) : Option (Option Nat) :=
 match P.underlying t with
 | some (.struct _) | some (.array _ _) => (P.info? t).map fun i => some i.size
 | some _ => some none
 | none => none
theorem run_isAgg_none {P : Program} {t : TypeId} (h : aggOf P t = some none) (w : World) : (isAgg t).run P w = .ok false w := by
 unfold aggOf at h
 unfold isAgg
 cases hu : P.underlying t with
 | none => rw [hu] at h; cases h
 | some d => rw [hu] at h; cases d <;> simp at h <;> simp [run_underlying hu]
theorem run_isAgg_some {P : Program} {t : TypeId} {n : Nat} (h : aggOf P t = some (some n)) (w : World) : (isAgg t).run P w = .ok true w ∧ (sizeOf t).run P w = .ok n w := by
 unfold aggOf at h
 unfold isAgg sizeOf
 cases hu : P.underlying t with
 | none => rw [hu] at h; cases h
 | some d =>
  rw [hu] at h
  cases d <;> simp at h <;> obtain ⟨i, hi, rfl⟩ := h <;> simp [run_underlying hu, typeInfo, hi]
def szOf (P : Program) (t : TypeId) : Option Nat := (P.info? t).map (·.size)
theorem run_sizeOf {P : Program} {t : TypeId} {n : Nat} (h : szOf P t = some n) (w : World) : (sizeOf t).run P w = .ok n w := by
 unfold szOf at h
 simp at h
 obtain ⟨i, hi, rfl⟩ := h
 simp [sizeOf, typeInfo, hi]
theorem cell_of {w : World} {B : Nat} {C : Array Value} {ty : TypeId} {z : Nat × Nat} (h : w.heap[B]? = some (.cells C ty z)) (o : Nat) : w.cell? ⟨B, o, none⟩ = C[o]? := by
 simp [World.cell?, h]
theorem add_addr (B o k : Nat) : (⟨B, o, none⟩ : Addr).add k = ⟨B, o + k, none⟩ := by
 unfold Addr.add
 split
 · subst_vars; simp
 · rfl
def opLoad1 (x : Env → AV) (en : Env) (H : AHeap) : ORes :=
 avP .fail (fun b o => blkC .fail (fun n t _ _ => bif' .fail (optE .fail (fun v => .v v H) (t.get o)) (Nat.ble (Nat.add o 1) n)) (H.get b)) (x en)
theorem opLoad1_snd {P : Program} {o : Oper} {t : TypeId} {x : Operand} {x' : Env → AV} (ho : o.op = .load t x) (ht : aggOf P t = some none) (hx : OpndOk P S x x') (en : Env) (H : AHeap) :
  OSnd P S o en H (opLoad1 x' en H) := by
 unfold opLoad1
 cases h : x' en with
 | p b k =>
  simp only [avP]
  cases hb : H.get b with
  | none => trivial
  | some y =>
   cases y with
   | m es => trivial
   | dead => trivial
   | c n T wr sp =>
    simp only [blkC, bif']
    cases hk : Nat.ble (Nat.add k 1) n with
    | false => trivial
    | true =>
     have hk' : k < n := by rw [ble_tt] at hk; exact hk
     simp only
     cases hv : T.get k with
     | none => trivial
     | some v =>
      simp only [optE]
      refine OSnd.pure fun N D e w a hr ha => ?_
      have h1 := hx N D e en a H w hr ha
      rw [h] at h1
      generalize hxv : a.eval x = xv at h1
      cases h1
      rename_i i hi
      obtain ⟨e1, e2, e3, C, ty, z, c1, c2, c3, c4⟩ := hr.obj b i _ hi hb
      obtain ⟨u, v', g1, g2, g3⟩ := c4 k hk'
      rw [hv] at g1; cases g1
      refine ⟨v', ?_, g3⟩
      have hcell := cell_of c1 (i.off + k)
      rw [g2] at hcell
      simp [execOp, ho, hxv, Instr.loadAt, Instr.sureAddr, loadVar, run_isAgg_none ht, hcell]
 | _ => trivial
def takeN (t : BT AV) (n : Nat) : Nat → Option (List AV) :=
 Nat.rec (motive := fun _ => Nat → Option (List AV)) (fun _ => some []) (fun _ ih o => Option.rec (motive := fun _ => Option (List AV)) none (fun v => Option.rec (motive := fun _ => Option (List AV)) none (fun l => some (v :: l)) (ih (Nat.add o 1))) (t.get o)) n
theorem takeN_succ (t : BT AV) (n o : Nat) : takeN t (n + 1) o = (t.get o).bind fun v => (takeN t n (o + 1)).map fun l => v :: l := by
 have h : takeN t (n + 1) o = Option.rec (motive := fun _ => Option (List AV)) none (fun v => Option.rec (motive := fun _ => Option (List AV)) none (fun l => some (v :: l)) (takeN t n (o + 1))) (t.get o) := rfl
 rw [h]
 cases t.get o with
 | none => rfl
 | some v => cases takeN t n (o + 1) <;> rfl
theorem takeN_spec (t : BT AV) : ∀ (n o : Nat) (l : List AV), takeN t n o = some l → l.length = n ∧ ∀ k, k < n → l[k]? = t.get (o + k)
 | 0, o, l, h => by
  have : takeN t 0 o = some [] := rfl
  rw [this] at h; cases h
  exact ⟨rfl, fun k hk => by omega⟩
 | n + 1, o, l, h => by
  rw [takeN_succ] at h
  cases hv : t.get o with
  | none => rw [hv] at h; cases h
  | some v =>
   rw [hv] at h
   simp only [Option.bind_some] at h
   cases hl : takeN t n (o + 1) with
   | none => rw [hl] at h; cases h
   | some l' =>
    rw [hl] at h
    cases h
    obtain ⟨h1, h2⟩ := takeN_spec t n (o + 1) l' hl
    refine ⟨by simp [h1], fun k hk => ?_⟩
    cases k with
    | zero => simpa using hv.symm
    | succ k => rw [List.getElem?_cons_succ, h2 k (by omega)]; congr 1; omega
def readN (H : AHeap) (b o n : Nat) : Option (List AV) :=
 blkC none (fun m t _ _ => bif' none (takeN t n o) (Nat.ble (Nat.add o n) m)) (H.get b)
theorem readN_spec {G : Nat} {H : AHeap} {b o n : Nat} {l : List AV} (h : readN H b o n = some l) {e : Emb} {w : World} (hr : Rel G e H w) {i : Info} (hi : e b = some i) :
  ∃ l' : List Value, l'.length = n ∧ VRels e l l' ∧ (∀ j v, l'[j]? = some v → w.cell? ((⟨i.blk, i.off + o, none⟩ : Addr).add j) = some v) ∧ o + n ≤ i.len := by
 unfold readN at h
 cases hb : H.get b with
 | none => rw [hb] at h; cases h
 | some y =>
  rw [hb] at h
  cases y with
  | m es => cases h
  | dead => cases h
  | c m T wr sp =>
   simp only [blkC, bif'] at h
   cases hk : Nat.ble (Nat.add o n) m with
   | false => rw [hk] at h; cases h
   | true =>
    rw [hk] at h
    have hk' : o + n ≤ m := by rw [ble_tt] at hk; exact hk
    obtain ⟨s1, s2⟩ := takeN_spec T n o l h
    obtain ⟨e1, e2, e3, C, ty, z, c1, c2, c3, c4⟩ := hr.obj b i _ hi hb
    have hlt : ∀ k, k < n → i.off + o + k < C.size := fun k hk => by omega
    refine ⟨(List.range n).map fun k => C.getD (i.off + o + k) undef, by simp, ?_, ?_, by omega⟩
    · refine VRels.of_get (by simp [s1]) fun k v v' h1 h2 => ?_
      have hkn : k < n := by
       have := (List.getElem?_eq_some_iff.1 h1).1; omega
      obtain ⟨u, u', g1, g2, g3⟩ := c4 (o + k) (by omega)
      rw [s2 k hkn, g1] at h1
      cases h1
      simp only [List.getElem?_map, List.getElem?_range hkn, Option.map_some, Option.some.injEq] at h2
      rw [show i.off + (o + k) = i.off + o + k by omega] at g2
      rw [← h2, Array.getD_eq_getD_getElem?, g2]
      exact g3
    · intro j v hj
      have hjn : j < n := by
       have := (List.getElem?_eq_some_iff.1 hj).1; simpa using this
      simp only [List.getElem?_map, List.getElem?_range hjn, Option.map_some, Option.some.injEq] at hj
      rw [add_addr, cell_of c1, ← hj]
      have := hlt j hjn
      simp [Array.getD, this]
def opLoadN (n : Nat) (x : Env → AV) (en : Env) (H : AHeap) : ORes :=
 avP .fail (fun b o => Option.rec (motive := fun _ => ORes) .fail (fun l => .v (.x (.agg l)) H) (readN H b o n)) (x en)
theorem opLoadN_snd {P : Program} {o : Oper} {t : TypeId} {x : Operand} {x' : Env → AV} {n : Nat} (ho : o.op = .load t x) (ht : aggOf P t = some (some n)) (hx : OpndOk P S x x') (en : Env) (H : AHeap) :
  OSnd P S o en H (opLoadN n x' en H) := by
 unfold opLoadN
 cases h : x' en with
 | p b k =>
  simp only [avP]
  cases hl : readN H b k n with
  | none => trivial
  | some l =>
   refine OSnd.pure fun N D e w a hr ha => ?_
   have h1 := hx N D e en a H w hr ha
   rw [h] at h1
   generalize hxv : a.eval x = xv at h1
   cases h1
   rename_i i hi
   obtain ⟨l', g1, g2, g3, g4⟩ := readN_spec hl hr hi
   obtain ⟨t1, t2⟩ := run_isAgg_some ht w
   refine ⟨.agg l'.toArray, ?_, .agg l l' g2⟩
   have hrun := run_loadCells_list (P := P) w _ l' g3
   rw [g1] at hrun
   simp [execOp, ho, hxv, Instr.loadAt, Instr.sureAddr, loadVar, t1, t2, hrun]
 | _ => trivial
end
end Go.Ab
namespace Go.Ab
open Go
noncomputable section
variable {S : BT Nat}
def putAll (C : Array Value) (o : Nat) : List Value → Array Value
 | [] => C
 | v :: l => putAll (C.setIfInBounds o v) (o + 1) l
theorem putAll_size (l : List Value) : ∀ (C : Array Value) (o : Nat), (putAll C o l).size = C.size := by
 induction l with
 | nil => intro C o; rfl
 | cons v l ih => intro C o; simp [putAll, ih]
theorem putAll_get (l : List Value) : ∀ (C : Array Value) (o j : Nat), (putAll C o l)[j]? = if o ≤ j ∧ j < o + l.length ∧ j < C.size then l[j - o]? else C[j]? := by
 induction l with
 | nil => intro C o j; simp only [putAll, List.length_nil]; rw [if_neg (by omega)]
 | cons v l ih =>
  intro C o j
  simp only [putAll, ih, Array.size_setIfInBounds, List.length_cons]
  by_cases h : j = o
  · subst h
    rw [if_neg (by omega)]
    rw [Array.getElem?_setIfInBounds, if_pos rfl]
    by_cases h2 : j < C.size
    · rw [if_pos h2, if_pos (by omega)]; simp
    · rw [if_neg h2, if_neg (by omega)]; rw [Array.getElem?_eq_none (by omega)]
  · by_cases h2 : o + 1 ≤ j ∧ j < o + 1 + l.length ∧ j < C.size
    · rw [if_pos h2, if_pos (by omega), show j - o = (j - (o + 1)) + 1 by omega]; simp
    · rw [if_neg h2, if_neg (by omega), Array.getElem?_setIfInBounds, if_neg (Ne.symm h)]
theorem setCell_heap {w : World} {B o : Nat} {C : Array Value} {ty : TypeId} {z : Nat × Nat} (h : w.heap[B]? = some (.cells C ty z)) (v : Value) :
  w.setCell ⟨B, o, none⟩ v = { w with heap := w.heap.setIfInBounds B (.cells (C.setIfInBounds o v) ty z) } := by
 unfold World.setCell
 congr 1
 apply Array.ext_getElem?
 intro j
 rw [Array.getElem?_modify, Array.getElem?_setIfInBounds]
 by_cases hj : B = j
 · subst hj
   obtain ⟨hb, _⟩ := Array.getElem?_eq_some_iff.1 h
   rw [if_pos rfl, if_pos rfl, if_pos hb, h]
   rfl
 · simp [hj]
theorem run_storeCells {P : Program} : ∀ (l : List Value) (w : World) (B o i : Nat) (C : Array Value) (ty : TypeId) (z : Nat × Nat), w.heap[B]? = some (.cells C ty z) → z.2 ≤ z.1 →
  (∀ v ∈ l, v.oneCell' = true) → o + i + l.length ≤ C.size →
  (storeCells ⟨B, o, none⟩ l i).run P w = .ok () { w with heap := w.heap.setIfInBounds B (.cells (putAll C (o + i) l) ty z) }
 | [], w, B, o, i, C, ty, z, h, _, _, _ => by
  simp only [storeCells, putAll, Sem.run_pure]
  congr 1
  have : w.heap.setIfInBounds B (.cells C ty z) = w.heap := by
   apply Array.ext_getElem?
   intro j
   rw [Array.getElem?_setIfInBounds]
   split
   · subst_vars
     split
     · exact h.symm
     · rw [Array.getElem?_eq_none (by omega)]
   · rfl
  rw [this]
 | v :: l, w, B, o, i, C, ty, z, h, hz, hone, hlen => by
  simp only [List.length_cons] at hlen
  have hcell := cell_of h (o + i)
  have hlt : o + i < C.size := by omega
  rw [Array.getElem?_eq_getElem hlt] at hcell
  have hfr : w.frozen? ⟨B, o + i, none⟩ = false := by
   simp only [World.frozen?, h]
   simp; omega
  have hset := setCell_heap (o := o + i) h v
  have h' : (w.setCell ⟨B, o + i, none⟩ v).heap[B]? = some (.cells (C.setIfInBounds (o + i) v) ty z) := by
   rw [hset]
   obtain ⟨hb, _⟩ := Array.getElem?_eq_some_iff.1 h
   simp [hb]
  have ih := run_storeCells (P := P) l (w.setCell ⟨B, o + i, none⟩ v) B o (i + 1) _ ty z h' hz (fun u hu => hone u (List.mem_cons_of_mem _ hu)) (by simp; omega)
  simp only [storeCells, Sem.run_bind, add_addr]
  rw [run_store P w _ v .plain (hone v (by simp))]
  simp only [hcell, hfr, Bool.false_eq_true, if_false, Result.andThen_ok]
  rw [ih, hset]
  simp only [putAll, Array.setIfInBounds_setIfInBounds]
  rfl
def oneA (v : AV) : Bool := avX true (fun y => AX.casesOn (motive_1 := fun _ => Bool) y false true true true true true (fun _ => true) (fun _ _ _ => true) (fun _ _ => true) (fun _ => false) (fun _ => false) (fun _ => true) (fun _ _ => true) (fun _ _ _ => true) (fun _ _ _ => true)) v
theorem oneA_spec {e : Emb} {v : AV} {v' : Value} (h : VRel e v v') (ho : oneA v = true) : v'.oneCell' = true := by
 cases h <;> first | rfl | (exact absurd ho (by simp [oneA, avX]))
def allOne (l : List AV) : Bool := List.rec (motive := fun _ => Bool) true (fun v _ ih => Bool.rec (motive := fun _ => Bool) false ih (oneA v)) l
theorem allOne_cons (v : AV) (l : List AV) : allOne (v :: l) = (oneA v && allOne l) := by
 have h : allOne (v :: l) = Bool.rec (motive := fun _ => Bool) false (allOne l) (oneA v) := rfl
 rw [h]; cases oneA v <;> rfl
theorem allOne_spec {e : Emb} : ∀ {l : List AV} {l' : List Value}, VRels e l l' → allOne l = true → ∀ v ∈ l', v.oneCell' = true
 | _, _, .nil, _, v, hv => by cases hv
 | _, _, .cons hv ht, ho, u, hu => by
  rw [allOne_cons, Bool.and_eq_true] at ho
  rcases List.mem_cons.1 hu with rfl | hu
  · exact oneA_spec hv ho.1
  · exact allOne_spec ht ho.2 u hu
def cellsA (v : AV) : Option (List AV) :=
 avX (some [v]) (fun y => AX.casesOn (motive_1 := fun _ => Option (List AV)) y none (some [v]) (some [v]) (some [v]) (some [v]) (some [v]) (fun _ => some [v]) (fun _ _ _ => some [v]) (fun _ _ => some [v])
  (fun l => Bool.rec (motive := fun _ => Option (List AV)) none (some l) (allOne l)) (fun _ => none) (fun _ => some [v]) (fun _ _ => some [v]) (fun _ _ _ => some [v]) (fun _ _ _ => some [v])) v
theorem cellsA_spec {e : Emb} {v : AV} {v' : Value} {l : List AV} (hc : cellsA v = some l) (h : VRel e v v') : ∃ l', v'.cells = l'.toArray ∧ VRels e l l' ∧ ∀ u ∈ l', u.oneCell' = true := by
 have single : ∀ (u : AV) (u' : Value), VRel e u u' → u'.cells = #[u'] → u'.oneCell' = true → some [u] = some l → ∃ l', u'.cells = l'.toArray ∧ VRels e l l' ∧ ∀ x ∈ l', x.oneCell' = true := by
  intro u u' hu hcells hone he
  cases he
  exact ⟨[u'], hcells, .cons hu .nil, fun x hx => by simp at hx; subst hx; exact hone⟩
 cases h with
 | bad v => cases hc
 | agg m m' hm =>
  cases ho : allOne m with
  | false => simp [cellsA, avX, ho] at hc
  | true =>
   simp [cellsA, avX, ho] at hc
   subst hc
   exact ⟨m', rfl, hm, allOne_spec hm ho⟩
 | tup m m' hm => cases hc
 | i k n hk hn => exact single _ _ (.i k n hk hn) rfl rfl hc
 | b v => exact single _ _ (.b v) rfl rfl hc
 | s n c hc' => exact single _ _ (.s n c hc') rfl rfl hc
 | p b o i hi => exact single _ _ (.p b o i hi) rfl rfl hc
 | sl b o n c c' i hi hc' => exact single _ _ (.sl b o n c c' i hi hc') rfl rfl hc
 | slq b o a => exact single _ _ (.slq b o a) rfl rfl hc
 | xs b o n i hi => exact single _ _ (.xs b o n i hi) rfl rfl hc
 | nilp => exact single _ _ .nilp rfl rfl hc
 | nils => exact single _ _ .nils rfl rfl hc
 | nilm => exact single _ _ .nilm rfl rfl hc
 | nilf => exact single _ _ .nilf rfl rfl hc
 | nili => exact single _ _ .nili rfl rfl hc
 | m r i hi => exact single _ _ (.m r i hi) rfl rfl hc
 | fn f a c a' c' ha hc' => exact single _ _ (.fn f a c a' c' ha hc') rfl rfl hc
 | ifc t u u' hu => exact single _ _ (.ifc t u u' hu) rfl rfl hc
 | fl b => exact single _ _ (.fl b) rfl rfl hc
 | sy m r n hn hi => exact single _ _ (.sy m r n hn hi) rfl rfl hc
 | rg k lo hi n hk hn h1 h2 => exact single _ _ (.rg k lo hi n hk hn h1 h2) rfl rfl hc
def putN (t : BT AV) (o : Nat) (l : List AV) : BT AV :=
 List.rec (motive := fun _ => BT AV → Nat → BT AV) (fun t _ => t) (fun v _ ih t o => ih (t.set v o) (Nat.add o 1)) l t o
theorem putN_nil (t : BT AV) (o : Nat) : putN t o [] = t := rfl
theorem putN_cons (t : BT AV) (o : Nat) (v : AV) (l : List AV) : putN t o (v :: l) = putN (t.set v o) (o + 1) l := rfl
theorem putN_get (l : List AV) : ∀ (t : BT AV) (o k : Nat), (putN t o l).get k = if o ≤ k ∧ k < o + l.length then (t.get k).bind (fun _ => l[k - o]?) else t.get k := by
 induction l with
 | nil => intro t o k; rw [putN_nil, if_neg (by simp only [List.length_nil]; omega)]
 | cons v l ih =>
  intro t o k
  rw [putN_cons, ih]
  simp only [BT.get_set, List.length_cons]
  by_cases h : k = o
  · subst h
    rw [if_neg (by omega), if_pos rfl, if_pos (by omega)]
    cases t.get k <;> simp
  · by_cases h2 : o + 1 ≤ k ∧ k < o + 1 + l.length
    · rw [if_pos h2, if_neg h, if_pos (by omega), show k - o = (k - (o + 1)) + 1 by omega]
      simp
    · rw [if_neg h2, if_neg h, if_neg (by omega)]
theorem Evo.write {G : Nat} {e : Emb} {H : AHeap} {w : World} (hr : Rel G e H w) {b : Nat} {i : Info} (hi : e b = some i) {n : Nat} {T : BT AV} {sp : Nat} (hb : H.get b = some (.c n T true sp))
  {o : Nat} {l : List AV} {l' : List Value} (hl : VRels e l l') (hone : ∀ v ∈ l', v.oneCell' = true) (hin : o + l.length ≤ n) (P : Program) :
  ∃ w', (storeCells ⟨i.blk, i.off + o, none⟩ l').run P w = .ok () w' ∧ Evo G e H w e (H.upd b (.c n (putN T o l) true sp)) w' := by
 obtain ⟨e1, e2, e3, C, ty, z, c1, c2, c3, c4⟩ := hr.obj b i _ hi hb
 have hlen := hl.length
 have hrun := run_storeCells (P := P) l' w i.blk (i.off + o) 0 C ty z c1 (c3 rfl) hone (by omega)
 refine ⟨_, hrun, Evo.change hr hi (.inl ⟨n, T, sp, hb⟩) _ _ rfl rfl rfl rfl ?_⟩
 refine ⟨e1, e2, e3, _, ty, z, rfl, by rw [putAll_size]; exact c2, fun _ => c3 rfl, fun k hk => ?_⟩
 obtain ⟨v, v', g1, g2, g3⟩ := c4 k hk
 rw [putN_get, putAll_get]
 by_cases hin2 : o ≤ k ∧ k < o + l.length
 · rw [if_pos hin2, if_pos (by omega), g1]
   simp only [Option.bind_some]
   have hkl : k - o < l.length := by omega
   obtain ⟨v2, q1, q2⟩ := hl.get (List.getElem?_eq_getElem hkl)
   exact ⟨_, v2, List.getElem?_eq_getElem hkl, by rw [← q1]; congr 1; omega, q2⟩
 · rw [if_neg hin2, if_neg (by omega)]
   exact ⟨v, v', g1, g2, g3⟩
def writeN (H : AHeap) (b o : Nat) (l : List AV) : Option AHeap :=
 blkC none (fun n t w sp => bif' none (bif' none (some (H.upd b (.c n (putN t o l) true sp))) (Nat.ble (Nat.add o l.length) n)) w) (H.get b)
theorem writeN_spec {H H' : AHeap} {b o : Nat} {l : List AV} (h : writeN H b o l = some H') : ∃ n T sp, H.get b = some (.c n T true sp) ∧ o + l.length ≤ n ∧ H' = H.upd b (.c n (putN T o l) true sp) := by
 unfold writeN at h
 cases hb : H.get b with
 | none => rw [hb] at h; cases h
 | some y =>
  rw [hb] at h
  cases y with
  | m es => cases h
  | dead => cases h
  | c n T wr sp =>
   cases wr with
   | false => cases h
   | true =>
    simp only [blkC, bif'] at h
    cases hk : Nat.ble (Nat.add o l.length) n with
    | false => rw [hk] at h; cases h
    | true =>
     rw [hk] at h
     cases h
     exact ⟨n, T, sp, rfl, by rw [ble_tt] at hk; exact hk, rfl⟩
def optH {R : Type} (d : R) (f : AHeap → R) (x : Option AHeap) : R := Option.rec (motive := fun _ => R) d f x
def optL {R : Type} (d : R) (f : List AV → R) (x : Option (List AV)) : R := Option.rec (motive := fun _ => R) d f x
def opStore (n : Nat) (x y : Env → AV) (en : Env) (H : AHeap) : ORes :=
 avP .fail (fun b o => optL .fail (fun l => bif' .fail (optH .fail (fun H' => .v undefA H') (writeN H b o l)) (Nat.beq l.length n)) (cellsA (y en))) (x en)
theorem opStore_snd {P : Program} {o : Oper} {t : TypeId} {x y : Operand} {x' y' : Env → AV} {n : Nat} (ho : o.op = .store t x y) (ht : szOf P t = some n) (hx : OpndOk P S x x') (hy : OpndOk P S y y') (en : Env) (H : AHeap) :
  OSnd P S o en H (opStore n x' y' en H) := by
 unfold opStore
 cases h : x' en with
 | p b k =>
  simp only [avP]
  cases hl : cellsA (y' en) with
  | none => trivial
  | some l =>
   simp only [optL, bif']
   cases hn : Nat.beq l.length n with
   | false => trivial
   | true =>
    have hn' : l.length = n := Nat.eq_of_beq_eq_true hn
    simp only
    cases hw : writeN H b k l with
    | none => trivial
    | some H' =>
     simp only [optH]
     refine OSnd.skip fun N D e w a hr ha => ?_
     have h1 := hx N D e en a H w hr ha
     have h2 := hy N D e en a H w hr ha
     rw [h] at h1
     generalize hxv : a.eval x = xv at h1
     cases h1
     rename_i i hi
     obtain ⟨m, T, sp, q1, q2, rfl⟩ := writeN_spec hw
     obtain ⟨l', g1, g2, g3⟩ := cellsA_spec hl h2
     obtain ⟨w', r1, r2⟩ := Evo.write hr hi q1 g2 g3 q2 P
     refine ⟨e, w', ?_, r2⟩
     have hlen := g2.length
     simp [execOp, ho, hxv, Instr.storeAt, Instr.sureAddr, storeVar, g1, run_sizeOf ht, r1, ← hlen, hn']
 | _ => trivial
theorem Evo.newRow {G : Nat} {e : Emb} {H : AHeap} {w : World} (hr : Rel G e H w) {l : List AV} {l' : List Value} (hl : VRels e l l') (ty : TypeId) :
  Evo G e H w (e.put H.nxt ⟨w.heap.size, 0, l.length, 0, l'.length⟩) (H.alloc (.c l.length (BT.ofList l) true 0)) (w.alloc (.cells l'.toArray ty)) := by
 refine Evo.alloc hr _ _ _ rfl ⟨rfl, rfl, by simp [hl.length], l'.toArray, ty, (0, 0), rfl, by simp, fun _ => Nat.le_refl _, fun k hk => ?_⟩
 obtain ⟨v', q1, q2⟩ := hl.get (List.getElem?_eq_getElem hk)
 exact ⟨_, v', by rw [BT.get_ofList]; exact List.getElem?_eq_getElem hk, by simpa using q1, q2⟩
def newA (H : AHeap) (l : List AV) : AHeap := H.alloc (.c l.length (BT.ofList l) true 0)
def opAlloc (Z : List AV) (_ : Env) (H : AHeap) : ORes := .v (.p H.nxt 0) (newA H Z)
def zeroOf (P : Program) (t : TypeId) : Option Value := (P.info? t).bind (·.zero)
theorem run_zeroOf {P : Program} {t : TypeId} {v : Value} (h : zeroOf P t = some v) (w : World) : (zeroValue t).run P w = .ok v w := by
 unfold zeroOf at h
 cases hi : P.info? t with
 | none => rw [hi] at h; cases h
 | some i =>
  rw [hi] at h
  simp only [Option.bind_some] at h
  simp [zeroValue, typeInfo, hi, h]
theorem opAlloc_snd {P : Program} {o : Oper} {t : TypeId} {Z : List AV} {zv : Value} (ho : o.op = .alloc t) (hz : zeroOf P t = some zv) (hZ : ∀ e, VRels e Z zv.cells.toList) (en : Env) (H : AHeap) :
  OSnd P S o en H (opAlloc Z en H) :=
 OSnd.value fun N D e w a hr ha => by
  have h := Evo.newRow hr (hZ e) t
  refine ⟨_, .pointer (some ⟨w.heap.size, 0, none⟩), _, ?_, ?_, h⟩
  · simp [execOp, ho, Instr.alloc, run_zeroOf hz, newVar, newRow]
  · exact .p H.nxt 0 ⟨w.heap.size, 0, Z.length, 0, zv.cells.toList.length⟩ (by simp)
def opBox (x : Env → AV) (en : Env) (H : AHeap) : ORes := optL .fail (fun l => .v (.p H.nxt 0) (newA H l)) (cellsA (x en))
theorem opBox_snd {P : Program} {o : Oper} {t : TypeId} {x : Operand} {x' : Env → AV} (ho : o.op = .box t x) (hx : OpndOk P S x x') (en : Env) (H : AHeap) : OSnd P S o en H (opBox x' en H) := by
 unfold opBox
 cases hl : cellsA (x' en) with
 | none => trivial
 | some l =>
  simp only [optL]
  refine OSnd.value fun N D e w a hr ha => ?_
  obtain ⟨l', g1, g2, g3⟩ := cellsA_spec hl (hx N D e en a H w hr ha)
  have h := Evo.newRow hr g2 t
  refine ⟨_, .pointer (some ⟨w.heap.size, 0, none⟩), _, ?_, ?_, h⟩
  · simp [execOp, ho, Instr.box, newVar, newRow, g1]
  · exact .p H.nxt 0 ⟨w.heap.size, 0, l.length, 0, l'.length⟩ (by simp)
end
end Go.Ab
namespace Go.Ab
open Go
noncomputable section
variable {S : BT Nat}
def zipFold (l : List Value) (o : Nat) (cs : Array Value) : Array Value := putAll cs o l
theorem foldl_zipIdx (l : List Value) : ∀ (o j : Nat) (cs : Array Value), (l.zipIdx j).foldl (fun cs (x : Value × Nat) => cs.setIfInBounds (o + x.2) x.1) cs = putAll cs (o + j) l := by
 induction l with
 | nil => intro o j cs; rfl
 | cons v l ih =>
  intro o j cs
  simp only [List.zipIdx_cons, List.foldl_cons, putAll]
  rw [ih]
  congr 1
theorem fold_zip (v : Array Value) (o : Nat) (cs : Array Value) : v.zipIdx.foldl (fun cs (x : Value × Nat) => cs.setIfInBounds (o + x.2) x.1) cs = putAll cs o v.toList := by
 rw [← Array.foldl_toList, Array.toList_zipIdx, foldl_zipIdx, Nat.add_zero]
def fillA : List (Nat × Nat × AV) → List AV → Option (List AV) :=
 fun ps => List.rec (motive := fun _ => List AV → Option (List AV)) (fun cs => some cs)
  (fun p _ ih cs => optL none (fun l => bif' none (bif' none (ih (cs.take p.1 ++ (l ++ cs.drop (Nat.add p.1 p.2.1)))) (Nat.ble (Nat.add p.1 p.2.1) cs.length)) (Nat.beq l.length p.2.1)) (cellsA p.2.2)) ps
inductive PRel (e : Emb) : List (Nat × Nat × AV) → List (Nat × Value) → (Nat → Option (Nat × Nat)) → Prop
 | nil (place) : PRel e [] [] place
 | cons {o n k : Nat} {v : AV} {v' : Value} {l l'} {place} (hp : place k = some (o, n)) (hv : VRel e v v') (t : PRel e l l' place) : PRel e ((o, n, v) :: l) ((k, v') :: l') place
theorem putAll_splice (cs l : List Value) (o : Nat) (h : o + l.length ≤ cs.length) : (putAll cs.toArray o l).toList = cs.take o ++ (l ++ cs.drop (o + l.length)) := by
 apply List.ext_getElem?
 intro k
 rw [Array.getElem?_toList, putAll_get]
 simp only [List.size_toArray, List.getElem?_toArray]
 by_cases h1 : k < o
 · rw [if_neg (by omega), List.getElem?_append_left (by simp; omega), List.getElem?_take, if_pos h1]
 · rw [List.getElem?_append_right (by simp; omega)]
   have hm : min o cs.length = o := by omega
   simp only [List.length_take, hm]
   by_cases h2 : k < o + l.length
   · rw [if_pos (by omega), List.getElem?_append_left (by omega)]
   · rw [if_neg (by omega), List.getElem?_append_right (by omega), List.getElem?_drop]
     congr 1; omega
theorem fill_spec {e : Emb} {place : Nat → Option (Nat × Nat)} : ∀ {ps : List (Nat × Nat × AV)} {ps' : List (Nat × Value)} (_ : PRel e ps ps' place) {cs r : List AV} {cs' : List Value}, fillA ps cs = some r → VRels e cs cs' →
  ∃ r' : List Value, Instr.fill place cs'.toArray ps' = some r'.toArray ∧ VRels e r r'
 | _, _, .nil _, cs, r, cs', h, hc => by cases h; exact ⟨cs', rfl, hc⟩
 | _, _, .cons (o := o) (n := n) (k := k) (v := v) (v' := v') (l := l) (l' := l') hp hv t, cs, r, cs', h, hc => by
  have hdef : fillA ((o, n, v) :: l) cs = optL none (fun x => bif' none (bif' none (fillA l (cs.take o ++ (x ++ cs.drop (o + n)))) (Nat.ble (Nat.add o n) cs.length)) (Nat.beq x.length n)) (cellsA v) := rfl
  rw [hdef] at h
  cases hl : cellsA v with
  | none => rw [hl] at h; cases h
  | some x =>
   rw [hl] at h
   simp only [optL, bif'] at h
   cases h1 : Nat.beq x.length n with
   | false => rw [h1] at h; cases h
   | true =>
    rw [h1] at h
    cases h2 : Nat.ble (Nat.add o n) cs.length with
    | false => rw [h2] at h; cases h
    | true =>
     rw [h2] at h
     have h1' : x.length = n := Nat.eq_of_beq_eq_true h1
     have h2' : o + n ≤ cs.length := by rw [ble_tt] at h2; exact h2
     obtain ⟨x', g1, g2, _⟩ := cellsA_spec hl hv
     have hxl := g2.length
     have hcl := hc.length
     have hnew : VRels e (cs.take o ++ (x ++ cs.drop (o + n))) (cs'.take o ++ (x' ++ cs'.drop (o + n))) := by
      have ht : ∀ (m : Nat) {a : List AV} {a' : List Value}, VRels e a a' → VRels e (a.take m) (a'.take m) := by
       intro m a a' ha
       induction m generalizing a a' with
       | zero => simp; exact .nil
       | succ m ih => cases ha with
        | nil => simp; exact .nil
        | cons hv ht => simp; exact .cons hv (ih ht)
      have hd : ∀ (m : Nat) {a : List AV} {a' : List Value}, VRels e a a' → VRels e (a.drop m) (a'.drop m) := by
       intro m a a' ha
       induction m generalizing a a' with
       | zero => simpa using ha
       | succ m ih => cases ha with
        | nil => simp; exact .nil
        | cons hv ht => simp; exact ih ht
      exact (ht o hc).append (g2.append (hd (o + n) hc))
     obtain ⟨r', q1, q2⟩ := fill_spec t h hnew
     refine ⟨r', ?_, q2⟩
     simp only [Instr.fill, hp, g1, List.size_toArray]
     rw [if_neg (by simp; omega)]
     rw [fold_zip]
     have : putAll cs'.toArray o x'.toArray.toList = (cs'.take o ++ (x' ++ cs'.drop (o + n))).toArray := by
      apply Array.ext'
      simp only
      rw [putAll_splice _ _ _ (by omega)]
      simp [← hxl, h1']
     rw [this]
     exact q1
inductive POk (P : Program) (S : BT Nat) : List (Nat × Nat × (Env → AV)) → List (Nat × Operand) → (Nat → Option (Nat × Nat)) → Prop
 | nil (place) : POk P S [] [] place
 | cons {o n k : Nat} {x : Operand} {x' : Env → AV} {l l'} {place} (hp : place k = some (o, n)) (hx : OpndOk P S x x') (t : POk P S l l' place) : POk P S ((o, n, x') :: l) ((k, x) :: l') place
def evalPs (ps : List (Nat × Nat × (Env → AV))) (en : Env) : List (Nat × Nat × AV) := List.rec (motive := fun _ => List (Nat × Nat × AV)) [] (fun p _ ih => (p.1, p.2.1, p.2.2 en) :: ih) ps
theorem POk.rel {P : Program} {place : Nat → Option (Nat × Nat)} {N : Nat} {D : DF} {e : Emb} {en : Env} {a : Act} {H : AHeap} {w : World} (hr : Rel P.globals.size e H w) (ha : ARel S N D e en a) :
  ∀ {ps : List (Nat × Nat × (Env → AV))} {ps' : List (Nat × Operand)}, POk P S ps ps' place → PRel e (evalPs ps en) (ps'.map fun p => (p.1, a.eval p.2)) place
 | _, _, .nil _ => .nil _
 | _, _, .cons hp hx t => .cons hp (hx N D e en a H w hr ha) (POk.rel hr ha t)
def placeOf (P : Program) (t : TypeId) (k : Nat) : Option (Nat × Nat) :=
 match P.underlying t with
 | some (.struct fs) => (fs[k]?).bind fun f => (szOf P f.type).map fun s => (f.offset, s)
 | some (.array _ e) | some (.slice e) => (szOf P e).map fun s => (k * s, s)
 | _ => none
def fieldsOk (P : Program) (t : TypeId) : Bool :=
 match P.underlying t with
 | some (.struct fs) => fs.toList.all fun f => (szOf P f.type).isSome
 | _ => false
def opBuild (Z : List AV) (ps : List (Nat × Nat × (Env → AV))) (en : Env) (H : AHeap) : ORes := optL .fail (fun r => .v (.x (.agg r)) H) (fillA (evalPs ps en) Z)
theorem run_places {P : Program} (w : World) : ∀ (l : List Field), (l.all fun f => (szOf P f.type).isSome) = true →
  (l.mapM (fun f => do pure (f.offset, ← sizeOf f.type) : Field → Sem (Nat × Nat))).run P w = .ok (l.map fun f => (f.offset, (szOf P f.type).getD 0)) w
 | [], _ => by simp only [List.mapM_nil, Sem.run_pure, List.map_nil]
 | f :: l, h => by
  simp only [List.all_cons, Bool.and_eq_true] at h
  obtain ⟨n, hn⟩ := Option.isSome_iff_exists.1 h.1
  simp only [List.mapM_cons, Sem.run_bind, Sem.run_pure, Result.andThen_ok, run_sizeOf hn, run_places w l h.2, List.map_cons, hn, Option.getD_some]
theorem opBuild_struct_snd {P : Program} {o : Oper} {t : TypeId} {parts : Array (Nat × Operand)} {Z : List AV} {zv : Value} {ps : List (Nat × Nat × (Env → AV))} (ho : o.op = .build t parts) (hz : zeroOf P t = some zv)
  (hZ : ∀ e, VRels e Z zv.cells.toList) (hf : fieldsOk P t = true) (hp : POk P S ps parts.toList (placeOf P t)) (en : Env) (H : AHeap) : OSnd P S o en H (opBuild Z ps en H) := by
 unfold opBuild
 cases hl : fillA (evalPs ps en) Z with
 | none => trivial
 | some r =>
  simp only [optL]
  refine OSnd.pure fun N D e w a hr ha => ?_
  unfold fieldsOk at hf
  cases hu : P.underlying t with
  | none => rw [hu] at hf; cases hf
  | some d =>
   rw [hu] at hf
   cases d with
   | struct fs =>
    simp only at hf
    have hrel := POk.rel hr ha hp
    obtain ⟨r', q1, q2⟩ := fill_spec hrel hl (hZ e)
    refine ⟨.agg r'.toArray, ?_, .agg r r' q2⟩
    have hpl := run_places (P := P) w fs.toList hf
    have hmap : (fs.mapM (fun f => do pure (f.offset, ← sizeOf f.type) : Field → Sem (Nat × Nat))).run P w = .ok (fs.toList.map fun f => (f.offset, (szOf P f.type).getD 0)).toArray w := by
     rw [Array.mapM_eq_mapM_toList]
     simp only [Sem.run_map, hpl, Result.andThen_ok]
    have hplace : (fun i => ((fs.toList.map fun f => (f.offset, (szOf P f.type).getD 0)).toArray)[i]?) = placeOf P t := by
     funext k
     simp only [placeOf, hu, List.getElem?_toArray, List.getElem?_map, Array.getElem?_toList]
     cases hk : fs[k]? with
     | none => rfl
     | some f =>
      have hmem : f ∈ fs.toList := by
       rw [Array.getElem?_eq_some_iff] at hk
       obtain ⟨hlt, rfl⟩ := hk
       simp
      have := List.all_eq_true.1 hf f hmem
      obtain ⟨n, hn⟩ := Option.isSome_iff_exists.1 this
      simp [hn]
    have hcells : (⟨zv.cells.toList⟩ : Array Value) = zv.cells := rfl
    simp only [execOp, ho]
    simp only [Instr.build, Sem.run_bind, run_zeroOf hz, Result.andThen_ok, run_underlying hu, hmap, hplace]
    have hq : Instr.fill (placeOf P t) zv.cells (parts.map fun (i, x) => (i, a.eval x)).toList = some r'.toArray := by
     rw [← q1]
     simp
    simp only [hq, Sem.run_pure, Result.andThen_ok]
   | _ => simp at hf
def arrayOk (P : Program) (t : TypeId) : Bool :=
 match P.underlying t with
 | some (.array _ e) => (szOf P e).isSome
 | _ => false
theorem opBuild_array_snd {P : Program} {o : Oper} {t : TypeId} {parts : Array (Nat × Operand)} {Z : List AV} {zv : Value} {ps : List (Nat × Nat × (Env → AV))} (ho : o.op = .build t parts) (hz : zeroOf P t = some zv)
  (hZ : ∀ e, VRels e Z zv.cells.toList) (hf : arrayOk P t = true) (hp : POk P S ps parts.toList (placeOf P t)) (en : Env) (H : AHeap) : OSnd P S o en H (opBuild Z ps en H) := by
 unfold opBuild
 cases hl : fillA (evalPs ps en) Z with
 | none => trivial
 | some r =>
  simp only [optL]
  refine OSnd.pure fun N D e w a hr ha => ?_
  unfold arrayOk at hf
  cases hu : P.underlying t with
  | none => rw [hu] at hf; cases hf
  | some d =>
   rw [hu] at hf
   cases d with
   | array n el =>
    simp only at hf
    obtain ⟨sz, hs⟩ := Option.isSome_iff_exists.1 hf
    have hrel := POk.rel hr ha hp
    obtain ⟨r', q1, q2⟩ := fill_spec hrel hl (hZ e)
    refine ⟨.agg r'.toArray, ?_, .agg r r' q2⟩
    have hplace : placeOf P t = fun i => some (i * sz, sz) := by funext i; simp [placeOf, hu, hs]
    simp only [execOp, ho]
    simp only [Instr.build, Sem.run_bind, run_zeroOf hz, Result.andThen_ok, run_underlying hu, run_sizeOf hs]
    have hq : Instr.fill (fun i => some (i * sz, sz)) zv.cells (parts.map fun (i, x) => (i, a.eval x)).toList = some r'.toArray := by
     rw [← q1, hplace]
     simp
    simp only [hq, Sem.run_pure, Result.andThen_ok]
   | _ => simp at hf
end
end Go.Ab
namespace Go.Ab
open Go
noncomputable section
variable {S : BT Nat}
def bads (n : Nat) : List AV := List.replicate n (.x .bad)
theorem bads_rel (e : Emb) : ∀ (l : List Value), VRels e (bads l.length) l
 | [] => .nil
 | v :: l => by simp only [bads, List.length_cons, List.replicate_succ]; exact .cons (.bad v) (bads_rel e l)
def opBuildSlice (n len : Nat) (ps : List (Nat × Nat × (Env → AV))) (en : Env) (H : AHeap) : ORes :=
 optL .fail (fun r => .v (.sl H.nxt 0 len len) (newA H r)) (fillA (evalPs ps en) (bads n))
theorem opBuildSlice_snd {P : Program} {o : Oper} {t elem : TypeId} {len sz n : Nat} {parts : Array (Nat × Operand)} {ps : List (Nat × Nat × (Env → AV))} (ho : o.op = .buildSlice t len parts)
  (ht : P.underlying t = some (.slice elem)) (hs : szOf P elem = some sz) (hz : (zeroOf P elem).isSome = true) (hn : len * sz = n) (hn24 : n ≤ 16777216) (hp : POk P S ps parts.toList (placeOf P t)) (en : Env) (H : AHeap) :
  OSnd P S o en H (opBuildSlice n len ps en H) := by
 unfold opBuildSlice
 cases hl : fillA (evalPs ps en) (bads n) with
 | none => trivial
 | some r =>
  simp only [optL]
  refine OSnd.value fun N D e w a hr ha => ?_
  obtain ⟨zv, hzv⟩ := Option.isSome_iff_exists.1 hz
  have hrel := POk.rel hr ha hp
  have hplace : placeOf P t = fun i => some (i * sz, sz) := by funext i; simp [placeOf, ht, hs]
  rw [hplace] at hrel
  have key : ∀ (zs : Array Value), zs.size = n → ∃ r' : List Value, Instr.fill (fun i => some (i * sz, sz)) zs (parts.map fun (i, x) => (i, a.eval x)).toList = some r'.toArray ∧ VRels e r r' := by
   intro zs hzs
   have h0 := bads_rel e zs.toList
   rw [show zs.toList.length = n by simpa using hzs] at h0
   obtain ⟨r', q1, q2⟩ := fill_spec hrel hl h0
   refine ⟨r', ?_, q2⟩
   rw [← q1]; simp
  have h24 : ¬ (len * sz > 2 ^ 24) := by omega
  by_cases h0 : len * sz = 0
  · obtain ⟨r', q1, q2⟩ := key ((Array.range (len * sz)).map ((#[] : Array Value)[· % (#[] : Array Value).size]!)) (by simp [hn])
    have h := Evo.newRow hr q2 elem
    refine ⟨_, .slice (some ⟨w.heap.size, 0, none⟩) len len, _, ?_, ?_, h⟩
    · simp only [execOp, ho, Instr.buildSlice, Sem.run_bind, run_underlying ht, Result.andThen_ok, run_sizeOf hs, Sem.run_ite, if_neg h24, if_pos h0, Sem.run_pure, q1]
      simp [newRow]
    · exact .sl H.nxt 0 len len len ⟨w.heap.size, 0, r.length, 0, r'.length⟩ (by simp) (.inl rfl)
  · obtain ⟨r', q1, q2⟩ := key ((Array.range (len * sz)).map (zv.cells[· % zv.cells.size]!)) (by simp [hn])
    have h := Evo.newRow hr q2 elem
    refine ⟨_, .slice (some ⟨w.heap.size, 0, none⟩) len len, _, ?_, ?_, h⟩
    · simp only [execOp, ho, Instr.buildSlice, Sem.run_bind, run_underlying ht, Result.andThen_ok, run_sizeOf hs, Sem.run_ite, if_neg h24, if_neg h0, Sem.run_pure, run_zeroOf hzv, q1]
      simp [newRow]
    · exact .sl H.nxt 0 len len len ⟨w.heap.size, 0, r.length, 0, r'.length⟩ (by simp) (.inl rfl)
def opFieldAddr (off : Nat) (x : Env → AV) (en : Env) (H : AHeap) : ORes := avP .fail (fun b o => .v (.p b (Nat.add o off)) H) (x en)
def fldOf (P : Program) (t : TypeId) (k : Nat) : Option Nat :=
 match P.underlying t with
 | some (.struct fs) => (fs[k]?).bind fun f => (szOf P f.type).bind fun s => if s = 0 then none else some f.offset
 | _ => none
theorem opFieldAddr_snd {P : Program} {o : Oper} {t : TypeId} {x : Operand} {k off : Nat} {x' : Env → AV} (ho : o.op = .fieldAddr t x k) (hf : fldOf P t k = some off) (hx : OpndOk P S x x') (en : Env) (H : AHeap) :
  OSnd P S o en H (opFieldAddr off x' en H) := by
 unfold opFieldAddr
 cases h : x' en with
 | p b m =>
  simp only [avP]
  refine OSnd.pure fun N D e w a hr ha => ?_
  have h1 := hx N D e en a H w hr ha
  rw [h] at h1
  generalize hxv : a.eval x = xv at h1
  cases h1
  rename_i i hi
  unfold fldOf at hf
  cases hu : P.underlying t with
  | none => rw [hu] at hf; cases hf
  | some d =>
   rw [hu] at hf
   cases d with
   | struct fs =>
    simp only at hf
    cases hk : fs[k]? with
    | none => rw [hk] at hf; cases hf
    | some f =>
     rw [hk] at hf
     simp only [Option.bind_some] at hf
     cases hs : szOf P f.type with
     | none => rw [hs] at hf; cases hf
     | some s =>
      rw [hs] at hf
      simp only [Option.bind_some] at hf
      split at hf
      · cases hf
      · rename_i hs0
        cases hf
        refine ⟨.pointer (some ⟨i.blk, i.off + (m + f.offset), none⟩), ?_, .p b (m + f.offset) i hi⟩
        simp [execOp, ho, hxv, Instr.fieldAt, run_underlying hu, hk, Instr.sureAddr, fieldPlace, run_sizeOf hs, hs0, add_addr, Nat.add_assoc]
   | _ => simp at hf
 | _ => trivial
def opNilCheck (x : Env → AV) (en : Env) (H : AHeap) : ORes := avP .fail (fun b o => .v (.p b o) H) (x en)
theorem opNilCheck_snd {P : Program} {o : Oper} {x : Operand} {x' : Env → AV} (ho : o.op = .nilCheck x) (hx : OpndOk P S x x') (en : Env) (H : AHeap) : OSnd P S o en H (opNilCheck x' en H) := by
 unfold opNilCheck
 cases h : x' en with
 | p b m =>
  simp only [avP]
  refine OSnd.pure fun N D e w a hr ha => ?_
  have h1 := hx N D e en a H w hr ha
  rw [h] at h1
  generalize hxv : a.eval x = xv at h1
  cases h1
  rename_i i hi
  exact ⟨.pointer (some ⟨i.blk, i.off + m, none⟩), by simp [execOp, ho, hxv], .p b m i hi⟩
 | _ => trivial
def natOf (v : AV) : Option Nat :=
 avI none (fun k n => Bool.rec (motive := fun _ => Option Nat) (Bool.rec (motive := fun _ => Option Nat) none (Bool.rec (motive := fun _ => Option Nat) none (some n) (Nat.ble (Nat.add n 1) 9223372036854775808)) (Nat.beq k 3)) (some n) (Nat.ble 4 k)) v
theorem natOf_spec {v : AV} {n : Nat} (h : natOf v = some n) {e : Emb} {v' : Value} (hv : VRel e v v') : ∃ K, v' = .int K (n : Int) := by
 cases v with
 | i k m =>
  cases hv with
  | i _ _ hk hn =>
   simp only [natOf, avI] at h
   cases h4 : Nat.ble 4 k with
   | true =>
    rw [h4] at h
    simp only [Option.some.injEq] at h
    subst h
    have h4' : 4 ≤ k := by rw [ble_tt] at h4; exact h4
    refine ⟨kindOf k, ?_⟩
    congr 1
    have : k = 4 ∨ k = 5 ∨ k = 6 ∨ k = 7 := by omega
    rcases this with rfl | rfl | rfl | rfl <;> simp only [kindOf, IntKind.wrap, IntKind.signed, IntKind.bits] at * <;> simp <;> omega
   | false =>
    rw [h4] at h
    simp only at h
    cases h3 : Nat.beq k 3 with
    | false => rw [h3] at h; cases h
    | true =>
     rw [h3] at h
     simp only at h
     have h3' : k = 3 := Nat.eq_of_beq_eq_true h3
     cases hb : Nat.ble (Nat.add m 1) 9223372036854775808 with
     | false => rw [hb] at h; cases h
     | true =>
      rw [hb] at h
      simp only [Option.some.injEq] at h
      subst h
      subst h3'
      have hb' : m + 1 ≤ 9223372036854775808 := by rw [ble_tt] at hb; exact hb
      refine ⟨kindOf 3, ?_⟩
      congr 1
      simp only [kindOf, IntKind.wrap, IntKind.signed, IntKind.bits] at *
      simp
      omega
 | _ => cases h
def optN {R : Type} (d : R) (f : Nat → R) (x : Option Nat) : R := Option.rec (motive := fun _ => R) d f x
def opIndexAddr (sz : Nat) (x y : Env → AV) (en : Env) (H : AHeap) : ORes :=
 avSl .fail (fun b o len _ => optN .fail (fun n => bif' .fail (.v (.p b (Nat.add o (Nat.mul n sz))) H) (Nat.ble (Nat.add n 1) len)) (natOf (y en))) (x en)
theorem opIndexAddr_snd {P : Program} {o : Oper} {t elem : TypeId} {x y : Operand} {sz : Nat} {x' y' : Env → AV} (ho : o.op = .indexAddr t x y) (ht : P.underlying t = some (.slice elem)) (hs : szOf P elem = some sz)
  (hx : OpndOk P S x x') (hy : OpndOk P S y y') (en : Env) (H : AHeap) : OSnd P S o en H (opIndexAddr sz x' y' en H) := by
 unfold opIndexAddr
 cases h : x' en with
 | sl b m len cap =>
  simp only [avSl]
  cases hn : natOf (y' en) with
  | none => trivial
  | some n =>
   simp only [optN, bif']
   cases hb : Nat.ble (Nat.add n 1) len with
   | false => trivial
   | true =>
    have hlt : n < len := by rw [ble_tt] at hb; exact hb
    refine OSnd.pure fun N D e w a hr ha => ?_
    have h1 := hx N D e en a H w hr ha
    obtain ⟨K, hK⟩ := natOf_spec hn (hy N D e en a H w hr ha)
    rw [h] at h1
    generalize hxv : a.eval x = xv at h1
    cases h1 with
    | sl _ _ _ _ cap' i hi hc =>
     refine ⟨.pointer (some ⟨i.blk, i.off + (m + n * sz), none⟩), ?_, .p b (m + n * sz) i hi⟩
     simp [execOp, ho, hxv, hK, Instr.indexAt, asIntOf, run_underlying ht, hlt, run_sizeOf hs, add_addr, Nat.add_assoc]
    | slq => omega
 | _ => trivial
def opIndexAddrA (len sz : Nat) (x y : Env → AV) (en : Env) (H : AHeap) : ORes :=
 avP .fail (fun b o => optN .fail (fun n => bif' .fail (.v (.p b (Nat.add o (Nat.mul n sz))) H) (Nat.ble (Nat.add n 1) len)) (natOf (y en))) (x en)
theorem opIndexAddrA_snd {P : Program} {o : Oper} {t elem : TypeId} {x y : Operand} {len sz : Nat} {x' y' : Env → AV} (ho : o.op = .indexAddr t x y) (ht : P.underlying t = some (.array len elem)) (hs : szOf P elem = some sz)
  (hx : OpndOk P S x x') (hy : OpndOk P S y y') (en : Env) (H : AHeap) : OSnd P S o en H (opIndexAddrA len sz x' y' en H) := by
 unfold opIndexAddrA
 cases h : x' en with
 | p b m =>
  simp only [avP]
  cases hn : natOf (y' en) with
  | none => trivial
  | some n =>
   simp only [optN, bif']
   cases hb : Nat.ble (Nat.add n 1) len with
   | false => trivial
   | true =>
    have hlt : n < len := by rw [ble_tt] at hb; exact hb
    refine OSnd.pure fun N D e w a hr ha => ?_
    have h1 := hx N D e en a H w hr ha
    obtain ⟨K, hK⟩ := natOf_spec hn (hy N D e en a H w hr ha)
    rw [h] at h1
    generalize hxv : a.eval x = xv at h1
    cases h1
    rename_i i hi
    refine ⟨.pointer (some ⟨i.blk, i.off + (m + n * sz), none⟩), ?_, .p b (m + n * sz) i hi⟩
    simp [execOp, ho, hxv, hK, Instr.indexAt, asIntOf, run_underlying ht, hlt, run_sizeOf hs, Instr.sureAddr, add_addr, Nat.add_assoc]
 | _ => trivial
def getL (l : List AV) (k : Nat) : Option AV := List.rec (motive := fun _ => Nat → Option AV) (fun _ => none) (fun v _ ih k => Bool.rec (motive := fun _ => Option AV) (ih (Nat.sub k 1)) (some v) (Nat.beq k 0)) l k
theorem getL_eq (l : List AV) : ∀ k, getL l k = l[k]? := by
 induction l with
 | nil => intro k; rfl
 | cons v l ih =>
  intro k
  have h : getL (v :: l) k = Bool.rec (motive := fun _ => Option AV) (getL l (k - 1)) (some v) (Nat.beq k 0) := rfl
  rw [h, brec]
  simp only [beq_tt, ih]
  cases k <;> simp
def opExtract (k : Nat) (x : Env → AV) (en : Env) (H : AHeap) : ORes := avX .fail (axTup .fail (fun l => optE .fail (fun v => .v v H) (getL l k))) (x en)
theorem opExtract_snd {P : Program} {o : Oper} {x : Operand} {k : Nat} {x' : Env → AV} (ho : o.op = .extract x k) (hx : OpndOk P S x x') (en : Env) (H : AHeap) : OSnd P S o en H (opExtract k x' en H) := by
 unfold opExtract
 cases h : x' en with
 | x y =>
  cases y with
  | tup l =>
   simp only [avX, axTup]
   cases hv : getL l k with
   | none => trivial
   | some v =>
    simp only [optE]
    refine OSnd.pure fun N D e w a hr ha => ?_
    have h1 := hx N D e en a H w hr ha
    rw [h] at h1
    generalize hxv : a.eval x = xv at h1
    cases h1
    rename_i l' hl
    rw [getL_eq] at hv
    obtain ⟨v', g1, g2⟩ := hl.get hv
    exact ⟨v', by simp [execOp, ho, hxv, Instr.extract, g1], g2⟩
  | _ => trivial
 | _ => trivial
def opField1 (off : Nat) (x : Env → AV) (en : Env) (H : AHeap) : ORes := avX .fail (axAgg .fail (fun l => optE .fail (fun v => .v v H) (getL l off))) (x en)
def fldAt (P : Program) (t : TypeId) (k : Nat) : Option (Nat × TypeId) :=
 match P.underlying t with
 | some (.struct fs) => (fs[k]?).map fun f => (f.offset, f.type)
 | _ => none
theorem fldAt_spec {P : Program} {t : TypeId} {k off : Nat} {ft : TypeId} (h : fldAt P t k = some (off, ft)) : ∃ fs f, P.underlying t = some (.struct fs) ∧ fs[k]? = some f ∧ f.offset = off ∧ f.type = ft := by
 unfold fldAt at h
 cases hu : P.underlying t with
 | none => rw [hu] at h; cases h
 | some d =>
  rw [hu] at h
  cases d with
  | struct fs =>
   simp only at h
   cases hk : fs[k]? with
   | none => rw [hk] at h; cases h
   | some f => rw [hk] at h; simp at h; exact ⟨fs, f, rfl, hk, h.1, h.2⟩
  | _ => simp at h
theorem opField1_snd {P : Program} {o : Oper} {t ft : TypeId} {x : Operand} {k off : Nat} {x' : Env → AV} (ho : o.op = .field t x k) (hf : fldAt P t k = some (off, ft)) (hft : aggOf P ft = some none) (hx : OpndOk P S x x') (en : Env) (H : AHeap) :
  OSnd P S o en H (opField1 off x' en H) := by
 unfold opField1
 cases h : x' en with
 | x y =>
  cases y with
  | agg l =>
   simp only [avX, axAgg]
   cases hv : getL l off with
   | none => trivial
   | some v =>
    simp only [optE]
    refine OSnd.pure fun N D e w a hr ha => ?_
    have h1 := hx N D e en a H w hr ha
    rw [h] at h1
    generalize hxv : a.eval x = xv at h1
    cases h1
    rename_i l' hl
    rw [getL_eq] at hv
    obtain ⟨v', g1, g2⟩ := hl.get hv
    obtain ⟨fs, f, q1, q2, q3, q4⟩ := fldAt_spec hf
    subst q3 q4
    exact ⟨v', by simp [execOp, ho, hxv, Instr.field, run_underlying q1, q2, part, run_isAgg_none hft, asAgg, g1], g2⟩
  | _ => trivial
 | _ => trivial
def opFieldN (off n : Nat) (x : Env → AV) (en : Env) (H : AHeap) : ORes := avX .fail (axAgg .fail (fun l => bif' .fail (.v (.x (.agg ((l.drop off).take n))) H) (Nat.ble (Nat.add off n) l.length))) (x en)
theorem VRels.take {e : Emb} (m : Nat) : ∀ {a : List AV} {a' : List Value}, VRels e a a' → VRels e (a.take m) (a'.take m) := by
 induction m with
 | zero => intro a a' _; simp; exact .nil
 | succ m ih => intro a a' ha; cases ha with
  | nil => simp; exact .nil
  | cons hv ht => simp; exact .cons hv (ih ht)
theorem VRels.drop {e : Emb} (m : Nat) : ∀ {a : List AV} {a' : List Value}, VRels e a a' → VRels e (a.drop m) (a'.drop m) := by
 induction m with
 | zero => intro a a' h; simpa using h
 | succ m ih => intro a a' ha; cases ha with
  | nil => simp; exact .nil
  | cons hv ht => simp; exact ih ht
theorem opFieldN_snd {P : Program} {o : Oper} {t ft : TypeId} {x : Operand} {k off n : Nat} {x' : Env → AV} (ho : o.op = .field t x k) (hf : fldAt P t k = some (off, ft)) (hft : aggOf P ft = some (some n)) (hx : OpndOk P S x x') (en : Env) (H : AHeap) :
  OSnd P S o en H (opFieldN off n x' en H) := by
 unfold opFieldN
 cases h : x' en with
 | x y =>
  cases y with
  | agg l =>
   simp only [avX, axAgg, bif']
   cases hv : Nat.ble (Nat.add off n) l.length with
   | false => trivial
   | true =>
    refine OSnd.pure fun N D e w a hr ha => ?_
    have h1 := hx N D e en a H w hr ha
    rw [h] at h1
    generalize hxv : a.eval x = xv at h1
    cases h1
    rename_i l' hl
    obtain ⟨fs, f, q1, q2, q3, q4⟩ := fldAt_spec hf
    subst q3 q4
    obtain ⟨t1, t2⟩ := run_isAgg_some hft w
    refine ⟨.agg ((l'.drop f.offset).take n).toArray, ?_, .agg _ _ ((hl.drop _).take _)⟩
    simp only [execOp, ho]
    simp only [Instr.field, Sem.run_bind, run_underlying q1, Result.andThen_ok, q2, hxv, asAgg, Sem.run_pure, part, t1, t2, if_true]
    congr 3
    apply Array.ext'
    simp [List.extract_eq_take_drop]
  | _ => trivial
 | _ => trivial
def opMakeInterface (t : Nat) (x : Env → AV) (en : Env) (H : AHeap) : ORes := .v (.x (.ifc t (x en))) H
def isIface (P : Program) (t : TypeId) : Option Bool := (P.underlying t).map fun d => match d with | .interface _ => true | _ => false
theorem opMakeInterface_snd {P : Program} {o : Oper} {t : TypeId} {x : Operand} {x' : Env → AV} (ho : o.op = .makeInterface t x) (ht : isIface P t = some false) (hx : OpndOk P S x x') (en : Env) (H : AHeap) :
  OSnd P S o en H (opMakeInterface t x' en H) :=
 OSnd.pure fun N D e w a hr ha => by
  refine ⟨.iface t (a.eval x), ?_, .ifc t _ _ (hx N D e en a H w hr ha)⟩
  unfold isIface at ht
  cases hu : P.underlying t with
  | none => rw [hu] at ht; cases ht
  | some d => rw [hu] at ht; cases d <;> simp at ht <;> simp [execOp, ho, Instr.makeInterface, run_underlying hu]
def evalL (xs : List (Env → AV)) (en : Env) : List AV := List.rec (motive := fun _ => List AV) [] (fun x _ ih => x en :: ih) xs
inductive OpndsOk (P : Program) (S : BT Nat) : List Operand → List (Env → AV) → Prop
 | nil : OpndsOk P S [] []
 | cons {x x' l l'} (hx : OpndOk P S x x') (t : OpndsOk P S l l') : OpndsOk P S (x :: l) (x' :: l')
theorem OpndsOk.rel {P : Program} {N : Nat} {D : DF} {e : Emb} {en : Env} {a : Act} {H : AHeap} {w : World} (hr : Rel P.globals.size e H w) (ha : ARel S N D e en a) :
  ∀ {l : List Operand} {l' : List (Env → AV)}, OpndsOk P S l l' → VRels e (evalL l' en) (l.map a.eval)
 | _, _, .nil => .nil
 | _, _, .cons hx t => .cons (hx N D e en a H w hr ha) (OpndsOk.rel hr ha t)
theorem toArray_map {α β : Type} (f : α → β) (xs : Array α) : (xs.toList.map f).toArray = xs.map f := by apply Array.ext'; simp
def opMakeFunc (f : Nat) (xs ys : List (Env → AV)) (en : Env) (H : AHeap) : ORes := .v (.x (.fn f (evalL xs en) (evalL ys en))) H
theorem opMakeFunc_snd {P : Program} {o : Oper} {f : Nat} {xs ys : Array Operand} {xs' ys' : List (Env → AV)} (ho : o.op = .makeFunc (.func f) xs ys) (hx : OpndsOk P S xs.toList xs') (hy : OpndsOk P S ys.toList ys') (en : Env) (H : AHeap) :
  OSnd P S o en H (opMakeFunc f xs' ys' en H) :=
 OSnd.pure fun N D e w a hr ha => by
  refine ⟨.func (.func f) (xs.map a.eval) (ys.map a.eval), by simp [execOp, ho, Instr.makeFunc], ?_⟩
  have := VRel.fn (e := e) f _ _ _ _ (hx.rel hr ha) (hy.rel hr ha)
  rwa [toArray_map, toArray_map] at this
def opMakeMap (_ : Env) (H : AHeap) : ORes := .v (.x (.m H.nxt)) (H.alloc (.m []))
theorem opMakeMap_snd {P : Program} {o : Oper} {t : TypeId} (ho : o.op = .makeMap t none) (en : Env) (H : AHeap) : OSnd P S o en H (opMakeMap en H) :=
 OSnd.value fun N D e w a hr ha => by
  have h := Evo.alloc hr (.m []) (.map #[] 0) ⟨w.heap.size, 0, 0, 0, 0⟩ rfl ⟨#[], 0, rfl, .nil, BornOk.nil⟩
  exact ⟨_, .map (some w.heap.size), _, by simp [execOp, ho, Instr.makeMap], .m H.nxt ⟨w.heap.size, 0, 0, 0, 0⟩ (by simp), h⟩
end
end Go.Ab
