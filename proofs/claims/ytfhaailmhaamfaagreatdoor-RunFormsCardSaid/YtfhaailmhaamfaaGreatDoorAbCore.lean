/-
  An abstract memory for Go runs: blocks by number, no capacities, no draws; its relation to the model's world.
-/
import Derived.Calls
import Derived.Defers
import Derived.Laws.Cells
import Derived.Laws.Append
import Derived.Laws.World
namespace Go.Ab
open Go

/-! ### Braun trees: numbered from 0 -/
inductive BT (α : Type) where
  | lf : BT α
  | nd (l : BT α) (v : α) (r : BT α) : BT α

noncomputable section

def BT.get {α : Type} (t : BT α) : Nat → Option α :=
  BT.rec (motive := fun _ => Nat → Option α) (fun _ => none)
    (fun _ v _ il ir i => Bool.rec (motive := fun _ => Option α)
      (Bool.rec (motive := fun _ => Option α) (ir (Nat.sub (Nat.div i 2) 1)) (il (Nat.div i 2)) (Nat.beq (Nat.mod i 2) 1)) (some v) (Nat.beq i 0)) t

def BT.set {α : Type} (a : α) (t : BT α) : Nat → BT α :=
  BT.rec (motive := fun _ => Nat → BT α) (fun _ => .lf)
    (fun l v r il ir i => Bool.rec (motive := fun _ => BT α)
      (Bool.rec (motive := fun _ => BT α) (.nd l v (ir (Nat.sub (Nat.div i 2) 1))) (.nd (il (Nat.div i 2)) v r) (Nat.beq (Nat.mod i 2) 1)) (.nd l a r) (Nat.beq i 0)) t

def BT.cons {α : Type} (t : BT α) : α → BT α :=
  BT.rec (motive := fun _ => α → BT α) (fun x => .nd .lf x .lf) (fun l y _ _ ir x => .nd (ir y) x l) t

def BT.ofList {α : Type} (l : List α) : BT α := List.rec (motive := fun _ => BT α) .lf (fun a _ ih => ih.cons a) l

section
variable {α : Type}
@[simp] theorem BT.get_lf (i : Nat) : (BT.lf : BT α).get i = none := rfl
theorem brec {C : Type} (a b : C) (x : Bool) : Bool.rec (motive := fun _ => C) a b x = if x = true then b else a := by cases x <;> rfl
theorem beq_tt (a b : Nat) : (Nat.beq a b = true) = (a = b) := propext ⟨Nat.eq_of_beq_eq_true, fun h => by subst h; exact Nat.beq_refl a⟩
theorem BT.get_nd (l r : BT α) (v : α) (i : Nat) : (BT.nd l v r).get i =
    if i = 0 then some v else if i % 2 = 1 then l.get (i / 2) else r.get (i / 2 - 1) := by
  have h : (BT.nd l v r).get i = Bool.rec (motive := fun _ => Option α)
      (Bool.rec (motive := fun _ => Option α) (r.get (Nat.sub (Nat.div i 2) 1)) (l.get (Nat.div i 2)) (Nat.beq (Nat.mod i 2) 1)) (some v) (Nat.beq i 0) := rfl
  rw [h, brec, brec]
  simp only [beq_tt]
  rfl
theorem BT.set_nd (l r : BT α) (v a : α) (i : Nat) : (BT.nd l v r).set a i =
    if i = 0 then .nd l a r else if i % 2 = 1 then .nd (l.set a (i / 2)) v r else .nd l v (r.set a (i / 2 - 1)) := by
  have h : (BT.nd l v r).set a i = Bool.rec (motive := fun _ => BT α)
      (Bool.rec (motive := fun _ => BT α) (.nd l v (r.set a (Nat.sub (Nat.div i 2) 1))) (.nd (l.set a (Nat.div i 2)) v r) (Nat.beq (Nat.mod i 2) 1)) (.nd l a r) (Nat.beq i 0) := rfl
  rw [h, brec, brec]
  simp only [beq_tt]
  rfl
@[simp] theorem BT.cons_lf (x : α) : (BT.lf : BT α).cons x = .nd .lf x .lf := rfl
@[simp] theorem BT.cons_nd (l r : BT α) (y x : α) : (BT.nd l y r).cons x = .nd (r.cons y) x l := rfl

theorem BT.get_set (t : BT α) (a : α) : ∀ (i j : Nat), (t.set a i).get j = if j = i then (t.get i).map (fun _ => a) else t.get j := by
  induction t with
  | lf => intro i j; show (BT.lf : BT α).get j = _; simp
  | nd l v r il ir =>
    intro i j
    rw [BT.set_nd]
    by_cases hi : i = 0
    · subst hi
      rw [if_pos rfl, BT.get_nd, BT.get_nd, BT.get_nd]
      by_cases hj : j = 0 <;> simp [hj]
    · rw [if_neg hi]
      by_cases hm : i % 2 = 1
      · rw [if_pos hm]
        simp only [BT.get_nd, il, if_neg hi, if_pos hm]
        by_cases hj : j = 0
        · subst hj; simp [Ne.symm hi]
        · by_cases hjm : j % 2 = 1
          · simp only [if_neg hj, if_pos hjm]
            by_cases he : j = i
            · simp [he]
            · have : ¬ (j / 2 = i / 2) := by omega
              simp [he, this]
          · simp only [if_neg hj, if_neg hjm]
            have : j ≠ i := by intro h; subst h; exact hjm hm
            simp [this]
      · rw [if_neg hm]
        simp only [BT.get_nd, ir, if_neg hi, if_neg hm]
        by_cases hj : j = 0
        · subst hj; simp [Ne.symm hi]
        · by_cases hjm : j % 2 = 1
          · simp only [if_neg hj, if_pos hjm]
            have : j ≠ i := by intro h; subst h; exact hm hjm
            simp [this]
          · simp only [if_neg hj, if_neg hjm]
            by_cases he : j = i
            · simp [he]
            · have : ¬ (j / 2 - 1 = i / 2 - 1) := by omega
              simp [he, this]

theorem BT.get_cons (t : BT α) : ∀ (x : α) (i : Nat), (t.cons x).get i = if i = 0 then some x else t.get (i - 1) := by
  induction t with
  | lf =>
    intro x i
    rw [BT.cons_lf, BT.get_nd]
    by_cases h : i = 0 <;> simp [h]
  | nd l y r _ ir =>
    intro x i
    rw [BT.cons_nd, BT.get_nd]
    by_cases h : i = 0
    · simp [h]
    · rw [if_neg h, if_neg h, BT.get_nd]
      by_cases hm : i % 2 = 1
      · rw [if_pos hm, ir]
        by_cases h1 : i = 1
        · subst h1; simp
        · have e1 : ¬ (i / 2 = 0) := by omega
          have e2 : ¬ (i - 1 = 0) := by omega
          have e3 : ¬ ((i - 1) % 2 = 1) := by omega
          rw [if_neg e1, if_neg e2, if_neg e3]
          congr 1; omega
      · have e2 : ¬ (i - 1 = 0) := by omega
        have e3 : (i - 1) % 2 = 1 := by omega
        rw [if_neg hm, if_neg e2, if_pos e3]
        congr 1; omega

theorem BT.get_ofList : ∀ (l : List α) (i : Nat), (BT.ofList l).get i = l[i]?
  | [], i => by show (BT.lf : BT α).get i = _; simp
  | a :: l, i => by
    show ((BT.ofList l).cons a).get i = _
    rw [BT.get_cons, BT.get_ofList l]
    cases i <;> simp
end

/-! ### Values -/
inductive AVp (X : Type) where
  /-- an integer of kind number k, as its digits (two's complement) -/
  | i (k n : Nat)
  | b (v : Bool)
  /-- a string: its length, its bytes as one number (the first is the lowest) -/
  | s (len code : Nat)
  | p (b o : Nat)
  | sl (b o len cap : Nat)
  | x (v : X)

inductive AX where
  | bad
  | nilp | nils | nilm | nilf | nili
  | m (r : Nat)
  | fn (f : Nat) (first captured : List (AVp AX))
  | ifc (t : Nat) (v : AVp AX)
  | agg (l : List (AVp AX))
  | tup (l : List (AVp AX))
  | fl (bits : Nat)
  /-- an int that is not known, but for what is left where it is divided by m: from r / 65536 up to r % 65536 -/
  | sy (m r : Nat)
  /-- a whole number of kind k, its digits from lo up to hi -/
  | rg (k lo hi : Nat)

abbrev AV := AVp AX

def kindOf : Nat → IntKind
  | 0 => .i8 | 1 => .i16 | 2 => .i32 | 3 => .i64 | 4 => .u8 | 5 => .u16 | 6 => .u32 | _ => .u64

/-- The bytes of a string's number. -/
def bytesOf : Nat → Nat → List UInt8
  | 0, _ => []
  | n + 1, c => UInt8.ofNat (c % 256) :: bytesOf n (c / 256)

/-- Where an abstract block lies: the model's block, the first cell; how many cells; the element's size if it may have room behind it; the size of the model's block. -/
structure Info where
  blk : Nat
  off : Nat
  len : Nat
  sp : Nat
  room : Nat

abbrev Emb := Nat → Option Info

def CapOk (i : Info) (o cap cap' : Nat) : Prop :=
  cap' = cap ∨ (0 < i.sp ∧ o + cap * i.sp = i.len ∧ cap ≤ cap' ∧ i.off + o + cap' * i.sp ≤ i.room)

mutual
inductive VRel (e : Emb) : AV → Value → Prop
  | bad (v : Value) : VRel e (.x .bad) v
  | i (k n : Nat) (hk : k < 8) (hn : n < 2 ^ (kindOf k).bits) : VRel e (.i k n) (.int (kindOf k) ((kindOf k).wrap (n : Int)))
  | b (v : Bool) : VRel e (.b v) (.bool v)
  | s (len code : Nat) (h : code < 256 ^ len) : VRel e (.s len code) (.string ⟨(bytesOf len code).toArray⟩)
  | p (b o : Nat) (i : Info) (h : e b = some i) : VRel e (.p b o) (.pointer (some ⟨i.blk, i.off + o, none⟩))
  | sl (b o len cap cap' : Nat) (i : Info) (h : e b = some i) (hc : CapOk i o cap cap') :
      VRel e (.sl b o len cap) (.slice (some ⟨i.blk, i.off + o, none⟩) len cap')
  | slq (b o : Nat) (a : Addr) : VRel e (.sl b o 0 0) (.slice (some a) 0 0)
  | nilp : VRel e (.x .nilp) (.pointer none)
  | nils : VRel e (.x .nils) (.slice none 0 0)
  | nilm : VRel e (.x .nilm) (.map none)
  | nilf : VRel e (.x .nilf) .nilFunc
  | nili : VRel e (.x .nili) .nilIface
  | m (r : Nat) (i : Info) (h : e r = some i) : VRel e (.x (.m r)) (.map (some i.blk))
  | fn (f : Nat) (a c : List AV) (a' c' : List Value) (ha : VRels e a a') (hc : VRels e c c') : VRel e (.x (.fn f a c)) (.func (.func f) a'.toArray c'.toArray)
  | ifc (t : Nat) (v : AV) (v' : Value) (h : VRel e v v') : VRel e (.x (.ifc t v)) (.iface t v')
  | agg (l : List AV) (l' : List Value) (h : VRels e l l') : VRel e (.x (.agg l)) (.agg l'.toArray)
  | tup (l : List AV) (l' : List Value) (h : VRels e l l') : VRel e (.x (.tup l)) (.tuple l'.toArray)
  | fl (bits : Nat) : VRel e (.x (.fl bits)) (.float .f64 bits)
  | sy (m r n : Nat) (hn : n < 2 ^ (kindOf 3).bits) (h : ∃ q : Nat, (kindOf 3).wrap (n : Int) % (m : Int) = q ∧ r / 65536 ≤ q ∧ q ≤ r % 65536) : VRel e (.x (.sy m r)) (.int (kindOf 3) ((kindOf 3).wrap (n : Int)))
  | rg (k lo hi n : Nat) (hk : k < 8) (hn : n < 2 ^ (kindOf k).bits) (h1 : lo ≤ n) (h2 : n ≤ hi) : VRel e (.x (.rg k lo hi)) (.int (kindOf k) ((kindOf k).wrap (n : Int)))
inductive VRels (e : Emb) : List AV → List Value → Prop
  | nil : VRels e [] []
  | cons {v : AV} {v' : Value} {l : List AV} {l' : List Value} (h : VRel e v v') (t : VRels e l l') : VRels e (v :: l) (v' :: l')
end

end
end Go.Ab
