/- A small code over the abstract memory: its meaning, and a check that it is the model's. -/
import Derived.Test.YtfhaailmhaamfaaGreatDoorAbStr2
import Derived.Test.YtfhaailmhaamfaaGreatDoorAbApp2
import Derived.Test.YtfhaailmhaamfaaGreatDoorAbRng
namespace Go.Ab
open Go

inductive KO where
  | t (n : Nat) | va (p : VP) | c (v : AV) | g (n : Nat) | f (n : Nat)

inductive KBin where
  | add | sub | mul | eq | ne | lt | le | gt | ge | and | or | xor | andn | quo | rem
inductive KSh where | shl | shr
inductive KUn where | not | neg (k M : Nat) | conv (k M : Nat)
inductive KStr where | cat | eq | ne | lt
inductive KCmp where | i | s | cs (ks : List Nat)

inductive KOp where
  | move (x : KO)
  | pick (c x y : KO)
  | load1 (x : KO)
  | loadN (n : Nat) (x : KO)
  | store (n : Nat) (x y : KO)
  | alloc (Z : List AV)
  | box (x : KO)
  | build (Z : List AV) (ps : List (Nat × Nat × KO))
  | bslice (n len : Nat) (ps : List (Nat × Nat × KO))
  | fa (off : Nat) (x : KO)
  | nilc (x : KO)
  | ia (sz : Nat) (x y : KO)
  | iaA (len sz : Nat) (x y : KO)
  | ext (k : Nat) (x : KO)
  | fld1 (off : Nat) (x : KO)
  | fldN (off n : Nat) (x : KO)
  | ifc (t : Nat) (x : KO)
  | mkf (f : Nat) (xs ys : List KO)
  | mkm
  | sl (sz : Nat) (x : KO) (lo hi mx : Option KO)
  | slA (n sz : Nat) (x : KO) (lo hi mx : Option KO)
  | bin (b : KBin) (k M h : Nat) (x y : KO)
  | sh (b : KSh) (k M h bits : Nat) (x y : KO)
  | un (u : KUn) (x : KO)
  | str (b : KStr) (x y : KO)
  | idxS (x y : KO)
  | slS (x : KO) (lo hi : Option KO)
  | binB (ne : Bool) (x y : KO)
  | eqC (ks : List Nat) (ne : Bool) (x y : KO)
  | eqR (k : Nat) (ne : Bool) (x y : KO)
  | app (sz bytes : Nat) (x y : KO)
  | len (k : Nat) (x : KO)
  | cap (sz : Nat) (x : KO)
  | mks (bytes : Nat) (Z : List AV) (x y : KO)
  | appZ (bytes sz : Nat) (Z : List AV) (x y : KO)
  | look (c : KCmp) (Z : AV) (ok : Bool) (x y : KO)
  | mapu (c : KCmp) (x y z : KO)
  | pan (x : KO)
  | call (f : Nat) (xs : List KO)
  | callv (x : KO) (xs : List KO)
  | unk
  | b2s (x : KO)
  | mn (k M h : Nat) (x y : KO)

noncomputable section
variable {S : BT Nat}
def KO.den (x : KO) : Env → AV := KO.rec (motive := fun _ => Env → AV) oT oV oC oG oF x
def KO.dens (l : List KO) : List (Env → AV) := List.rec (motive := fun _ => List (Env → AV)) [] (fun x _ ih => x.den :: ih) l
def KO.denP (l : List (Nat × Nat × KO)) : List (Nat × Nat × (Env → AV)) := List.rec (motive := fun _ => List (Nat × Nat × (Env → AV))) [] (fun p _ ih => (p.1, p.2.1, p.2.2.den) :: ih) l
def KO.denO (x : Option KO) : Option (Env → AV) := Option.rec (motive := fun _ => Option (Env → AV)) none (fun x => some x.den) x
def KBin.den (b : KBin) (k M h : Nat) : Nat → Nat → Option AV :=
  KBin.rec (motive := fun _ => Nat → Nat → Option AV) (iAdd k M) (iSub k M) (iMul k M) iEq iNe (iLt M h) (iLe M h) (fun n m => iLt M h m n) (fun n m => iLe M h m n) (iAnd k) (iOr k) (iXor k) (iAndNot k M) (iQuo k M h) (iRem k M h) b
def KBin.rng (b : KBin) (k M h : Nat) : Nat → Nat → Nat → Nat → Option AV :=
  KBin.rec (motive := fun _ => Nat → Nat → Nat → Nat → Option AV) (gAdd k M) (gSub k M) (fun _ _ _ _ => none) (gEq false) (gEq true) (gLt M h) (gLe M h) (fun a b c d => gLt M h c d a b) (fun a b c d => gLe M h c d a b) (fun _ _ _ _ => none) (fun _ _ _ _ => none) (fun _ _ _ _ => none) (fun _ _ _ _ => none) (fun _ _ _ _ => none) (fun _ _ _ _ => none) b
def KSh.den (b : KSh) (k M h bits : Nat) : Nat → Nat → Option AV := KSh.rec (motive := fun _ => Nat → Nat → Option AV) (sShl k M bits) (sShr k h bits) b
def halfT (k : Nat) : Nat := Nat.rec (motive := fun _ => Nat) 128 (fun k _ => Nat.rec (motive := fun _ => Nat) 32768 (fun k _ => Nat.rec (motive := fun _ => Nat) 2147483648 (fun k _ => Nat.rec (motive := fun _ => Nat) 9223372036854775808
  (fun k _ => Nat.rec (motive := fun _ => Nat) 256 (fun k _ => Nat.rec (motive := fun _ => Nat) 65536 (fun k _ => Nat.rec (motive := fun _ => Nat) 4294967296 (fun _ _ => 18446744073709551616) k) k) k) k) k) k) k
def modT (k : Nat) : Nat := Nat.rec (motive := fun _ => Nat) 256 (fun k _ => Nat.rec (motive := fun _ => Nat) 65536 (fun k _ => Nat.rec (motive := fun _ => Nat) 4294967296 (fun k _ => Nat.rec (motive := fun _ => Nat) 18446744073709551616
  (fun k _ => Nat.rec (motive := fun _ => Nat) 256 (fun k _ => Nat.rec (motive := fun _ => Nat) 65536 (fun k _ => Nat.rec (motive := fun _ => Nat) 4294967296 (fun _ _ => 18446744073709551616) k) k) k) k) k) k) k
def KUn.den (u : KUn) : AV → Option AV := KUn.rec (motive := fun _ => AV → Option AV) uNot uNegG (fun k M => uConv k M halfT modT) u
def KStr.den (b : KStr) : Nat → Nat → Nat → Nat → Option AV := KStr.rec (motive := fun _ => Nat → Nat → Nat → Nat → Option AV) sCat sEq sNe sLt b
def KCmp.den (c : KCmp) : AV → AV → Option Bool := KCmp.rec (motive := fun _ => AV → AV → Option Bool) (eqAtom 0) (eqAtom 2) cmpC c
def KCmp.free (c : KCmp) : AV → Bool := KCmp.rec (motive := fun _ => AV → Bool) (fun _ => true) (fun _ => true) (fun ks => aggLen ks.length) c

abbrev Fs := Nat → List AV → AHeap → ORes

/-- A value is called: what it holds is put about the arguments. -/
def callV (F : Fs) (v : AV) (args : List AV) (H : AHeap) : ORes :=
  avX .fail (fun u => AX.casesOn (motive_1 := fun _ => ORes) u .fail .fail .fail .fail .fail .fail (fun _ => .fail) (fun f a c => F f (a ++ (args ++ c)) H) (fun _ _ => .fail) (fun _ => .fail) (fun _ => .fail) (fun _ => .fail) (fun _ _ => .fail) (fun _ _ _ => .fail)) v

def opPan (x : Env → AV) (en : Env) (H : AHeap) : ORes :=
  avX .fail (fun u => AX.casesOn (motive_1 := fun _ => ORes) u .fail .fail .fail .fail .fail .fail (fun _ => .fail) (fun _ _ _ => .fail) (fun t v => .pan (.x (.ifc t v)) H) (fun _ => .fail) (fun _ => .fail) (fun _ => .fail) (fun _ _ => .fail) (fun _ _ _ => .fail)) (x en)

def KOp.den (F : Fs) (k : KOp) : Env → AHeap → ORes :=
  KOp.rec (motive := fun _ => Env → AHeap → ORes)
    (fun x => opMove x.den) (fun c x y => opPick c.den x.den y.den) (fun x => opLoad1 x.den) (fun n x => opLoadN n x.den) (fun n x y => opStore n x.den y.den)
    opAlloc (fun x => opBox x.den) (fun Z ps => opBuild Z (KO.denP ps)) (fun n len ps => opBuildSlice n len (KO.denP ps))
    (fun off x => opFieldAddr off x.den) (fun x => opNilCheck x.den) (fun sz x y => opIndexAddr sz x.den y.den) (fun len sz x y => opIndexAddrA len sz x.den y.den)
    (fun k x => opExtract k x.den) (fun off x => opField1 off x.den) (fun off n x => opFieldN off n x.den) (fun t x => opMakeInterface t x.den) (fun f xs ys => opMakeFunc f (KO.dens xs) (KO.dens ys))
    opMakeMap (fun sz x lo hi mx => opSlice sz x.den (KO.denO lo) (KO.denO hi) (KO.denO mx)) (fun n sz x lo hi mx => opSliceA n sz x.den (KO.denO lo) (KO.denO hi) (KO.denO mx))
    (fun b k M h x y => opBinG k (b.den k M h) (b.rng k M h) x.den y.den) (fun b k M h bits x y => opShift k (b.den k M h bits) x.den y.den) (fun u x => opUn u.den x.den)
    (fun b x y => opBinS b.den x.den y.den) (fun x y => opIndexS x.den y.den) (fun x lo hi => opSliceS x.den (KO.denO lo) (KO.denO hi))
    (fun ne x y => opBinB (Bool.rec (motive := fun _ => Bool → Bool → Bool) bEq bNe ne) x.den y.den) (fun ks ne x y => opEqC ks ne x.den y.den) (fun k ne x y => opEqR k ne x.den y.den)
    (fun sz bytes x y => opAppendF sz bytes x.den y.den) (fun k x => opLen k x.den) (fun sz x => opCap sz x.den) (fun bytes Z x y => opMakeSlice bytes Z x.den y.den) (fun bytes sz Z x y => opAppendZ bytes sz Z x.den y.den)
    (fun c Z ok x y => opLookup c.den c.free Z ok x.den y.den) (fun c x y z => opMapUpdate c.den c.free x.den y.den z.den)
    (fun x => opPan x.den)
    (fun f xs en H => F f (evalL (KO.dens xs) en) H) (fun x xs en H => callV F (x.den en) (evalL (KO.dens xs) en) H) (fun _ _ => .fail) (fun x => opB2S x.den) (fun k M h x y => opBinI k (iMin k M h) x.den y.den) k

/-! ### The check -/
def sameL {α β : Type} (f : α → β → Bool) : List α → List β → Bool
  | [], [] => true
  | a :: l, b :: m => f a b && sameL f l m
  | _, _ => false

def strB (len code : Nat) (b : ByteArray) : Bool := Nat.ble (code + 1) (256 ^ len) && (bytesOf len code == b.data.toList)
def intB (k n : Nat) (K : IntKind) (z : Int) : Bool := Nat.ble (k + 1) 8 && Nat.ble (n + 1) (2 ^ (kindOf k).bits) && (decide (kindOf k = K) && decide (K.wrap (n : Int) = z))
/-- A value without inner values. -/
def atomB (v : AV) (u : Value) : Bool :=
  match v, u with
  | .i k n, .int K z => intB k n K z
  | .b x, .bool y => x == y
  | .s l c, .string b => strB l c b
  | .x .nilp, .pointer none => true
  | .x .nils, .slice none 0 0 => true
  | .x .nilm, .map none => true
  | .x .nilf, .nilFunc => true
  | .x .nili, .nilIface => true
  | .x (.fl b), .float .f64 c => b == c
  | .x .bad, _ => true
  | _, _ => false
def litB (v : AV) (u : Value) : Bool :=
  match v, u with
  | .x (.agg l), .agg a => sameL atomB l a.toList
  | v, u => atomB v u

theorem kindOf_eq {k : Nat} {K : IntKind} (h : kindOf k = K) (n : Nat) : K.wrap (n : Int) = (kindOf k).wrap (n : Int) := by rw [h]
theorem atomB_spec {v : AV} {u : Value} (h : atomB v u = true) (e : Emb) : VRel e v u := by
  unfold atomB at h
  split at h
  · rename_i k n K z
    simp only [intB, Bool.and_eq_true, decide_eq_true_eq, ble_tt] at h
    obtain ⟨⟨h1, h2⟩, h3, h4⟩ := h
    subst h3; subst h4
    exact .i k n (by omega) (by omega)
  · rename_i x y; have : x = y := by simpa using h
    subst this; exact .b x
  · rename_i l c b
    simp only [strB, Bool.and_eq_true, ble_tt, beq_iff_eq] at h
    obtain ⟨h1, h2⟩ := h
    have : b = ⟨(bytesOf l c).toArray⟩ := by
      cases b; rename_i d; simp only at h2; rw [h2]
    rw [this]; exact .s l c (by omega)
  · exact .nilp
  · exact .nils
  · exact .nilm
  · exact .nilf
  · exact .nili
  · rename_i b c; have : b = c := by simpa using h
    subst this; exact .fl b
  · exact .bad _
  · cases h
theorem sameL_atoms : ∀ {l : List AV} {m : List Value}, sameL atomB l m = true → ∀ e, VRels e l m
  | [], [], _, e => .nil
  | a :: l, b :: m, h, e => by
    simp only [sameL, Bool.and_eq_true] at h
    exact .cons (atomB_spec h.1 e) (sameL_atoms h.2 e)
  | [], _ :: _, h, _ => by simp [sameL] at h
  | _ :: _, [], h, _ => by simp [sameL] at h
theorem litB_spec {v : AV} {u : Value} (h : litB v u = true) (e : Emb) : VRel e v u := by
  unfold litB at h
  split at h
  · rename_i l a
    have := VRel.agg l a.toList (sameL_atoms h e)
    simpa using this
  · exact atomB_spec h e

def KO.ok (P : Program) (S : BT Nat) (x : KO) (o : Operand) : Bool :=
  match x, o with
  | .t n, .tmp m => Nat.beq n m && Nat.beq (countB m S) 0
  | .va p, .tmp m => (match p.at S with | some k => Nat.beq k m | none => false)
  | .c v, .const u => litB v u
  | .g n, .global m => Nat.beq n m && Nat.ble (n + 1) P.globals.size
  | .f n, .func m => Nat.beq n m
  | _, _ => false
theorem KO.ok_spec {P : Program} {x : KO} {o : Operand} (h : x.ok P S o = true) : OpndOk P S o x.den := by
  unfold KO.ok at h
  split at h
  · simp only [Bool.and_eq_true, beq_tt] at h
    obtain ⟨h1, h2⟩ := h
    subst h1; exact opnd_tmp P _ h2
  · split at h
    · rename_i k hk
      have := Nat.eq_of_beq_eq_true h; subst this; exact opnd_var P _ _ hk
    · cases h
  · exact opnd_const P _ _ (litB_spec h)
  · simp only [Bool.and_eq_true, ble_tt] at h
    have := Nat.eq_of_beq_eq_true h.1; subst this; exact opnd_global P _ (by omega)
  · have := Nat.eq_of_beq_eq_true h; subst this; exact opnd_func P _
  · cases h
def KO.okO (P : Program) (S : BT Nat) (x : Option KO) (o : Option Operand) : Bool :=
  match x, o with
  | none, none => true
  | some x, some o => x.ok P S o
  | _, _ => false
theorem KO.okO_spec {P : Program} {x : Option KO} {o : Option Operand} (h : KO.okO P S x o = true) : OOk P S o (KO.denO x) := by
  unfold KO.okO at h
  split at h
  · trivial
  · exact KO.ok_spec h
  · cases h
theorem KO.oks_spec {P : Program} : ∀ {xs : List KO} {os : List Operand}, sameL (KO.ok P S) xs os = true → OpndsOk P S os (KO.dens xs)
  | [], [], _ => .nil
  | x :: xs, o :: os, h => by
    simp only [sameL, Bool.and_eq_true] at h
    exact .cons (KO.ok_spec h.1) (KO.oks_spec h.2)
  | [], _ :: _, h => by simp [sameL] at h
  | _ :: _, [], h => by simp [sameL] at h
def KO.okP (P : Program) (S : BT Nat) (place : Nat → Option (Nat × Nat)) (p : Nat × Nat × KO) (q : Nat × Operand) : Bool :=
  (match place q.1 with | some (o, n) => Nat.beq o p.1 && Nat.beq n p.2.1 | none => false) && p.2.2.ok P S q.2
theorem KO.okPs_spec {P : Program} {place : Nat → Option (Nat × Nat)} : ∀ {ps : List (Nat × Nat × KO)} {qs : List (Nat × Operand)}, sameL (KO.okP P S place) ps qs = true → POk P S (KO.denP ps) qs place
  | [], [], _ => .nil _
  | (o, n, x) :: ps, (k, y) :: qs, h => by
    simp only [sameL, KO.okP, Bool.and_eq_true] at h
    obtain ⟨⟨h1, h2⟩, h3⟩ := h
    refine .cons ?_ (KO.ok_spec h2) (KO.okPs_spec h3)
    cases hp : place k with
    | none => rw [hp] at h1; cases h1
    | some q =>
      obtain ⟨a, b⟩ := q
      rw [hp] at h1
      simp only [Bool.and_eq_true] at h1
      rw [Nat.eq_of_beq_eq_true h1.1, Nat.eq_of_beq_eq_true h1.2]
  | [], _ :: _, h => by simp [sameL] at h
  | _ :: _, [], h => by simp [sameL] at h

def zeroB (P : Program) (t : TypeId) (Z : List AV) : Bool := match zeroOf P t with | some zv => sameL atomB Z zv.cells.toList | none => false
theorem zeroB_spec {P : Program} {t : TypeId} {Z : List AV} (h : zeroB P t Z = true) : ∃ zv, zeroOf P t = some zv ∧ ∀ e, VRels e Z zv.cells.toList := by
  unfold zeroB at h
  split at h
  · rename_i zv hz; exact ⟨zv, hz, sameL_atoms h⟩
  · cases h
end
end Go.Ab
