/- The check of one operation, all forms. -/
import Derived.Test.YtfhaailmhaamfaaGreatDoorAbK2
namespace Go.Ab
open Go
noncomputable section
variable {S : BT Nat}

def elemOf (P : Program) (t : TypeId) : Option TypeId := match P.underlying t with | some (.slice e) => some e | _ => none
def arrOf (P : Program) (t : TypeId) : Option (Nat × TypeId) := match P.underlying t with | some (.array n e) => some (n, e) | _ => none
def mapOf (P : Program) (t : TypeId) : Option (TypeId × TypeId) := match P.underlying t with | some (.map k e) => some (k, e) | _ => none
theorem elemOf_spec {P : Program} {t e : TypeId} (h : elemOf P t = some e) : P.underlying t = some (.slice e) := by
  unfold elemOf at h; split at h
  · rename_i hu; cases h; exact hu
  · cases h
theorem arrOf_spec {P : Program} {t e : TypeId} {n : Nat} (h : arrOf P t = some (n, e)) : P.underlying t = some (.array n e) := by
  unfold arrOf at h; split at h
  · rename_i hu; cases h; exact hu
  · cases h
theorem mapOf_spec {P : Program} {t k e : TypeId} (h : mapOf P t = some (k, e)) : P.underlying t = some (.map k e) := by
  unfold mapOf at h; split at h
  · rename_i hu; cases h; exact hu
  · cases h
def isStr (P : Program) (t : TypeId) : Bool := match P.underlying t with | some .string => true | _ => false
theorem isStr_spec {P : Program} {t : TypeId} (h : isStr P t = true) : P.underlying t = some .string := by
  unfold isStr at h; split at h
  · assumption
  · cases h
def isBool (P : Program) (t : TypeId) : Bool := match P.underlying t with | some .bool => true | _ => false
theorem isBool_spec {P : Program} {t : TypeId} (h : isBool P t = true) : P.underlying t = some .bool := by
  unfold isBool at h; split at h
  · assumption
  · cases h
def intOf (P : Program) (t : TypeId) : Option IntKind := match P.underlying t with | some (.int K) => some K | _ => none
theorem intOf_spec {P : Program} {t : TypeId} {K : IntKind} (h : intOf P t = some K) : P.underlying t = some (.int K) := by
  unfold intOf at h; split at h
  · rename_i hu; cases h; exact hu
  · cases h
/-- An element's form: its size, its bytes, its zero. -/
def elemB (P : Program) (el : TypeId) (sz bytes : Nat) (Z : Option (List AV)) : Bool :=
  match P.info? el with
  | some i => (match i.zero with | some z => Nat.beq z.cells.size sz && (match Z with | some Z => sameL atomB Z z.cells.toList | none => true) | none => false) && Nat.beq i.size sz && Nat.beq i.bytes bytes && Nat.ble 1 sz && Nat.ble 1 bytes
  | none => false
theorem elemB_spec {P : Program} {el : TypeId} {sz bytes : Nat} {Z : Option (List AV)} (h : elemB P el sz bytes Z = true) :
    ∃ i z, P.info? el = some i ∧ i.zero = some z ∧ z.cells.size = sz ∧ i.size = sz ∧ i.bytes = bytes ∧ 0 < sz ∧ 0 < bytes ∧ ∀ Z', Z = some Z' → ∀ e, VRels e Z' z.cells.toList := by
  unfold elemB at h
  split at h
  · rename_i i hi
    simp only [Bool.and_eq_true, ble_tt, beq_tt] at h
    obtain ⟨⟨⟨⟨h1, h2⟩, h3⟩, h4⟩, h5⟩ := h
    split at h1
    · rename_i z hz
      simp only [Bool.and_eq_true, beq_tt] at h1
      refine ⟨i, z, hi, hz, h1.1, h2, h3, h4, h5, ?_⟩
      rintro Z' rfl e
      exact sameL_atoms h1.2 e
    · cases h1
  · cases h

def KCmp.okB (P : Program) (c : KCmp) (kt : TypeId) : Bool :=
  match c with
  | .i => (intOf P kt).isSome
  | .s => isStr P kt
  | .cs ks => decide (flatOf P 20 kt = some ks) && decide (aggOf P kt ≠ some none) && (match P.underlying kt with | some (.struct _) => true | _ => false)
theorem KCmp.okB_spec {P : Program} {c : KCmp} {kt : TypeId} (h : c.okB P kt = true) : (∃ d, P.underlying kt = some d) ∧ CmpOk P kt c.den ∧ KeyFree P kt c.free := by
  cases c with
  | i =>
    obtain ⟨K, hK⟩ := Option.isSome_iff_exists.1 h
    have := intOf_spec hK
    exact ⟨⟨_, this⟩, cmpI_ok this, keyFree_atom (.inl ⟨K, this⟩)⟩
  | s =>
    have := isStr_spec h
    exact ⟨⟨_, this⟩, cmpS_ok this, keyFree_atom (.inr (.inl this))⟩
  | cs ks =>
    simp only [KCmp.okB, Bool.and_eq_true, decide_eq_true_eq] at h
    obtain ⟨⟨h1, h2⟩, h3⟩ := h
    have hst : ∃ fs, P.underlying kt = some (.struct fs) := by
      split at h3
      · exact ⟨_, by assumption⟩
      · cases h3
    obtain ⟨fs, hfs⟩ := hst
    exact ⟨⟨_, hfs⟩, cmpC_ok h1 h2 ⟨fs, hfs⟩ (by omega), keyFree_cells h1 h2 (by omega)⟩

def eqB (ne : Bool) (op : BinOp) : Bool := match op, ne with | .eql, false | .neq, true => true | _, _ => false
theorem eqB_spec {ne : Bool} {op : BinOp} (h : eqB ne op = true) : (op = .eql ∧ ne = false) ∨ (op = .neq ∧ ne = true) := by
  unfold eqB at h
  split at h
  · exact .inl ⟨rfl, rfl⟩
  · exact .inr ⟨rfl, rfl⟩
  · cases h

def callB (P : Program) (S : BT Nat) (o : Oper) (f : KO) (xs : List KO) : Bool :=
  match o.op with | .call { callee := .value g, args, argTypes := _ } => f.ok P S g && sameL (KO.ok P S) xs args.toList | _ => false

def KOp.ok (P : Program) (S : BT Nat) (o : Oper) (k : KOp) : Bool :=
  match k with
  | .move x => match o.op with | .move y => x.ok P S y | .assign y => x.ok P S y | _ => false
  | .pick c x y => match o.op with | .pick c' x' y' => c.ok P S c' && x.ok P S x' && y.ok P S y' | _ => false
  | .load1 x => match o.op with | .load t x' => decide (aggOf P t = some none) && x.ok P S x' | _ => false
  | .loadN n x => match o.op with | .load t x' => decide (aggOf P t = some (some n)) && x.ok P S x' | _ => false
  | .store n x y => match o.op with | .store t x' y' => decide (szOf P t = some n) && x.ok P S x' && y.ok P S y' | _ => false
  | .alloc Z => match o.op with | .alloc t => zeroB P t Z | _ => false
  | .box x => match o.op with | .box _ x' => x.ok P S x' | _ => false
  | .build Z ps => match o.op with | .build t parts => zeroB P t Z && (fieldsOk P t || arrayOk P t) && sameL (KO.okP P S (placeOf P t)) ps parts.toList | _ => false
  | .bslice n ln ps => match o.op with
    | .buildSlice t len' parts => match elemOf P t with
      | some el => match szOf P el with
        | some sz => (zeroOf P el).isSome && Nat.beq ln len' && Nat.beq (len' * sz) n && Nat.ble n 16777216 && sameL (KO.okP P S (placeOf P t)) ps parts.toList
        | none => false
      | none => false
    | _ => false
  | .fa off x => match o.op with | .fieldAddr t x' k => decide (fldOf P t k = some off) && x.ok P S x' | _ => false
  | .nilc x => match o.op with | .nilCheck x' => x.ok P S x' | _ => false
  | .ia sz x y => match o.op with
    | .indexAddr t x' y' => match elemOf P t with | some el => decide (szOf P el = some sz) && x.ok P S x' && y.ok P S y' | none => false
    | _ => false
  | .iaA ln sz x y => match o.op with
    | .indexAddr t x' y' => match arrOf P t with | some (n, el) => Nat.beq n ln && decide (szOf P el = some sz) && x.ok P S x' && y.ok P S y' | none => false
    | _ => false
  | .ext k x => match o.op with | .extract x' k' => Nat.beq k k' && x.ok P S x' | _ => false
  | .fld1 off x => match o.op with | .field t x' k => (match fldAt P t k with | some (off', ft) => Nat.beq off' off && decide (aggOf P ft = some none) && x.ok P S x' | none => false) | _ => false
  | .fldN off n x => match o.op with | .field t x' k => (match fldAt P t k with | some (off', ft) => Nat.beq off' off && decide (aggOf P ft = some (some n)) && x.ok P S x' | none => false) | _ => false
  | .ifc t x => match o.op with | .makeInterface t' x' => Nat.beq t t' && decide (isIface P t' = some false) && x.ok P S x' | _ => false
  | .mkf f xs ys => match o.op with | .makeFunc (.func f') xs' ys' => Nat.beq f f' && sameL (KO.ok P S) xs xs'.toList && sameL (KO.ok P S) ys ys'.toList | _ => false
  | .mkm => match o.op with | .makeMap _ none => true | _ => false
  | .sl sz x lo hi mx => match o.op with
    | .slice t x' lo' hi' mx' => match elemOf P t with
      | some el => decide (szOf P el = some sz) && x.ok P S x' && KO.okO P S lo lo' && KO.okO P S hi hi' && KO.okO P S mx mx' && (mx'.isNone || hi'.isSome)
      | none => false
    | _ => false
  | .slA n sz x lo hi mx => match o.op with
    | .slice t x' lo' hi' mx' => match arrOf P t with
      | some (n', el) => Nat.beq n' n && decide (szOf P el = some sz) && x.ok P S x' && KO.okO P S lo lo' && KO.okO P S hi hi' && KO.okO P S mx mx' && (mx'.isNone || hi'.isSome)
      | none => false
    | _ => false
  | .bin b k M h x y => match o.op with | .binOp op _ x' y' _ => b.okB k M h op && x.ok P S x' && y.ok P S y' | _ => false
  | .sh b k M h bits x y => match o.op with | .binOp op _ x' y' _ => b.okB k M h bits op && x.ok P S x' && y.ok P S y' | _ => false
  | .un .not x => match o.op with | .unOp .not _ x' => x.ok P S x' | _ => false
  | .un (.neg k M) x => match o.op with | .unOp .neg _ x' => Nat.ble (k + 1) 8 && Nat.beq M (2 ^ (kindOf k).bits) && x.ok P S x' | _ => false
  | .un (.conv k M) x => match o.op with | .convert t t' x' => (P.underlying t).isSome && decide (intOf P t' = some (kindOf k)) && Nat.ble (k + 1) 8 && Nat.beq M (2 ^ (kindOf k).bits) && x.ok P S x' | _ => false
  | .str b x y => match o.op with
    | .binOp op _ x' y' _ => (match b, op with | .cat, .add | .eq, .eql | .ne, .neq | .lt, .lss => true | _, _ => false) && x.ok P S x' && y.ok P S y'
    | _ => false
  | .idxS x y => match o.op with | .index t x' y' => isStr P t && x.ok P S x' && y.ok P S y' | _ => false
  | .slS x lo hi => match o.op with | .slice t x' lo' hi' none => isStr P t && x.ok P S x' && KO.okO P S lo lo' && KO.okO P S hi hi' | _ => false
  | .binB ne x y => match o.op with | .binOp op t x' y' _ => isBool P t && eqB ne op && x.ok P S x' && y.ok P S y' | _ => false
  | .eqC ks ne x y => match o.op with
    | .binOp op t x' y' _ => eqB ne op && decide (flatOf P 20 t = some ks) && decide (aggOf P t ≠ some none) && !(P.eqGuardType P.depth t) && x.ok P S x' && y.ok P S y'
    | _ => false
  | .eqR k ne x y => match o.op with | .binOp op t x' y' _ => eqB ne op && decide (refKind P t = some k) && x.ok P S x' && y.ok P S y' | _ => false
  | .app sz bytes x y => match o.op with
    | .call { callee := .builtin .append, args := ⟨[x', y']⟩, argTypes := ⟨[t, t']⟩ } => Nat.beq t t' && (match elemOf P t with | some el => elemB P el sz bytes none | none => false) && x.ok P S x' && y.ok P S y'
    | _ => false
  | .mn k M h x y => match o.op with | .call { callee := .builtin .min, args := ⟨[x', y']⟩, argTypes := _ } => Nat.ble (k + 1) 8 && Nat.beq M (2 ^ (kindOf k).bits) && Nat.beq h (if (kindOf k).signed then 2 ^ ((kindOf k).bits - 1) else 0) && x.ok P S x' && y.ok P S y' | _ => false
  | .len k x => match o.op with | .call { callee := .builtin .len, args := ⟨[x']⟩, argTypes := ⟨[t]⟩ } => decide (lenKind P t = some k) && x.ok P S x' | _ => false
  | .cap _ x => match o.op with | .call { callee := .builtin .cap, args := ⟨[x']⟩, argTypes := ⟨[t]⟩ } => (elemOf P t).isSome && x.ok P S x' | _ => false
  | .mks bytes Z x y => match o.op with | .makeSlice t x' y' => (match elemOf P t with | some el => elemB P el Z.length bytes (some Z) | none => false) && x.ok P S x' && y.ok P S y' | _ => false
  | .appZ bytes sz Z x y => match o.op with
    | .call { callee := .builtin .append, args := ⟨[x', y']⟩, argTypes := ⟨[t, u]⟩ } => (intOf P u).isSome && (match elemOf P t with | some el => elemB P el sz bytes (some Z) | none => false) && x.ok P S x' && y.ok P S y'
    | _ => false
  | .look c Z ok x y => match o.op with
    | .lookup t x' y' ok' => (ok == ok') && (match mapOf P t with | some (kt, el) => c.okB P kt && (match zeroOf P el with | some zv => litB Z zv | none => false) | none => false) && x.ok P S x' && y.ok P S y'
    | _ => false
  | .mapu c x y z => match o.op with
    | .mapUpdate t x' y' z' => (match mapOf P t with | some (kt, _) => c.okB P kt | none => false) && x.ok P S x' && y.ok P S y' && z.ok P S z'
    | .insert t x' y' z' => (match mapOf P t with | some (kt, _) => c.okB P kt | none => false) && x.ok P S x' && y.ok P S y' && z.ok P S z'
    | _ => false
  | .pan x => match o.op with | .panic x' => x.ok P S x' | _ => false
  | .call f xs => callB P S o (.f f) xs
  | .callv x xs => callB P S o x xs
  | .unk => true
  | .b2s x => match o.op with
    | .convert t t' x' => (match elemOf P t with | some el => decide (intOf P el = some .u8) | none => false) && isStr P t' && x.ok P S x'
    | _ => false
end
end Go.Ab
