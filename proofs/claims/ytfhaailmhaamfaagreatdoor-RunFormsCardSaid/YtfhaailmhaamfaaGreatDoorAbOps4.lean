/- Operations over the abstract memory (4): slices' literals, places, parts, slices of slices. -/
import Derived.Test.YtfhaailmhaamfaaGreatDoorAbOps3
import Derived.Laws.Slices
import Derived.Laws.Strings2
namespace Go.Ab
open Go
noncomputable section
variable {S : BT Nat}

/-! ### A slice's literal -/
def bads (n : Nat) : List AV := List.replicate n (.x .bad)
theorem bads_rel (e : Emb) : ∀ (l : List Value), VRels e (bads l.length) l
  | [] => .nil
  | v :: l => by simp only [bads, List.length_cons, List.replicate_succ]; exact .cons (.bad v) (bads_rel e l)

def opBuildSlice (n len : Nat) (ps : List (Nat × Nat × (Env → AV))) (en : Env) (H : AHeap) : ORes :=
  optL .fail (fun r => .v (.sl H.nxt 0 len len) (newA H r)) (fillA (evalPs ps en) (bads n))
theorem opBuildSlice_snd {P : Program} {o : Oper} {t elem : TypeId} {len sz n : Nat} {parts : Array (Nat × Operand)} {ps : List (Nat × Nat × (Env → AV))} (ho : o.op = .buildSlice t len parts)
    (ht : P.underlying t = some (.slice elem)) (hs : szOf P elem = some sz) (hz : (zeroOf P elem).isSome = true) (hn : len * sz = n) (hn24 : n ≤ 16777216) (hp : POk P S ps parts.toList (placeOf P t)) (en : Env) (H : AHeap) :
    OSnd P S o en H (opBuildSlice n len ps en H) := by
  unfold opBuildSlice
  cases hl : fillA (evalPs ps en) (bads n) with
  | none => trivial
  | some r =>
    simp only [optL]
    refine OSnd.value fun N D e w a hr ha => ?_
    obtain ⟨zv, hzv⟩ := Option.isSome_iff_exists.1 hz
    have hrel := POk.rel hr ha hp
    have hplace : placeOf P t = fun i => some (i * sz, sz) := by funext i; simp [placeOf, ht, hs]
    rw [hplace] at hrel
    -- whatever lies there at first
    have key : ∀ (zs : Array Value), zs.size = n → ∃ r' : List Value, Instr.fill (fun i => some (i * sz, sz)) zs (parts.map fun (i, x) => (i, a.eval x)).toList = some r'.toArray ∧ VRels e r r' := by
      intro zs hzs
      have h0 := bads_rel e zs.toList
      rw [show zs.toList.length = n by simpa using hzs] at h0
      obtain ⟨r', q1, q2⟩ := fill_spec hrel hl h0
      refine ⟨r', ?_, q2⟩
      rw [← q1]; simp
    have h24 : ¬ (len * sz > 2 ^ 24) := by omega
    by_cases h0 : len * sz = 0
    · obtain ⟨r', q1, q2⟩ := key ((Array.range (len * sz)).map ((#[] : Array Value)[· % (#[] : Array Value).size]!)) (by simp [hn])
      have h := Evo.newRow hr q2 elem
      refine ⟨_, .slice (some ⟨w.heap.size, 0, none⟩) len len, _, ?_, ?_, h⟩
      · simp only [execOp, ho, Instr.buildSlice, Sem.run_bind, run_underlying ht, Result.andThen_ok, run_sizeOf hs, Sem.run_ite, if_neg h24, if_pos h0, Sem.run_pure, q1]
        simp [newRow]
      · exact .sl H.nxt 0 len len len ⟨w.heap.size, 0, r.length, 0, r'.length⟩ (by simp) (.inl rfl)
    · obtain ⟨r', q1, q2⟩ := key ((Array.range (len * sz)).map (zv.cells[· % zv.cells.size]!)) (by simp [hn])
      have h := Evo.newRow hr q2 elem
      refine ⟨_, .slice (some ⟨w.heap.size, 0, none⟩) len len, _, ?_, ?_, h⟩
      · simp only [execOp, ho, Instr.buildSlice, Sem.run_bind, run_underlying ht, Result.andThen_ok, run_sizeOf hs, Sem.run_ite, if_neg h24, if_neg h0, Sem.run_pure, run_zeroOf hzv, q1]
        simp [newRow]
      · exact .sl H.nxt 0 len len len ⟨w.heap.size, 0, r.length, 0, r'.length⟩ (by simp) (.inl rfl)

/-! ### Places -/
def opFieldAddr (off : Nat) (x : Env → AV) (en : Env) (H : AHeap) : ORes := avP .fail (fun b o => .v (.p b (Nat.add o off)) H) (x en)
/-- A field's place, its size not nought. -/
def fldOf (P : Program) (t : TypeId) (k : Nat) : Option Nat :=
  match P.underlying t with
  | some (.struct fs) => (fs[k]?).bind fun f => (szOf P f.type).bind fun s => if s = 0 then none else some f.offset
  | _ => none
theorem opFieldAddr_snd {P : Program} {o : Oper} {t : TypeId} {x : Operand} {k off : Nat} {x' : Env → AV} (ho : o.op = .fieldAddr t x k) (hf : fldOf P t k = some off) (hx : OpndOk P S x x') (en : Env) (H : AHeap) :
    OSnd P S o en H (opFieldAddr off x' en H) := by
  unfold opFieldAddr
  cases h : x' en with
  | p b m =>
    simp only [avP]
    refine OSnd.pure fun N D e w a hr ha => ?_
    have h1 := hx N D e en a H w hr ha
    rw [h] at h1
    generalize hxv : a.eval x = xv at h1
    cases h1
    rename_i i hi
    unfold fldOf at hf
    cases hu : P.underlying t with
    | none => rw [hu] at hf; cases hf
    | some d =>
      rw [hu] at hf
      cases d with
      | struct fs =>
        simp only at hf
        cases hk : fs[k]? with
        | none => rw [hk] at hf; cases hf
        | some f =>
          rw [hk] at hf
          simp only [Option.bind_some] at hf
          cases hs : szOf P f.type with
          | none => rw [hs] at hf; cases hf
          | some s =>
            rw [hs] at hf
            simp only [Option.bind_some] at hf
            split at hf
            · cases hf
            · rename_i hs0
              cases hf
              refine ⟨.pointer (some ⟨i.blk, i.off + (m + f.offset), none⟩), ?_, .p b (m + f.offset) i hi⟩
              simp [execOp, ho, hxv, Instr.fieldAt, run_underlying hu, hk, Instr.sureAddr, fieldPlace, run_sizeOf hs, hs0, add_addr, Nat.add_assoc]
      | _ => simp at hf
  | _ => trivial

def opNilCheck (x : Env → AV) (en : Env) (H : AHeap) : ORes := avP .fail (fun b o => .v (.p b o) H) (x en)
theorem opNilCheck_snd {P : Program} {o : Oper} {x : Operand} {x' : Env → AV} (ho : o.op = .nilCheck x) (hx : OpndOk P S x x') (en : Env) (H : AHeap) : OSnd P S o en H (opNilCheck x' en H) := by
  unfold opNilCheck
  cases h : x' en with
  | p b m =>
    simp only [avP]
    refine OSnd.pure fun N D e w a hr ha => ?_
    have h1 := hx N D e en a H w hr ha
    rw [h] at h1
    generalize hxv : a.eval x = xv at h1
    cases h1
    rename_i i hi
    exact ⟨.pointer (some ⟨i.blk, i.off + m, none⟩), by simp [execOp, ho, hxv], .p b m i hi⟩
  | _ => trivial

/-- An index's value. -/
def natOf (v : AV) : Option Nat :=
  avI none (fun k n => Bool.rec (motive := fun _ => Option Nat) (Bool.rec (motive := fun _ => Option Nat) none (Bool.rec (motive := fun _ => Option Nat) none (some n) (Nat.ble (Nat.add n 1) 9223372036854775808)) (Nat.beq k 3)) (some n) (Nat.ble 4 k)) v
theorem natOf_spec {v : AV} {n : Nat} (h : natOf v = some n) {e : Emb} {v' : Value} (hv : VRel e v v') : ∃ K, v' = .int K (n : Int) := by
  cases v with
  | i k m =>
    cases hv with
    | i _ _ hk hn =>
      simp only [natOf, avI] at h
      cases h4 : Nat.ble 4 k with
      | true =>
        rw [h4] at h
        simp only [Option.some.injEq] at h
        subst h
        have h4' : 4 ≤ k := by rw [ble_tt] at h4; exact h4
        refine ⟨kindOf k, ?_⟩
        congr 1
        have : k = 4 ∨ k = 5 ∨ k = 6 ∨ k = 7 := by omega
        rcases this with rfl | rfl | rfl | rfl <;> simp only [kindOf, IntKind.wrap, IntKind.signed, IntKind.bits] at * <;> simp <;> omega
      | false =>
        rw [h4] at h
        simp only at h
        cases h3 : Nat.beq k 3 with
        | false => rw [h3] at h; cases h
        | true =>
          rw [h3] at h
          simp only at h
          have h3' : k = 3 := Nat.eq_of_beq_eq_true h3
          cases hb : Nat.ble (Nat.add m 1) 9223372036854775808 with
          | false => rw [hb] at h; cases h
          | true =>
            rw [hb] at h
            simp only [Option.some.injEq] at h
            subst h
            subst h3'
            have hb' : m + 1 ≤ 9223372036854775808 := by rw [ble_tt] at hb; exact hb
            refine ⟨kindOf 3, ?_⟩
            congr 1
            simp only [kindOf, IntKind.wrap, IntKind.signed, IntKind.bits] at *
            simp
            omega
  | _ => cases h
def optN {R : Type} (d : R) (f : Nat → R) (x : Option Nat) : R := Option.rec (motive := fun _ => R) d f x

def opIndexAddr (sz : Nat) (x y : Env → AV) (en : Env) (H : AHeap) : ORes :=
  avSl .fail (fun b o len _ => optN .fail (fun n => bif' .fail (.v (.p b (Nat.add o (Nat.mul n sz))) H) (Nat.ble (Nat.add n 1) len)) (natOf (y en))) (x en)
theorem opIndexAddr_snd {P : Program} {o : Oper} {t elem : TypeId} {x y : Operand} {sz : Nat} {x' y' : Env → AV} (ho : o.op = .indexAddr t x y) (ht : P.underlying t = some (.slice elem)) (hs : szOf P elem = some sz)
    (hx : OpndOk P S x x') (hy : OpndOk P S y y') (en : Env) (H : AHeap) : OSnd P S o en H (opIndexAddr sz x' y' en H) := by
  unfold opIndexAddr
  cases h : x' en with
  | sl b m len cap =>
    simp only [avSl]
    cases hn : natOf (y' en) with
    | none => trivial
    | some n =>
      simp only [optN, bif']
      cases hb : Nat.ble (Nat.add n 1) len with
      | false => trivial
      | true =>
        have hlt : n < len := by rw [ble_tt] at hb; exact hb
        refine OSnd.pure fun N D e w a hr ha => ?_
        have h1 := hx N D e en a H w hr ha
        obtain ⟨K, hK⟩ := natOf_spec hn (hy N D e en a H w hr ha)
        rw [h] at h1
        generalize hxv : a.eval x = xv at h1
        cases h1 with
        | sl _ _ _ _ cap' i hi hc =>
          refine ⟨.pointer (some ⟨i.blk, i.off + (m + n * sz), none⟩), ?_, .p b (m + n * sz) i hi⟩
          simp [execOp, ho, hxv, hK, Instr.indexAt, asIntOf, run_underlying ht, hlt, run_sizeOf hs, add_addr, Nat.add_assoc]
        | slq => omega
  | _ => trivial

/-- The same at an array's address. -/
def opIndexAddrA (len sz : Nat) (x y : Env → AV) (en : Env) (H : AHeap) : ORes :=
  avP .fail (fun b o => optN .fail (fun n => bif' .fail (.v (.p b (Nat.add o (Nat.mul n sz))) H) (Nat.ble (Nat.add n 1) len)) (natOf (y en))) (x en)
theorem opIndexAddrA_snd {P : Program} {o : Oper} {t elem : TypeId} {x y : Operand} {len sz : Nat} {x' y' : Env → AV} (ho : o.op = .indexAddr t x y) (ht : P.underlying t = some (.array len elem)) (hs : szOf P elem = some sz)
    (hx : OpndOk P S x x') (hy : OpndOk P S y y') (en : Env) (H : AHeap) : OSnd P S o en H (opIndexAddrA len sz x' y' en H) := by
  unfold opIndexAddrA
  cases h : x' en with
  | p b m =>
    simp only [avP]
    cases hn : natOf (y' en) with
    | none => trivial
    | some n =>
      simp only [optN, bif']
      cases hb : Nat.ble (Nat.add n 1) len with
      | false => trivial
      | true =>
        have hlt : n < len := by rw [ble_tt] at hb; exact hb
        refine OSnd.pure fun N D e w a hr ha => ?_
        have h1 := hx N D e en a H w hr ha
        obtain ⟨K, hK⟩ := natOf_spec hn (hy N D e en a H w hr ha)
        rw [h] at h1
        generalize hxv : a.eval x = xv at h1
        cases h1
        rename_i i hi
        refine ⟨.pointer (some ⟨i.blk, i.off + (m + n * sz), none⟩), ?_, .p b (m + n * sz) i hi⟩
        simp [execOp, ho, hxv, hK, Instr.indexAt, asIntOf, run_underlying ht, hlt, run_sizeOf hs, Instr.sureAddr, add_addr, Nat.add_assoc]
  | _ => trivial

/-! ### Parts -/
def getL (l : List AV) (k : Nat) : Option AV := List.rec (motive := fun _ => Nat → Option AV) (fun _ => none) (fun v _ ih k => Bool.rec (motive := fun _ => Option AV) (ih (Nat.sub k 1)) (some v) (Nat.beq k 0)) l k
theorem getL_eq (l : List AV) : ∀ k, getL l k = l[k]? := by
  induction l with
  | nil => intro k; rfl
  | cons v l ih =>
    intro k
    have h : getL (v :: l) k = Bool.rec (motive := fun _ => Option AV) (getL l (k - 1)) (some v) (Nat.beq k 0) := rfl
    rw [h, brec]
    simp only [beq_tt, ih]
    cases k <;> simp

def opExtract (k : Nat) (x : Env → AV) (en : Env) (H : AHeap) : ORes := avX .fail (axTup .fail (fun l => optE .fail (fun v => .v v H) (getL l k))) (x en)
theorem opExtract_snd {P : Program} {o : Oper} {x : Operand} {k : Nat} {x' : Env → AV} (ho : o.op = .extract x k) (hx : OpndOk P S x x') (en : Env) (H : AHeap) : OSnd P S o en H (opExtract k x' en H) := by
  unfold opExtract
  cases h : x' en with
  | x y =>
    cases y with
    | tup l =>
      simp only [avX, axTup]
      cases hv : getL l k with
      | none => trivial
      | some v =>
        simp only [optE]
        refine OSnd.pure fun N D e w a hr ha => ?_
        have h1 := hx N D e en a H w hr ha
        rw [h] at h1
        generalize hxv : a.eval x = xv at h1
        cases h1
        rename_i l' hl
        rw [getL_eq] at hv
        obtain ⟨v', g1, g2⟩ := hl.get hv
        exact ⟨v', by simp [execOp, ho, hxv, Instr.extract, g1], g2⟩
    | _ => trivial
  | _ => trivial

/-- A field of a struct's value: one cell. -/
def opField1 (off : Nat) (x : Env → AV) (en : Env) (H : AHeap) : ORes := avX .fail (axAgg .fail (fun l => optE .fail (fun v => .v v H) (getL l off))) (x en)
def fldAt (P : Program) (t : TypeId) (k : Nat) : Option (Nat × TypeId) :=
  match P.underlying t with
  | some (.struct fs) => (fs[k]?).map fun f => (f.offset, f.type)
  | _ => none
theorem fldAt_spec {P : Program} {t : TypeId} {k off : Nat} {ft : TypeId} (h : fldAt P t k = some (off, ft)) : ∃ fs f, P.underlying t = some (.struct fs) ∧ fs[k]? = some f ∧ f.offset = off ∧ f.type = ft := by
  unfold fldAt at h
  cases hu : P.underlying t with
  | none => rw [hu] at h; cases h
  | some d =>
    rw [hu] at h
    cases d with
    | struct fs =>
      simp only at h
      cases hk : fs[k]? with
      | none => rw [hk] at h; cases h
      | some f => rw [hk] at h; simp at h; exact ⟨fs, f, rfl, hk, h.1, h.2⟩
    | _ => simp at h
theorem opField1_snd {P : Program} {o : Oper} {t ft : TypeId} {x : Operand} {k off : Nat} {x' : Env → AV} (ho : o.op = .field t x k) (hf : fldAt P t k = some (off, ft)) (hft : aggOf P ft = some none) (hx : OpndOk P S x x') (en : Env) (H : AHeap) :
    OSnd P S o en H (opField1 off x' en H) := by
  unfold opField1
  cases h : x' en with
  | x y =>
    cases y with
    | agg l =>
      simp only [avX, axAgg]
      cases hv : getL l off with
      | none => trivial
      | some v =>
        simp only [optE]
        refine OSnd.pure fun N D e w a hr ha => ?_
        have h1 := hx N D e en a H w hr ha
        rw [h] at h1
        generalize hxv : a.eval x = xv at h1
        cases h1
        rename_i l' hl
        rw [getL_eq] at hv
        obtain ⟨v', g1, g2⟩ := hl.get hv
        obtain ⟨fs, f, q1, q2, q3, q4⟩ := fldAt_spec hf
        subst q3 q4
        exact ⟨v', by simp [execOp, ho, hxv, Instr.field, run_underlying q1, q2, part, run_isAgg_none hft, asAgg, g1], g2⟩
    | _ => trivial
  | _ => trivial

def opFieldN (off n : Nat) (x : Env → AV) (en : Env) (H : AHeap) : ORes := avX .fail (axAgg .fail (fun l => bif' .fail (.v (.x (.agg ((l.drop off).take n))) H) (Nat.ble (Nat.add off n) l.length))) (x en)
theorem VRels.take {e : Emb} (m : Nat) : ∀ {a : List AV} {a' : List Value}, VRels e a a' → VRels e (a.take m) (a'.take m) := by
  induction m with
  | zero => intro a a' _; simp; exact .nil
  | succ m ih => intro a a' ha; cases ha with
    | nil => simp; exact .nil
    | cons hv ht => simp; exact .cons hv (ih ht)
theorem VRels.drop {e : Emb} (m : Nat) : ∀ {a : List AV} {a' : List Value}, VRels e a a' → VRels e (a.drop m) (a'.drop m) := by
  induction m with
  | zero => intro a a' h; simpa using h
  | succ m ih => intro a a' ha; cases ha with
    | nil => simp; exact .nil
    | cons hv ht => simp; exact ih ht
theorem opFieldN_snd {P : Program} {o : Oper} {t ft : TypeId} {x : Operand} {k off n : Nat} {x' : Env → AV} (ho : o.op = .field t x k) (hf : fldAt P t k = some (off, ft)) (hft : aggOf P ft = some (some n)) (hx : OpndOk P S x x') (en : Env) (H : AHeap) :
    OSnd P S o en H (opFieldN off n x' en H) := by
  unfold opFieldN
  cases h : x' en with
  | x y =>
    cases y with
    | agg l =>
      simp only [avX, axAgg, bif']
      cases hv : Nat.ble (Nat.add off n) l.length with
      | false => trivial
      | true =>
        refine OSnd.pure fun N D e w a hr ha => ?_
        have h1 := hx N D e en a H w hr ha
        rw [h] at h1
        generalize hxv : a.eval x = xv at h1
        cases h1
        rename_i l' hl
        obtain ⟨fs, f, q1, q2, q3, q4⟩ := fldAt_spec hf
        subst q3 q4
        obtain ⟨t1, t2⟩ := run_isAgg_some hft w
        refine ⟨.agg ((l'.drop f.offset).take n).toArray, ?_, .agg _ _ ((hl.drop _).take _)⟩
        simp only [execOp, ho]
        simp only [Instr.field, Sem.run_bind, run_underlying q1, Result.andThen_ok, q2, hxv, asAgg, Sem.run_pure, part, t1, t2, if_true]
        congr 3
        apply Array.ext'
        simp [List.extract_eq_take_drop]
    | _ => trivial
  | _ => trivial

def opMakeInterface (t : Nat) (x : Env → AV) (en : Env) (H : AHeap) : ORes := .v (.x (.ifc t (x en))) H
def isIface (P : Program) (t : TypeId) : Option Bool := (P.underlying t).map fun d => match d with | .interface _ => true | _ => false
theorem opMakeInterface_snd {P : Program} {o : Oper} {t : TypeId} {x : Operand} {x' : Env → AV} (ho : o.op = .makeInterface t x) (ht : isIface P t = some false) (hx : OpndOk P S x x') (en : Env) (H : AHeap) :
    OSnd P S o en H (opMakeInterface t x' en H) :=
  OSnd.pure fun N D e w a hr ha => by
    refine ⟨.iface t (a.eval x), ?_, .ifc t _ _ (hx N D e en a H w hr ha)⟩
    unfold isIface at ht
    cases hu : P.underlying t with
    | none => rw [hu] at ht; cases ht
    | some d => rw [hu] at ht; cases d <;> simp at ht <;> simp [execOp, ho, Instr.makeInterface, run_underlying hu]

def evalL (xs : List (Env → AV)) (en : Env) : List AV := List.rec (motive := fun _ => List AV) [] (fun x _ ih => x en :: ih) xs
inductive OpndsOk (P : Program) (S : BT Nat) : List Operand → List (Env → AV) → Prop
  | nil : OpndsOk P S [] []
  | cons {x x' l l'} (hx : OpndOk P S x x') (t : OpndsOk P S l l') : OpndsOk P S (x :: l) (x' :: l')
theorem OpndsOk.rel {P : Program} {N : Nat} {D : List Deferred} {e : Emb} {en : Env} {a : Act} {H : AHeap} {w : World} (hr : Rel P.globals.size e H w) (ha : ARel S N D e en a) :
    ∀ {l : List Operand} {l' : List (Env → AV)}, OpndsOk P S l l' → VRels e (evalL l' en) (l.map a.eval)
  | _, _, .nil => .nil
  | _, _, .cons hx t => .cons (hx N D e en a H w hr ha) (OpndsOk.rel hr ha t)

theorem toArray_map {α β : Type} (f : α → β) (xs : Array α) : (xs.toList.map f).toArray = xs.map f := by apply Array.ext'; simp

def opMakeFunc (f : Nat) (xs ys : List (Env → AV)) (en : Env) (H : AHeap) : ORes := .v (.x (.fn f (evalL xs en) (evalL ys en))) H
theorem opMakeFunc_snd {P : Program} {o : Oper} {f : Nat} {xs ys : Array Operand} {xs' ys' : List (Env → AV)} (ho : o.op = .makeFunc (.func f) xs ys) (hx : OpndsOk P S xs.toList xs') (hy : OpndsOk P S ys.toList ys') (en : Env) (H : AHeap) :
    OSnd P S o en H (opMakeFunc f xs' ys' en H) :=
  OSnd.pure fun N D e w a hr ha => by
    refine ⟨.func (.func f) (xs.map a.eval) (ys.map a.eval), by simp [execOp, ho, Instr.makeFunc], ?_⟩
    have := VRel.fn (e := e) f _ _ _ _ (hx.rel hr ha) (hy.rel hr ha)
    rwa [toArray_map, toArray_map] at this

def opMakeMap (_ : Env) (H : AHeap) : ORes := .v (.x (.m H.nxt)) (H.alloc (.m []))
theorem opMakeMap_snd {P : Program} {o : Oper} {t : TypeId} (ho : o.op = .makeMap t none) (en : Env) (H : AHeap) : OSnd P S o en H (opMakeMap en H) :=
  OSnd.value fun N D e w a hr ha => by
    have h := Evo.alloc hr (.m []) (.map #[] 0) ⟨w.heap.size, 0, 0, 0, 0⟩ rfl ⟨#[], 0, rfl, .nil⟩
    exact ⟨_, .map (some w.heap.size), _, by simp [execOp, ho, Instr.makeMap], .m H.nxt ⟨w.heap.size, 0, 0, 0, 0⟩ (by simp), h⟩
end
end Go.Ab
