/- Operations over the abstract memory, each sound for the model's. -/
import Derived.Test.YtfhaailmhaamfaaGreatDoorAbRel
namespace Go.Ab
open Go

/-- What was computed in this region. -/
inductive Loc where
  | nil | cons (t : Nat) (v : AV) (e : Loc)

/-- The way to a place in a tree. -/
inductive VP where
  | top | lft (p : VP) | rgt (p : VP)

/-- The values: those of this region by their number, those that live longer by their place. -/
structure Env where
  loc : Loc
  B : BT AV

inductive ORes where
  | v (v : AV) (H : AHeap)
  | pan (v : AV) (H : AHeap)
  | fail

def undefA : AV := .x (.tup [])
theorem vrel_undef (e : Emb) : VRel e undefA undef := .tup [] [] .nil

noncomputable section
def Loc.get (en : Loc) (t : Nat) : AV :=
  Loc.rec (motive := fun _ => AV) (.x .bad) (fun t' v _ ih => Bool.rec (motive := fun _ => AV) ih v (Nat.beq t' t)) en
theorem Loc.get_nil (t : Nat) : Loc.nil.get t = .x .bad := rfl
theorem Loc.get_cons (d : Nat) (v : AV) (en : Loc) (t : Nat) : (Loc.cons d v en).get t = if d = t then v else en.get t := by
  have h : (Loc.cons d v en).get t = Bool.rec (motive := fun _ => AV) (en.get t) v (Nat.beq d t) := rfl
  rw [h, brec]
  simp only [beq_tt]
def VP.get (p : VP) (t : BT AV) : AV :=
  VP.rec (motive := fun _ => BT AV → AV) (fun t => BT.rec (motive := fun _ => AV) (.x .bad) (fun _ v _ _ _ => v) t)
    (fun _ ih t => BT.rec (motive := fun _ => AV) (.x .bad) (fun l _ _ _ _ => ih l) t) (fun _ ih t => BT.rec (motive := fun _ => AV) (.x .bad) (fun _ _ r _ _ => ih r) t) p t
def VP.put (p : VP) (a : AV) (t : BT AV) : BT AV :=
  VP.rec (motive := fun _ => BT AV → BT AV) (fun t => BT.rec (motive := fun _ => BT AV) .lf (fun l _ r _ _ => .nd l a r) t)
    (fun _ ih t => BT.rec (motive := fun _ => BT AV) .lf (fun l v r _ _ => .nd (ih l) v r) t) (fun _ ih t => BT.rec (motive := fun _ => BT AV) .lf (fun l v r _ _ => .nd l v (ih r)) t) p t
@[simp] theorem VP.get_lf (p : VP) : p.get .lf = .x .bad := by cases p <;> rfl
@[simp] theorem VP.get_h (l r : BT AV) (v : AV) : VP.top.get (.nd l v r) = v := rfl
@[simp] theorem VP.get_l (p : VP) (l r : BT AV) (v : AV) : (VP.lft p).get (.nd l v r) = p.get l := rfl
@[simp] theorem VP.get_r (p : VP) (l r : BT AV) (v : AV) : (VP.rgt p).get (.nd l v r) = p.get r := rfl
@[simp] theorem VP.put_lf (p : VP) (a : AV) : p.put a .lf = .lf := by cases p <;> rfl
@[simp] theorem VP.put_h (l r : BT AV) (v a : AV) : VP.top.put a (.nd l v r) = .nd l a r := rfl
@[simp] theorem VP.put_l (p : VP) (l r : BT AV) (v a : AV) : (VP.lft p).put a (.nd l v r) = .nd (p.put a l) v r := rfl
@[simp] theorem VP.put_r (p : VP) (l r : BT AV) (v a : AV) : (VP.rgt p).put a (.nd l v r) = .nd l v (p.put a r) := rfl
/-- Behind a put: the value there (or nothing, where there is no place), elsewhere as before. -/
theorem VP.get_put (a : AV) : ∀ (p q : VP) (t : BT AV), q.get (p.put a t) = q.get t ∨ (q = p ∧ q.get (p.put a t) = a)
  | p, q, .lf => by simp
  | .top, .top, .nd l v r => .inr ⟨rfl, rfl⟩
  | .top, .lft q, .nd l v r => .inl rfl
  | .top, .rgt q, .nd l v r => .inl rfl
  | .lft p, .top, .nd l v r => .inl rfl
  | .lft p, .lft q, .nd l v r => by
    rcases VP.get_put a p q l with h | ⟨rfl, h⟩
    · exact .inl (by simpa using h)
    · exact .inr ⟨rfl, by simpa using h⟩
  | .lft p, .rgt q, .nd l v r => .inl rfl
  | .rgt p, .top, .nd l v r => .inl rfl
  | .rgt p, .lft q, .nd l v r => .inl rfl
  | .rgt p, .rgt q, .nd l v r => by
    rcases VP.get_put a p q r with h | ⟨rfl, h⟩
    · exact .inl (by simpa using h)
    · exact .inr ⟨rfl, by simpa using h⟩
theorem VP.get_put_self (a : AV) : ∀ (p : VP) (t : BT AV), p.get (p.put a t) = a ∨ p.get (p.put a t) = .x .bad
  | p, .lf => .inr (by simp)
  | .top, .nd l v r => .inl rfl
  | .lft p, .nd l v r => VP.get_put_self a p l
  | .rgt p, .nd l v r => VP.get_put_self a p r
/-- Whose place it is. -/
def VP.at : VP → BT Nat → Option Nat
  | _, .lf => none
  | .top, .nd _ v _ => some v
  | .lft p, .nd l _ _ => p.at l
  | .rgt p, .nd _ _ r => p.at r
/-- How many places a temporary has. -/
def countB (t : Nat) : BT Nat → Nat
  | .lf => 0
  | .nd l v r => (if v = t then 1 else 0) + countB t l + countB t r
theorem countB_pos {t : Nat} : ∀ {p : VP} {S : BT Nat}, p.at S = some t → 0 < countB t S
  | p, .lf, h => by cases p <;> simp [VP.at] at h
  | .top, .nd l v r, h => by simp [VP.at] at h; simp [countB, h]; omega
  | .lft p, .nd l v r, h => by simp [VP.at] at h; have := countB_pos h; simp [countB]; omega
  | .rgt p, .nd l v r, h => by simp [VP.at] at h; have := countB_pos h; simp [countB]; omega
theorem VP.uniq {t : Nat} : ∀ {p q : VP} {S : BT Nat}, countB t S ≤ 1 → p.at S = some t → q.at S = some t → p = q
  | p, q, .lf, _, hp, _ => by cases p <;> simp [VP.at] at hp
  | .top, .top, .nd l v r, _, _, _ => rfl
  | .lft p, .lft q, .nd l v r, hc, hp, hq => by
    simp [VP.at] at hp hq; simp [countB] at hc; rw [VP.uniq (S := l) (by omega) hp hq]
  | .rgt p, .rgt q, .nd l v r, hc, hp, hq => by
    simp [VP.at] at hp hq; simp [countB] at hc; rw [VP.uniq (S := r) (by omega) hp hq]
  | .top, .lft q, .nd l v r, hc, hp, hq => by
    simp [VP.at] at hp hq; have := countB_pos hq; simp [countB, hp] at hc; omega
  | .top, .rgt q, .nd l v r, hc, hp, hq => by
    simp [VP.at] at hp hq; have := countB_pos hq; simp [countB, hp] at hc; omega
  | .lft p, .top, .nd l v r, hc, hp, hq => by
    simp [VP.at] at hp hq; have := countB_pos hp; simp [countB, hq] at hc; omega
  | .rgt p, .top, .nd l v r, hc, hp, hq => by
    simp [VP.at] at hp hq; have := countB_pos hp; simp [countB, hq] at hc; omega
  | .lft p, .rgt q, .nd l v r, hc, hp, hq => by
    simp [VP.at] at hp hq; have := countB_pos hp; have := countB_pos hq; simp [countB] at hc; omega
  | .rgt p, .lft q, .nd l v r, hc, hp, hq => by
    simp [VP.at] at hp hq; have := countB_pos hp; have := countB_pos hq; simp [countB] at hc; omega

def oT (t : Nat) (en : Env) : AV := en.loc.get t
def oV (p : VP) (en : Env) : AV := p.get en.B
def oC (v : AV) (_ : Env) : AV := v
def oG (g : Nat) (_ : Env) : AV := .p g 0
def oF (f : Nat) (_ : Env) : AV := .x (.fn f [] [])

structure ARel (S : BT Nat) (n : Nat) (D : List Deferred) (e : Emb) (en : Env) (a : Act) : Prop where
  size : a.tmps.size = n
  tmps : ∀ t, countB t S = 0 → VRel e (en.loc.get t) (a.tmps.getD t undef)
  vars : ∀ p t, VP.at p S = some t → VRel e (p.get en.B) (a.tmps.getD t undef)
  defers : a.defers = D

theorem ARel.mono {S : BT Nat} {n : Nat} {D : List Deferred} {e e' : Emb} {en : Env} {a : Act} (h : ∀ b i, e b = some i → e' b = some i) (r : ARel S n D e en a) : ARel S n D e' en a :=
  ⟨r.size, fun t ht => (r.tmps t ht).mono h, fun p t ht => (r.vars p t ht).mono h, r.defers⟩

theorem getD_put_self {a : Act} {d n : Nat} (hs : a.tmps.size = n) (hd : d < n) (v' : Value) : (a.put (some d) v').tmps.getD d undef = v' := by
  simp [Act.put, Array.getD, hs, hd]
theorem getD_put_ne {a : Act} {d t : Nat} (h : d ≠ t) (v' : Value) : (a.put (some d) v').tmps.getD t undef = a.tmps.getD t undef := by
  simp only [Act.put, Array.getD_eq_getD_getElem?, Array.getElem?_setIfInBounds]
  rw [if_neg h]

theorem ARel.put {S : BT Nat} {n : Nat} {D : List Deferred} {e : Emb} {en : Env} {a : Act} (r : ARel S n D e en a) {d : Nat} (hd : d < n) (hS : countB d S = 0) {v : AV} {v' : Value} (hv : VRel e v v') :
    ARel S n D e ⟨.cons d v en.loc, en.B⟩ (a.put (some d) v') := by
  refine ⟨by simp [Act.put, r.size], fun t ht => ?_, fun p t ht => ?_, r.defers⟩
  · rw [Loc.get_cons]
    by_cases h : d = t
    · subst h
      rw [if_pos rfl, getD_put_self r.size hd]; exact hv
    · rw [if_neg h, getD_put_ne h]; exact r.tmps t ht
  · have h : d ≠ t := by
      rintro rfl
      have := countB_pos ht
      omega
    rw [getD_put_ne h]; exact r.vars p t ht
theorem ARel.putV {S : BT Nat} {n : Nat} {D : List Deferred} {e : Emb} {en : Env} {a : Act} (r : ARel S n D e en a) {d : Nat} (hd : d < n) {p : VP} (hp : p.at S = some d) (hS : countB d S ≤ 1) {v : AV} {v' : Value} (hv : VRel e v v') :
    ARel S n D e ⟨en.loc, p.put v en.B⟩ (a.put (some d) v') := by
  refine ⟨by simp [Act.put, r.size], fun t ht => ?_, fun q t ht => ?_, r.defers⟩
  · have h : d ≠ t := by
      rintro rfl
      have := countB_pos hp
      omega
    rw [getD_put_ne h]; exact r.tmps t ht
  · by_cases h : d = t
    · subst h
      have := VP.uniq hS ht hp
      subst this
      rw [getD_put_self r.size hd]
      rcases VP.get_put_self v q en.B with hq | hq
      · rw [hq]; exact hv
      · rw [hq]; exact .bad _
    · rw [getD_put_ne h]
      rcases VP.get_put v p q en.B with hq | ⟨rfl, hq⟩
      · rw [hq]; exact r.vars q t ht
      · rw [hp] at ht; cases ht; exact absurd rfl h

variable {S : BT Nat}

/-- An operand, and what stands for it. -/
def OpndOk (P : Program) (S : BT Nat) (x : Operand) (o : Env → AV) : Prop :=
  ∀ n D e en a H w, Rel P.globals.size e H w → ARel S n D e en a → VRel e (o en) (a.eval x)

theorem opnd_tmp (P : Program) (t : Nat) (h : countB t S = 0) : OpndOk P S (.tmp t) (oT t) := fun _ _ _ _ _ _ _ _ r => r.tmps t h
theorem opnd_var (P : Program) (p : VP) (t : Nat) (h : p.at S = some t) : OpndOk P S (.tmp t) (oV p) := fun _ _ _ _ _ _ _ _ r => r.vars p t h
theorem opnd_const (P : Program) (v : Value) (av : AV) (h : ∀ e, VRel e av v) : OpndOk P S (.const v) (oC av) := fun _ _ e _ _ _ _ _ _ => h e
theorem opnd_global (P : Program) (g : Nat) (h : g < P.globals.size) : OpndOk P S (.global g) (oG g) := fun _ _ e _ _ _ _ hr _ => by
  obtain ⟨i, hi, hb, ho⟩ := hr.glob g h
  have := VRel.p g 0 i hi
  rw [hb, ho] at this
  exact this
theorem opnd_func (P : Program) (f : Nat) : OpndOk P S (.func f) (oF f) := fun _ _ _ _ _ _ _ _ _ => .fn f [] [] [] [] .nil .nil

/-- What an operation comes to is sound. -/
def OSnd (P : Program) (S : BT Nat) (o : Oper) (en : Env) (H : AHeap) : ORes → Prop
  | .fail => True
  | .v v H' => ∀ n D e w a, Rel P.globals.size e H w → ARel S n D e en a →
      o.wp P a w (fun a' w' => ∃ e' v', a' = a.put o.dst v' ∧ VRel e' v v' ∧ Evo P.globals.size e H w e' H' w') (fun _ _ _ => False)
  | .pan v H' => ∀ n D e w a, Rel P.globals.size e H w → ARel S n D e en a →
      o.wp P a w (fun _ _ => False) (fun X a' w' => ∃ e' v', X = .panic [⟨v', false, false⟩] ∧ a' = a ∧ VRel e' v v' ∧ Evo P.globals.size e H w e' H' w')

theorem OSnd.value {P : Program} {o : Oper} {en : Env} {H H' : AHeap} {v : AV}
    (h : ∀ n D e w a, Rel P.globals.size e H w → ARel S n D e en a → ∃ e' v' w', (execOp a.eval o).run P w = .ok (.value v') w' ∧ VRel e' v v' ∧ Evo P.globals.size e H w e' H' w') :
    OSnd P S o en H (.v v H') := by
  intro n D e w a hr ha
  obtain ⟨e', v', w', h1, h2, h3⟩ := h n D e w a hr ha
  simp only [Oper.wp, h1, Oper.upon_value]
  exact ⟨e', v', rfl, h2, h3⟩

theorem OSnd.skip {P : Program} {o : Oper} {en : Env} {H H' : AHeap}
    (h : ∀ n D e w a, Rel P.globals.size e H w → ARel S n D e en a → ∃ e' w', (execOp a.eval o).run P w = .ok .skip w' ∧ Evo P.globals.size e H w e' H' w') :
    OSnd P S o en H (.v undefA H') := by
  intro n D e w a hr ha
  obtain ⟨e', w', h1, h3⟩ := h n D e w a hr ha
  simp only [Oper.wp, h1, Oper.upon_skip]
  exact ⟨e', undef, rfl, vrel_undef e', h3⟩

/-- An operation that only computes. -/
theorem OSnd.pure {P : Program} {o : Oper} {en : Env} {H : AHeap} {v : AV}
    (h : ∀ n D e w a, Rel P.globals.size e H w → ARel S n D e en a → ∃ v', (execOp a.eval o).run P w = .ok (.value v') w ∧ VRel e v v') :
    OSnd P S o en H (.v v H) :=
  OSnd.value fun n D e w a hr ha => let ⟨v', h1, h2⟩ := h n D e w a hr ha; ⟨e, v', w, h1, h2, Evo.refl hr⟩

/-! ### Looking into values -/
section
variable {R : Type}
def avI (d : R) (f : Nat → Nat → R) (v : AV) : R := AVp.rec (motive := fun _ => R) f (fun _ => d) (fun _ _ => d) (fun _ _ => d) (fun _ _ _ _ => d) (fun _ => d) v
def avB (d : R) (f : Bool → R) (v : AV) : R := AVp.rec (motive := fun _ => R) (fun _ _ => d) f (fun _ _ => d) (fun _ _ => d) (fun _ _ _ _ => d) (fun _ => d) v
def avS (d : R) (f : Nat → Nat → R) (v : AV) : R := AVp.rec (motive := fun _ => R) (fun _ _ => d) (fun _ => d) f (fun _ _ => d) (fun _ _ _ _ => d) (fun _ => d) v
def avP (d : R) (f : Nat → Nat → R) (v : AV) : R := AVp.rec (motive := fun _ => R) (fun _ _ => d) (fun _ => d) (fun _ _ => d) f (fun _ _ _ _ => d) (fun _ => d) v
def avSl (d : R) (f : Nat → Nat → Nat → Nat → R) (v : AV) : R := AVp.rec (motive := fun _ => R) (fun _ _ => d) (fun _ => d) (fun _ _ => d) (fun _ _ => d) f (fun _ => d) v
def avX (d : R) (f : AX → R) (v : AV) : R := AVp.rec (motive := fun _ => R) (fun _ _ => d) (fun _ => d) (fun _ _ => d) (fun _ _ => d) (fun _ _ _ _ => d) f v
def axAgg (d : R) (f : List AV → R) (v : AX) : R := AX.casesOn (motive_1 := fun _ => R) v d d d d d d (fun _ => d) (fun _ _ _ => d) (fun _ _ => d) f (fun _ => d) (fun _ => d) (fun _ _ => d) (fun _ _ _ => d)
def axTup (d : R) (f : List AV → R) (v : AX) : R := AX.casesOn (motive_1 := fun _ => R) v d d d d d d (fun _ => d) (fun _ _ _ => d) (fun _ _ => d) (fun _ => d) f (fun _ => d) (fun _ _ => d) (fun _ _ _ => d)
def blkC (d : R) (f : Nat → BT AV → Bool → Nat → R) (x : Option ABlk) : R := Option.rec (motive := fun _ => R) d (fun y => ABlk.rec (motive := fun _ => R) f (fun _ => d) d y) x
def blkM (d : R) (f : List (AV × AV) → R) (x : Option ABlk) : R := Option.rec (motive := fun _ => R) d (fun y => ABlk.rec (motive := fun _ => R) (fun _ _ _ _ => d) f d y) x
def optE (d : R) (f : AV → R) (x : Option AV) : R := Option.rec (motive := fun _ => R) d f x
def bif' (d : R) (f : R) (c : Bool) : R := Bool.rec (motive := fun _ => R) d f c
end

/-! ### move, assign, pick -/
def opMove (x : Env → AV) (en : Env) (H : AHeap) : ORes := .v (x en) H
theorem opMove_snd {P : Program} {o : Oper} {x : Operand} {x' : Env → AV} (ho : o.op = .move x ∨ o.op = .assign x) (hx : OpndOk P S x x') (en : Env) (H : AHeap) :
    OSnd P S o en H (opMove x' en H) :=
  OSnd.pure fun n D e w a hr ha => by
    refine ⟨a.eval x, ?_, hx n D e en a H w hr ha⟩
    rcases ho with ho | ho <;> simp [execOp, ho]

def opPick (c x y : Env → AV) (en : Env) (H : AHeap) : ORes := avB .fail (fun t => .v (Bool.rec (motive := fun _ => AV) (y en) (x en) t) H) (c en)
theorem opPick_snd {P : Program} {o : Oper} {c x y : Operand} {c' x' y' : Env → AV} (ho : o.op = .pick c x y) (hc : OpndOk P S c c') (hx : OpndOk P S x x') (hy : OpndOk P S y y') (en : Env) (H : AHeap) :
    OSnd P S o en H (opPick c' x' y' en H) := by
  unfold opPick
  cases h : c' en with
  | b t =>
    refine OSnd.pure fun n D e w a hr ha => ?_
    have h1 := hc n D e en a H w hr ha
    have h2 := hx n D e en a H w hr ha
    have h3 := hy n D e en a H w hr ha
    rw [h] at h1
    generalize hcv : a.eval c = cv at h1
    cases h1
    cases t
    · exact ⟨a.eval y, by simp [execOp, ho, hcv, asBool], h3⟩
    · exact ⟨a.eval x, by simp [execOp, ho, hcv, asBool], h2⟩
  | _ => trivial
/-! ### Types -/
def aggOf (P : Program) (t : TypeId) : Option (Option Nat) :=
  match P.underlying t with
  | some (.struct _) | some (.array _ _) => (P.info? t).map fun i => some i.size
  | some _ => some none
  | none => none

theorem run_isAgg_none {P : Program} {t : TypeId} (h : aggOf P t = some none) (w : World) : (isAgg t).run P w = .ok false w := by
  unfold aggOf at h
  unfold isAgg
  cases hu : P.underlying t with
  | none => rw [hu] at h; cases h
  | some d => rw [hu] at h; cases d <;> simp at h <;> simp [run_underlying hu]
theorem run_isAgg_some {P : Program} {t : TypeId} {n : Nat} (h : aggOf P t = some (some n)) (w : World) : (isAgg t).run P w = .ok true w ∧ (sizeOf t).run P w = .ok n w := by
  unfold aggOf at h
  unfold isAgg sizeOf
  cases hu : P.underlying t with
  | none => rw [hu] at h; cases h
  | some d =>
    rw [hu] at h
    cases d <;> simp at h <;> obtain ⟨i, hi, rfl⟩ := h <;> simp [run_underlying hu, typeInfo, hi]
def szOf (P : Program) (t : TypeId) : Option Nat := (P.info? t).map (·.size)
theorem run_sizeOf {P : Program} {t : TypeId} {n : Nat} (h : szOf P t = some n) (w : World) : (sizeOf t).run P w = .ok n w := by
  unfold szOf at h
  simp at h
  obtain ⟨i, hi, rfl⟩ := h
  simp [sizeOf, typeInfo, hi]

/-! ### Cells -/
theorem cell_of {w : World} {B : Nat} {C : Array Value} {ty : TypeId} {z : Nat × Nat} (h : w.heap[B]? = some (.cells C ty z)) (o : Nat) : w.cell? ⟨B, o, none⟩ = C[o]? := by
  simp [World.cell?, h]
theorem add_addr (B o k : Nat) : (⟨B, o, none⟩ : Addr).add k = ⟨B, o + k, none⟩ := by
  unfold Addr.add
  split
  · subst_vars; simp
  · rfl

def opLoad1 (x : Env → AV) (en : Env) (H : AHeap) : ORes :=
  avP .fail (fun b o => blkC .fail (fun n t _ _ => bif' .fail (optE .fail (fun v => .v v H) (t.get o)) (Nat.ble (Nat.add o 1) n)) (H.get b)) (x en)

theorem opLoad1_snd {P : Program} {o : Oper} {t : TypeId} {x : Operand} {x' : Env → AV} (ho : o.op = .load t x) (ht : aggOf P t = some none) (hx : OpndOk P S x x') (en : Env) (H : AHeap) :
    OSnd P S o en H (opLoad1 x' en H) := by
  unfold opLoad1
  cases h : x' en with
  | p b k =>
    simp only [avP]
    cases hb : H.get b with
    | none => trivial
    | some y =>
      cases y with
      | m es => trivial
      | dead => trivial
      | c n T wr sp =>
        simp only [blkC, bif']
        cases hk : Nat.ble (Nat.add k 1) n with
        | false => trivial
        | true =>
          have hk' : k < n := by rw [ble_tt] at hk; exact hk
          simp only
          cases hv : T.get k with
          | none => trivial
          | some v =>
            simp only [optE]
            refine OSnd.pure fun N D e w a hr ha => ?_
            have h1 := hx N D e en a H w hr ha
            rw [h] at h1
            generalize hxv : a.eval x = xv at h1
            cases h1
            rename_i i hi
            obtain ⟨e1, e2, e3, C, ty, z, c1, c2, c3, c4⟩ := hr.obj b i _ hi hb
            obtain ⟨u, v', g1, g2, g3⟩ := c4 k hk'
            rw [hv] at g1; cases g1
            refine ⟨v', ?_, g3⟩
            have hcell := cell_of c1 (i.off + k)
            rw [g2] at hcell
            simp [execOp, ho, hxv, Instr.loadAt, Instr.sureAddr, loadVar, run_isAgg_none ht, hcell]
  | _ => trivial

/-- The cells from a place on. -/
def takeN (t : BT AV) (n : Nat) : Nat → Option (List AV) :=
  Nat.rec (motive := fun _ => Nat → Option (List AV)) (fun _ => some []) (fun _ ih o => Option.rec (motive := fun _ => Option (List AV)) none (fun v => Option.rec (motive := fun _ => Option (List AV)) none (fun l => some (v :: l)) (ih (Nat.add o 1))) (t.get o)) n
theorem takeN_succ (t : BT AV) (n o : Nat) : takeN t (n + 1) o = (t.get o).bind fun v => (takeN t n (o + 1)).map fun l => v :: l := by
  have h : takeN t (n + 1) o = Option.rec (motive := fun _ => Option (List AV)) none (fun v => Option.rec (motive := fun _ => Option (List AV)) none (fun l => some (v :: l)) (takeN t n (o + 1))) (t.get o) := rfl
  rw [h]
  cases t.get o with
  | none => rfl
  | some v => cases takeN t n (o + 1) <;> rfl
theorem takeN_spec (t : BT AV) : ∀ (n o : Nat) (l : List AV), takeN t n o = some l → l.length = n ∧ ∀ k, k < n → l[k]? = t.get (o + k)
  | 0, o, l, h => by
    have : takeN t 0 o = some [] := rfl
    rw [this] at h; cases h
    exact ⟨rfl, fun k hk => by omega⟩
  | n + 1, o, l, h => by
    rw [takeN_succ] at h
    cases hv : t.get o with
    | none => rw [hv] at h; cases h
    | some v =>
      rw [hv] at h
      simp only [Option.bind_some] at h
      cases hl : takeN t n (o + 1) with
      | none => rw [hl] at h; cases h
      | some l' =>
        rw [hl] at h
        cases h
        obtain ⟨h1, h2⟩ := takeN_spec t n (o + 1) l' hl
        refine ⟨by simp [h1], fun k hk => ?_⟩
        cases k with
        | zero => simpa using hv.symm
        | succ k => rw [List.getElem?_cons_succ, h2 k (by omega)]; congr 1; omega

def readN (H : AHeap) (b o n : Nat) : Option (List AV) :=
  blkC none (fun m t _ _ => bif' none (takeN t n o) (Nat.ble (Nat.add o n) m)) (H.get b)

theorem readN_spec {G : Nat} {H : AHeap} {b o n : Nat} {l : List AV} (h : readN H b o n = some l) {e : Emb} {w : World} (hr : Rel G e H w) {i : Info} (hi : e b = some i) :
    ∃ l' : List Value, l'.length = n ∧ VRels e l l' ∧ (∀ j v, l'[j]? = some v → w.cell? ((⟨i.blk, i.off + o, none⟩ : Addr).add j) = some v) ∧ o + n ≤ i.len := by
  unfold readN at h
  cases hb : H.get b with
  | none => rw [hb] at h; cases h
  | some y =>
    rw [hb] at h
    cases y with
    | m es => cases h
    | dead => cases h
    | c m T wr sp =>
      simp only [blkC, bif'] at h
      cases hk : Nat.ble (Nat.add o n) m with
      | false => rw [hk] at h; cases h
      | true =>
        rw [hk] at h
        have hk' : o + n ≤ m := by rw [ble_tt] at hk; exact hk
        obtain ⟨s1, s2⟩ := takeN_spec T n o l h
        obtain ⟨e1, e2, e3, C, ty, z, c1, c2, c3, c4⟩ := hr.obj b i _ hi hb
        have hlt : ∀ k, k < n → i.off + o + k < C.size := fun k hk => by omega
        refine ⟨(List.range n).map fun k => C.getD (i.off + o + k) undef, by simp, ?_, ?_, by omega⟩
        · refine VRels.of_get (by simp [s1]) fun k v v' h1 h2 => ?_
          have hkn : k < n := by
            have := (List.getElem?_eq_some_iff.1 h1).1; omega
          obtain ⟨u, u', g1, g2, g3⟩ := c4 (o + k) (by omega)
          rw [s2 k hkn, g1] at h1
          cases h1
          simp only [List.getElem?_map, List.getElem?_range hkn, Option.map_some, Option.some.injEq] at h2
          rw [show i.off + (o + k) = i.off + o + k by omega] at g2
          rw [← h2, Array.getD_eq_getD_getElem?, g2]
          exact g3
        · intro j v hj
          have hjn : j < n := by
            have := (List.getElem?_eq_some_iff.1 hj).1; simpa using this
          simp only [List.getElem?_map, List.getElem?_range hjn, Option.map_some, Option.some.injEq] at hj
          rw [add_addr, cell_of c1, ← hj]
          have := hlt j hjn
          simp [Array.getD, this]

def opLoadN (n : Nat) (x : Env → AV) (en : Env) (H : AHeap) : ORes :=
  avP .fail (fun b o => Option.rec (motive := fun _ => ORes) .fail (fun l => .v (.x (.agg l)) H) (readN H b o n)) (x en)
theorem opLoadN_snd {P : Program} {o : Oper} {t : TypeId} {x : Operand} {x' : Env → AV} {n : Nat} (ho : o.op = .load t x) (ht : aggOf P t = some (some n)) (hx : OpndOk P S x x') (en : Env) (H : AHeap) :
    OSnd P S o en H (opLoadN n x' en H) := by
  unfold opLoadN
  cases h : x' en with
  | p b k =>
    simp only [avP]
    cases hl : readN H b k n with
    | none => trivial
    | some l =>
      refine OSnd.pure fun N D e w a hr ha => ?_
      have h1 := hx N D e en a H w hr ha
      rw [h] at h1
      generalize hxv : a.eval x = xv at h1
      cases h1
      rename_i i hi
      obtain ⟨l', g1, g2, g3, g4⟩ := readN_spec hl hr hi
      obtain ⟨t1, t2⟩ := run_isAgg_some ht w
      refine ⟨.agg l'.toArray, ?_, .agg l l' g2⟩
      have hrun := run_loadCells_list (P := P) w _ l' g3
      rw [g1] at hrun
      simp [execOp, ho, hxv, Instr.loadAt, Instr.sureAddr, loadVar, t1, t2, hrun]
  | _ => trivial

end
end Go.Ab
