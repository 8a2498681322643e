/- Operations over the abstract memory (8): shifts, other kinds, one-place operations, bools. -/
import Derived.Test.YtfhaailmhaamfaaGreatDoorAbInt2
namespace Go.Ab
open Go
noncomputable section
variable {S : BT Nat}

theorem digs_lo (K : IntKind) (z : Int) (d : Nat) (h : z = d) (hd : d < 2 ^ K.bits) : digs K z = d := digs_eq K z d hd (by rw [h])

/-! ### Shifts; the count may not be negative -/
def sShl (k M bits : Nat) (n s : Nat) : Option AV := some (.i k (Nat.mod (Nat.mul n (Nat.pow 2 (Bool.rec (motive := fun _ => Nat) bits s (Nat.ble s bits)))) M))
def sShr (k half bits : Nat) (n s : Nat) : Option AV := Bool.rec (motive := fun _ => Option AV) none (some (.i k (Nat.div n (Nat.pow 2 (Bool.rec (motive := fun _ => Nat) bits s (Nat.ble s bits)))))) (Nat.ble (Nat.add n 1) half)

def opShift (k : Nat) (f : Nat → Nat → Option AV) (x y : Env → AV) (en : Env) (H : AHeap) : ORes :=
  avI .fail (fun k1 n => bif' .fail (optN .fail (fun s => optE .fail (fun v => .v v H) (f n s)) (natOf (y en))) (Nat.beq k1 k)) (x en)

def ShOk (P : Program) (op : BinOp) (t : TypeId) (k : Nat) (f : Nat → Nat → Option AV) : Prop :=
  ∀ n s v K, n < 2 ^ (kindOf k).bits → f n s = some v → ∃ v', (∀ w, (binOp op t (.int (kindOf k) ((kindOf k).wrap (n : Int))) (.int K (s : Int))).run P w = .ok v' w) ∧ ∀ e, VRel e v v'

theorem opShift_snd {P : Program} {o : Oper} {op : BinOp} {t t2 : TypeId} {x y : Operand} {k : Nat} {f : Nat → Nat → Option AV} {x' y' : Env → AV} (ho : o.op = .binOp op t x y t2) (hf : ShOk P op t k f) (hx : OpndOk P S x x') (hy : OpndOk P S y y') (en : Env) (H : AHeap) :
    OSnd P S o en H (opShift k f x' y' en H) := by
  unfold opShift
  cases h : x' en with
  | i k1 n =>
    simp only [avI, bif']
    cases c1 : Nat.beq k1 k with
    | false => trivial
    | true =>
    have d1 : k1 = k := Nat.eq_of_beq_eq_true c1
    subst d1
    simp only
    cases hs : natOf (y' en) with
    | none => trivial
    | some s =>
    simp only [optN]
    cases hv : f n s with
    | none => trivial
    | some v =>
      refine OSnd.pure fun N D e w a hr ha => ?_
      have h1 := hx N D e en a H w hr ha
      obtain ⟨K, hK⟩ := natOf_spec hs (hy N D e en a H w hr ha)
      rw [h] at h1
      generalize hxv : a.eval x = xv at h1
      cases h1
      rename_i q1 q2
      obtain ⟨v', g1, g2⟩ := hf n s v K q2 hv
      refine ⟨v', ?_, g2 e⟩
      simp [execOp, ho, hxv, hK, eqGuard, g1]
  | _ => trivial

theorem min_brec (s bits : Nat) : (Bool.rec (motive := fun _ => Nat) bits s (Nat.ble s bits) : Nat) = min s bits := by
  rw [brec]
  simp only [ble_tt]
  split <;> omega

theorem sShl_ok (P : Program) (t : TypeId) (k M bits : Nat) (hk : k < 8) (hb : bits = (kindOf k).bits) (hM : M = 2 ^ bits) : ShOk P .shl t k (sShl k M bits) := by
  intro n s v K hn hv
  cases hv
  refine ⟨.int (kindOf k) ((kindOf k).wrap ((kindOf k).wrap (n : Int) * 2 ^ (min s bits))), fun w => by simp [binOp, Op.shift, hb]; intro h; omega, fun e => vrel_int e k hk _ _ ?_⟩
  subst hM
  subst hb
  refine digs_eq _ _ _ (Nat.mod_lt _ (Nat.two_pow_pos _)) ?_
  rw [min_brec, Int.mul_emod, wrap_emod, ← Int.mul_emod]
  show _ = (((n * 2 ^ (min s (kindOf k).bits)) % 2 ^ (kindOf k).bits : Nat) : Int) % _
  simp

theorem sShr_ok (P : Program) (t : TypeId) (k half bits : Nat) (hk : k < 8) (hb : bits = (kindOf k).bits) (hh : half = if (kindOf k).signed then 2 ^ ((kindOf k).bits - 1) else 2 ^ (kindOf k).bits) : ShOk P .shr t k (sShr k half bits) := by
  intro n s v K hn hv
  unfold sShr at hv
  cases c : Nat.ble (Nat.add n 1) half with
  | false => rw [c] at hv; cases hv
  | true =>
    rw [c] at hv
    cases hv
    have hlt : n < half := by rw [ble_tt] at c; exact c
    have hw := wrap_pos k n half hk hh hlt
    have hdl : n / 2 ^ (min s bits) ≤ n := Nat.div_le_self _ _
    refine ⟨.int (kindOf k) (((kindOf k).wrap (n : Int)).fdiv (2 ^ (min s bits))), fun w => by simp [binOp, Op.shift, hb]; intro h; omega, fun e => ?_⟩
    have hres : ((kindOf k).wrap (n : Int)).fdiv (2 ^ (min s bits)) = ((n / 2 ^ (min s bits) : Nat) : Int) := by
      rw [hw, Int.fdiv_eq_ediv_of_nonneg _ (Int.le_of_lt (by exact_mod_cast Nat.two_pow_pos (min s bits)))]
      simp
    have hw2 := wrap_pos k (n / 2 ^ (min s bits)) half hk hh (by omega)
    rw [hres, ← hw2]
    have := VRel.i (e := e) k (n / 2 ^ (min s bits)) hk (by omega)
    rw [min_brec]
    exact this

/-! ### One place -/
def opUn (f : AV → Option AV) (x : Env → AV) (en : Env) (H : AHeap) : ORes := optE .fail (fun v => .v v H) (f (x en))
theorem opUn_snd {P : Program} {o : Oper} {x : Operand} {f : AV → Option AV} {x' : Env → AV} (h : ∀ v u e v' (a : Act), VRel e v v' → f v = some u → a.eval x = v' → ∃ u', (∀ w, (execOp a.eval o).run P w = .ok (.value u') w) ∧ VRel e u u') (hx : OpndOk P S x x') (en : Env) (H : AHeap) :
    OSnd P S o en H (opUn f x' en H) := by
  unfold opUn
  cases hv : f (x' en) with
  | none => trivial
  | some u =>
    refine OSnd.pure fun N D e w a hr ha => ?_
    obtain ⟨u', g1, g2⟩ := h _ u e _ a (hx N D e en a H w hr ha) hv rfl
    exact ⟨u', g1 w, g2⟩

def uNot (v : AV) : Option AV := avB none (fun b => some (.b (Bool.rec (motive := fun _ => Bool) true false b))) v
theorem uNot_snd {P : Program} {o : Oper} {t : TypeId} {x : Operand} {x' : Env → AV} (ho : o.op = .unOp .not t x) (hx : OpndOk P S x x') (en : Env) (H : AHeap) : OSnd P S o en H (opUn uNot x' en H) :=
  opUn_snd (fun v u e v' a hv hu he => by
    cases hv with
    | b c =>
      cases hu
      refine ⟨.bool (!c), fun w => by simp [execOp, ho, he, Op.unary], ?_⟩
      cases c <;> exact .b _
    | _ => cases hu) hx en H

def uNeg (k M : Nat) (v : AV) : Option AV := avI none (fun k1 n => Bool.rec (motive := fun _ => Option AV) none (some (.i k (Nat.mod (Nat.sub M n) M))) (Nat.beq k1 k)) v
theorem uNeg_snd {P : Program} {o : Oper} {t : TypeId} {x : Operand} {k M : Nat} {x' : Env → AV} (ho : o.op = .unOp .neg t x) (hk : k < 8) (hM : M = 2 ^ (kindOf k).bits) (hx : OpndOk P S x x') (en : Env) (H : AHeap) : OSnd P S o en H (opUn (uNeg k M) x' en H) :=
  opUn_snd (fun v u e v' a hv hu he => by
    cases hv with
    | i k1 n hk1 hn =>
      simp only [uNeg, avI] at hu
      cases c : Nat.beq k1 k with
      | false => rw [c] at hu; cases hu
      | true =>
        rw [c] at hu
        cases hu
        have d : k1 = k := Nat.eq_of_beq_eq_true c
        subst d
        refine ⟨.int (kindOf k1) ((kindOf k1).wrap (0 - (kindOf k1).wrap (n : Int))), fun w => by simp [execOp, ho, he, Op.unary, Op.intArith], vrel_int e k1 hk _ _ ?_⟩
        subst hM
        refine digs_eq _ _ _ (Nat.mod_lt _ (Nat.two_pow_pos _)) ?_
        show _ = (((2 ^ (kindOf k1).bits - n) % 2 ^ (kindOf k1).bits : Nat) : Int) % _
        rw [Int.natCast_emod, Int.natCast_sub (by omega), Int.sub_emod, wrap_emod, ← Int.sub_emod]
        simp only [Int.natCast_pow, Int.cast_ofNat_Int, Int.emod_emod]
        rw [show (2 ^ (kindOf k1).bits : Int) - (n : Int) = (0 - (n : Int)) + 2 ^ (kindOf k1).bits by omega, Int.add_emod_right]
    | _ => cases hu) hx en H

/-- a whole number as one of another kind -/
def uConv (k' M' : Nat) (half M : Nat → Nat) (v : AV) : Option AV :=
  avI none (fun k1 n => some (.i k' (Nat.mod (Bool.rec (motive := fun _ => Nat) (Nat.add n (Nat.mul (Nat.sub M' 1) (M k1))) n (Nat.ble (Nat.add n 1) (half k1))) M'))) v
def halfK (k : Nat) : Nat := if (kindOf k).signed then 2 ^ ((kindOf k).bits - 1) else 2 ^ (kindOf k).bits
def modK (k : Nat) : Nat := 2 ^ (kindOf k).bits
theorem uConv_snd {P : Program} {o : Oper} {t t' : TypeId} {x : Operand} {k' M' : Nat} {half M : Nat → Nat} {x' : Env → AV} (ho : o.op = .convert t t' x) (hu : ∃ d, P.underlying t = some d) (ht : P.underlying t' = some (.int (kindOf k'))) (hk : k' < 8) (hM' : M' = 2 ^ (kindOf k').bits)
    (hh : ∀ k, k < 8 → half k = halfK k) (hM : ∀ k, k < 8 → M k = modK k) (hx : OpndOk P S x x') (en : Env) (H : AHeap) : OSnd P S o en H (opUn (uConv k' M' half M) x' en H) :=
  opUn_snd (fun v u e v' a hv hu' he => by
    cases hv with
    | i k1 n hk1 hn =>
      cases hu'
      obtain ⟨d, hd⟩ := hu
      refine ⟨.int (kindOf k') ((kindOf k').wrap ((kindOf k1).wrap (n : Int))), fun w => by simp [execOp, ho, he, convert, run_underlying hd, run_underlying ht, Conv.intToInt], vrel_int e k' hk _ _ ?_⟩
      subst hM'
      refine digs_eq _ _ _ (Nat.mod_lt _ (Nat.two_pow_pos _)) ?_
      rw [hh k1 hk1, hM k1 hk1, brec]
      simp only [ble_tt]
      by_cases c : n < halfK k1
      · rw [if_pos (show Nat.add n 1 ≤ halfK k1 from c), wrap_pos k1 n (halfK k1) hk1 rfl c]
        show _ = ((n % 2 ^ (kindOf k').bits : Nat) : Int) % _
        simp
      · rw [if_neg (show ¬ Nat.add n 1 ≤ halfK k1 from c), wrap_neg k1 n (halfK k1) hk1 rfl (by omega) hn]
        show _ = (((n + (2 ^ (kindOf k').bits - 1) * 2 ^ (kindOf k1).bits) % 2 ^ (kindOf k').bits : Nat) : Int) % _
        have hA : (2 ^ (kindOf k').bits : Int) = ((2 ^ (kindOf k').bits : Nat) : Int) := by simp
        have hp := Nat.two_pow_pos (kindOf k').bits
        rw [hA, Int.natCast_emod, Int.emod_emod]
        generalize 2 ^ (kindOf k').bits = A at hp
        generalize 2 ^ (kindOf k1).bits = B at hn
        have h1 : ((n + (A - 1) * B : Nat) : Int) = -((B - n : Nat) : Int) + (A : Int) * (B : Int) := by
          rw [Int.natCast_add, Int.natCast_mul, Int.natCast_sub (by omega : 1 ≤ A), Int.natCast_sub (by omega : n ≤ B), Int.sub_mul]
          simp only [Int.natCast_one, Int.one_mul]
          omega
        rw [h1, Int.add_mul_emod_self_left]
    | _ => cases hu') hx en H
end
end Go.Ab
