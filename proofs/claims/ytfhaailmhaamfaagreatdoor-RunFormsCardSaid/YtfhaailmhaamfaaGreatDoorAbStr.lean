/- Operations over the abstract memory (9): strings by their numbers; bools. -/
import Derived.Test.YtfhaailmhaamfaaGreatDoorAbInt3
import Derived.Laws.Strings
import Derived.Laws.Strings2
import Derived.Laws.Concat
namespace Go.Ab
open Go
noncomputable section
variable {S : BT Nat}

theorem bytesOf_length : ∀ (n c : Nat), (bytesOf n c).length = n
  | 0, _ => rfl
  | n + 1, c => by simp [bytesOf, bytesOf_length n]
theorem bytesOf_append : ∀ (n1 n2 c1 c2 : Nat), c1 < 256 ^ n1 → bytesOf (n1 + n2) (c1 + c2 * 256 ^ n1) = bytesOf n1 c1 ++ bytesOf n2 c2
  | 0, n2, c1, c2, h => by
    have : c1 = 0 := by simp at h; exact h
    subst this; simp [bytesOf]
  | n1 + 1, n2, c1, c2, h => by
    rw [show n1 + 1 + n2 = (n1 + n2) + 1 by omega]
    have hp : 256 ^ (n1 + 1) = 256 ^ n1 * 256 := Nat.pow_succ ..
    have e1 : (c1 + c2 * 256 ^ (n1 + 1)) % 256 = c1 % 256 := by
      rw [hp, ← Nat.mul_assoc]; exact Nat.add_mul_mod_self_right _ _ _
    have e2 : (c1 + c2 * 256 ^ (n1 + 1)) / 256 = c1 / 256 + c2 * 256 ^ n1 := by
      rw [hp, ← Nat.mul_assoc]; exact Nat.add_mul_div_right _ _ (by omega)
    simp only [bytesOf, List.cons_append, e1, e2]
    congr 1
    exact bytesOf_append n1 n2 (c1 / 256) c2 (by rw [hp] at h; omega)
theorem bytesOf_inj : ∀ (n a b : Nat), a < 256 ^ n → b < 256 ^ n → bytesOf n a = bytesOf n b → a = b
  | 0, a, b, ha, hb, _ => by simp at ha hb; omega
  | n + 1, a, b, ha, hb, h => by
    have hp : 256 ^ (n + 1) = 256 ^ n * 256 := Nat.pow_succ ..
    simp only [bytesOf, List.cons.injEq] at h
    have h1 : a % 256 = b % 256 := by
      have := congrArg UInt8.toNat h.1
      simpa using this
    have h2 := bytesOf_inj n (a / 256) (b / 256) (by rw [hp] at ha; omega) (by rw [hp] at hb; omega) h.2
    omega
theorem bytesOf_get : ∀ (n c i : Nat), i < n → (bytesOf n c)[i]? = some (UInt8.ofNat (c / 256 ^ i % 256))
  | 0, _, _, h => by omega
  | n + 1, c, 0, _ => by simp [bytesOf]
  | n + 1, c, i + 1, h => by
    simp only [bytesOf, List.getElem?_cons_succ]
    rw [bytesOf_get n _ i (by omega), Nat.div_div_eq_div_mul, Nat.pow_succ, Nat.mul_comm 256]
theorem bytesOf_drop : ∀ (n c l : Nat), (bytesOf n c).drop l = bytesOf (n - l) (c / 256 ^ l)
  | n, c, 0 => by simp
  | 0, c, l + 1 => by simp [bytesOf]
  | n + 1, c, l + 1 => by
    simp only [bytesOf, List.drop_succ_cons]
    rw [bytesOf_drop n _ l, Nat.div_div_eq_div_mul, Nat.pow_succ, Nat.mul_comm 256, show n + 1 - (l + 1) = n - l by omega]
theorem bytesOf_take : ∀ (m n c : Nat), m ≤ n → (bytesOf n c).take m = bytesOf m (c % 256 ^ m)
  | 0, n, c, _ => by simp [bytesOf]
  | m + 1, 0, c, h => by omega
  | m + 1, n + 1, c, h => by
    have hp : 256 ^ (m + 1) = 256 * 256 ^ m := by rw [Nat.pow_succ, Nat.mul_comm]
    simp only [bytesOf, List.take_succ_cons]
    rw [bytesOf_take m n _ (by omega)]
    congr 1
    · congr 1; rw [hp, Nat.mod_mul_right_mod]
    · rw [hp, Nat.mod_mul_right_div_self]

/-! ### Two strings -/
def opBinS (f : Nat → Nat → Nat → Nat → Option AV) (x y : Env → AV) (en : Env) (H : AHeap) : ORes :=
  avS .fail (fun l1 c1 => avS .fail (fun l2 c2 => optE .fail (fun v => .v v H) (f l1 c1 l2 c2)) (y en)) (x en)
def strV (l c : Nat) : Value := .string ⟨(bytesOf l c).toArray⟩
def BinSOk (P : Program) (op : BinOp) (t : TypeId) (f : Nat → Nat → Nat → Nat → Option AV) : Prop :=
  ∀ l1 c1 l2 c2 v, c1 < 256 ^ l1 → c2 < 256 ^ l2 → f l1 c1 l2 c2 = some v → ∃ v', (∀ w, (binOp op t (strV l1 c1) (strV l2 c2)).run P w = .ok v' w) ∧ ∀ e, VRel e v v'
theorem opBinS_snd {P : Program} {o : Oper} {op : BinOp} {t t2 : TypeId} {x y : Operand} {f : Nat → Nat → Nat → Nat → Option AV} {x' y' : Env → AV} (ho : o.op = .binOp op t x y t2) (hf : BinSOk P op t f) (hx : OpndOk P S x x') (hy : OpndOk P S y y') (en : Env) (H : AHeap) :
    OSnd P S o en H (opBinS f x' y' en H) := by
  unfold opBinS
  cases h : x' en with
  | s l1 c1 =>
    cases h2 : y' en with
    | s l2 c2 =>
      simp only [avS]
      cases hv : f l1 c1 l2 c2 with
      | none => trivial
      | some v =>
        refine OSnd.pure fun N D e w a hr ha => ?_
        have h1 := hx N D e en a H w hr ha
        have h3 := hy N D e en a H w hr ha
        rw [h] at h1
        rw [h2] at h3
        generalize hxv : a.eval x = xv at h1
        generalize hyv : a.eval y = yv at h3
        cases h1
        cases h3
        rename_i q1 q2
        obtain ⟨v', g1, g2⟩ := hf l1 c1 l2 c2 v q1 q2 hv
        have g1' := g1 w
        unfold strV at g1'
        exact ⟨v', by simp [execOp, ho, hxv, hyv, eqGuard, g1'], g2 e⟩
    | _ => trivial
  | _ => trivial

def sCat (l1 c1 l2 c2 : Nat) : Option AV := Bool.rec (motive := fun _ => Option AV) none (some (.s (Nat.add l1 l2) (Nat.add c1 (Nat.mul c2 (Nat.pow 256 l1))))) (Nat.ble (Nat.add l1 l2) 140737488355328)
def sEq (l1 c1 l2 c2 : Nat) : Option AV := some (.b (Bool.rec (motive := fun _ => Bool) false (Nat.beq c1 c2) (Nat.beq l1 l2)))
def sNe (l1 c1 l2 c2 : Nat) : Option AV := some (.b (Bool.rec (motive := fun _ => Bool) true (Bool.rec (motive := fun _ => Bool) true false (Nat.beq c1 c2)) (Nat.beq l1 l2)))

theorem strV_size (l c : Nat) : (⟨(bytesOf l c).toArray⟩ : ByteArray).size = l := by simp [ByteArray.size, bytesOf_length]
theorem sCat_ok (P : Program) (t : TypeId) : BinSOk P .add t sCat := by
  intro l1 c1 l2 c2 v h1 h2 hv
  unfold sCat at hv
  cases hb : Nat.ble (Nat.add l1 l2) 140737488355328 with
  | false => rw [hb] at hv; cases hv
  | true =>
    rw [hb] at hv
    cases hv
    have hle : l1 + l2 ≤ 140737488355328 := by rw [ble_tt] at hb; exact hb
    refine ⟨strV (l1 + l2) (c1 + c2 * 256 ^ l1), fun w => ?_, fun e => .s _ _ ?_⟩
    · unfold strV
      simp only [binOp]
      rw [run_string_add_sum w _ _ (by rw [strV_size, strV_size]; omega), ByteArray.mk_append_mk, bytesOf_append l1 l2 c1 c2 h1]
    · show c1 + c2 * 256 ^ l1 < 256 ^ (l1 + l2)
      rw [Nat.pow_add]
      have : c2 * 256 ^ l1 + 256 ^ l1 ≤ 256 ^ l2 * 256 ^ l1 := by
        rw [← Nat.succ_mul]; exact Nat.mul_le_mul_right _ h2
      rw [Nat.mul_comm (256 ^ l1)]
      omega
theorem str_eq_iff (l1 c1 l2 c2 : Nat) (h1 : c1 < 256 ^ l1) (h2 : c2 < 256 ^ l2) : (bytesOf l1 c1 == bytesOf l2 c2) = Bool.rec (motive := fun _ => Bool) false (Nat.beq c1 c2) (Nat.beq l1 l2) := by
  rw [brec, Bool.eq_iff_iff, beq_iff_eq]
  simp only [beq_tt]
  by_cases h : l1 = l2
  · subst h
    simp only [if_true, beq_tt]
    exact ⟨bytesOf_inj l1 c1 c2 h1 h2, fun h => by rw [h]⟩
  · rw [if_neg h]
    simp only [Bool.false_eq_true, iff_false]
    intro he
    have := congrArg List.length he
    simp only [bytesOf_length] at this
    exact h this
theorem sEq_ok (P : Program) (t : TypeId) : BinSOk P .eql t sEq := by
  intro l1 c1 l2 c2 v h1 h2 hv
  cases hv
  refine ⟨.bool (bytesOf l1 c1 == bytesOf l2 c2), fun w => ?_, fun e => ?_⟩
  · unfold strV
    rw [binOp_string_eql]
    simp
  · rw [str_eq_iff l1 c1 l2 c2 h1 h2]; exact .b _
theorem sNe_ok (P : Program) (t : TypeId) : BinSOk P .neq t sNe := by
  intro l1 c1 l2 c2 v h1 h2 hv
  cases hv
  refine ⟨.bool (!(bytesOf l1 c1 == bytesOf l2 c2)), fun w => ?_, fun e => ?_⟩
  · unfold strV
    rw [binOp_string_neq]
    simp
  · rw [str_eq_iff l1 c1 l2 c2 h1 h2]
    have : (!(Bool.rec (motive := fun _ => Bool) false (Nat.beq c1 c2) (Nat.beq l1 l2) : Bool)) = Bool.rec (motive := fun _ => Bool) true (Bool.rec (motive := fun _ => Bool) true false (Nat.beq c1 c2)) (Nat.beq l1 l2) := by
      cases Nat.beq l1 l2 <;> cases Nat.beq c1 c2 <;> rfl
    rw [this]; exact .b _

/-- Which of two strings stands ahead: the shorter one's length as fuel. -/
def sLess (n : Nat) : Nat → Nat → Nat → Nat → Bool :=
  Nat.rec (motive := fun _ => Nat → Nat → Nat → Nat → Bool) (fun l1 _ l2 _ => Nat.ble (Nat.add l1 1) l2)
    (fun _ ih l1 c1 l2 c2 => Bool.rec (motive := fun _ => Bool) (Bool.rec (motive := fun _ => Bool)
        (Bool.rec (motive := fun _ => Bool) (Bool.rec (motive := fun _ => Bool) false (ih (Nat.sub l1 1) (Nat.div c1 256) (Nat.sub l2 1) (Nat.div c2 256)) (Nat.beq (Nat.mod c1 256) (Nat.mod c2 256))) true (Nat.ble (Nat.add (Nat.mod c1 256) 1) (Nat.mod c2 256)))
        true (Nat.beq l1 0)) false (Nat.beq l2 0)) n
theorem sLess_spec : ∀ (n l1 c1 l2 c2 : Nat), l2 ≤ n → l1 ≤ n → (l1 = l2 → n = 0 → True) → (n = 0 → True) → (n ≥ l1 → n ≥ l2 → (n = 0 ∨ True)) → Op.bytesLess (bytesOf l1 c1) (bytesOf l2 c2) = sLess n l1 c1 l2 c2
  | 0, l1, c1, l2, c2, h2, h1, _, _, _ => by
    have e1 : l1 = 0 := by omega
    have e2 : l2 = 0 := by omega
    subst e1 e2
    rfl
  | n + 1, l1, c1, l2, c2, h2, h1, _, _, _ => by
    have hdef : sLess (n + 1) l1 c1 l2 c2 = Bool.rec (motive := fun _ => Bool) (Bool.rec (motive := fun _ => Bool)
        (Bool.rec (motive := fun _ => Bool) (Bool.rec (motive := fun _ => Bool) false (sLess n (l1 - 1) (c1 / 256) (l2 - 1) (c2 / 256)) (Nat.beq (c1 % 256) (c2 % 256))) true (Nat.ble (c1 % 256 + 1) (c2 % 256)))
        true (Nat.beq l1 0)) false (Nat.beq l2 0) := rfl
    rw [hdef]
    cases l2 with
    | zero => simp [bytesOf, Op.bytesLess]
    | succ l2 =>
      cases l1 with
      | zero => rfl
      | succ l1 =>
        have ih := sLess_spec n l1 (c1 / 256) l2 (c2 / 256) (by omega) (by omega) (fun _ _ => trivial) (fun _ => trivial) (fun _ _ => .inr trivial)
        simp only [bytesOf, Op.bytesLess, ih, Nat.add_sub_cancel]
        have b0 : ∀ k : Nat, Nat.beq (k + 1) 0 = false := fun _ => rfl
        simp only [b0]
        have hlt : (UInt8.ofNat (c1 % 256) < UInt8.ofNat (c2 % 256)) ↔ (c1 % 256 + 1 ≤ c2 % 256) := by
          rw [UInt8.lt_iff_toNat_lt]; simp; omega
        have heq : (UInt8.ofNat (c1 % 256) == UInt8.ofNat (c2 % 256)) = Nat.beq (c1 % 256) (c2 % 256) := by
          rw [Bool.eq_iff_iff, beq_tt, beq_iff_eq]
          constructor
          · intro h; have := congrArg UInt8.toNat h; simpa using this
          · intro h; rw [h]
        rw [heq]
        have hd : decide (UInt8.ofNat (c1 % 256) < UInt8.ofNat (c2 % 256)) = Nat.ble (c1 % 256 + 1) (c2 % 256) := by
          rw [Bool.eq_iff_iff, ble_tt, decide_eq_true_iff]; exact hlt
        rw [hd]
        cases Nat.ble (c1 % 256 + 1) (c2 % 256) <;> cases Nat.beq (c1 % 256) (c2 % 256) <;> simp
def sLt (l1 c1 l2 c2 : Nat) : Option AV := some (.b (sLess (Nat.add l1 l2) l1 c1 l2 c2))
theorem sLt_ok (P : Program) (t : TypeId) : BinSOk P .lss t sLt := by
  intro l1 c1 l2 c2 v h1 h2 hv
  cases hv
  refine ⟨.bool (Op.bytesLess (bytesOf l1 c1) (bytesOf l2 c2)), fun w => ?_, fun e => ?_⟩
  · unfold strV
    rw [binOp_string_lss]
    simp
  · rw [sLess_spec (l1 + l2) l1 c1 l2 c2 (by omega) (by omega) (fun _ _ => trivial) (fun _ => trivial) (fun _ _ => .inr trivial)]; exact .b _

/-! ### A byte of a string; a part of one -/
def opIndexS (x y : Env → AV) (en : Env) (H : AHeap) : ORes :=
  avS .fail (fun l c => optN .fail (fun n => bif' .fail (.v (.i 4 (Nat.mod (Nat.div c (Nat.pow 256 n)) 256)) H) (Nat.ble (Nat.add n 1) l)) (natOf (y en))) (x en)
theorem opIndexS_snd {P : Program} {o : Oper} {t : TypeId} {x y : Operand} {x' y' : Env → AV} (ho : o.op = .index t x y) (ht : P.underlying t = some .string) (hx : OpndOk P S x x') (hy : OpndOk P S y y') (en : Env) (H : AHeap) :
    OSnd P S o en H (opIndexS x' y' en H) := by
  unfold opIndexS
  cases h : x' en with
  | s l c =>
    simp only [avS]
    cases hn : natOf (y' en) with
    | none => trivial
    | some n =>
      simp only [optN, bif']
      cases hb : Nat.ble (Nat.add n 1) l with
      | false => trivial
      | true =>
        have hlt : n < l := by rw [ble_tt] at hb; exact hb
        refine OSnd.pure fun N D e w a hr ha => ?_
        have h1 := hx N D e en a H w hr ha
        obtain ⟨K, hK⟩ := natOf_spec hn (hy N D e en a H w hr ha)
        rw [h] at h1
        generalize hxv : a.eval x = xv at h1
        cases h1
        have hd : c / 256 ^ n % 256 < 256 := Nat.mod_lt _ (by omega)
        have hget : (⟨(bytesOf l c).toArray⟩ : ByteArray)[n]? = some (UInt8.ofNat (c / 256 ^ n % 256)) := by
          have := bytesOf_get l c n hlt
          rw [show (⟨(bytesOf l c).toArray⟩ : ByteArray)[n]? = (bytesOf l c).toArray[n]? from rfl]
          simpa using this
        refine ⟨.int .u8 (c / 256 ^ n % 256 : Nat), ?_, ?_⟩
        · simp [execOp, ho, hxv, hK, Instr.index, asIntOf, run_underlying ht, hget]
        · have := VRel.i (e := e) 4 (c / 256 ^ n % 256) (by omega) (by simpa [kindOf, IntKind.bits] using hd)
          have hw : (kindOf 4).wrap ((c / 256 ^ n % 256 : Nat) : Int) = ((c / 256 ^ n % 256 : Nat) : Int) := by
            simp only [kindOf, IntKind.wrap, IntKind.signed, IntKind.bits]; simp
          rw [hw] at this
          exact this
  | _ => trivial

def opSliceS (x : Env → AV) (lo hi : Option (Env → AV)) (en : Env) (H : AHeap) : ORes :=
  avS .fail (fun l c => optN .fail (fun a => optN .fail (fun b => bif' .fail (bif' .fail (.v (.s (Nat.sub b a) (Nat.mod (Nat.div c (Nat.pow 256 a)) (Nat.pow 256 (Nat.sub b a)))) H) (Nat.ble b l)) (Nat.ble a b)) (bd l hi en)) (bd 0 lo en)) (x en)
theorem opSliceS_snd {P : Program} {o : Oper} {t : TypeId} {x : Operand} {lo hi : Option Operand} {x' : Env → AV} {lo' hi' : Option (Env → AV)} (ho : o.op = .slice t x lo hi none) (ht : P.underlying t = some .string)
    (hx : OpndOk P S x x') (hlo : OOk P S lo lo') (hhi : OOk P S hi hi') (en : Env) (H : AHeap) : OSnd P S o en H (opSliceS x' lo' hi' en H) := by
  unfold opSliceS
  cases h : x' en with
  | s l c =>
    simp only [avS]
    cases hl : bd 0 lo' en with
    | none => trivial
    | some p =>
    simp only [optN]
    cases hh : bd l hi' en with
    | none => trivial
    | some q =>
    simp only [bif']
    cases c1 : Nat.ble p q with
    | false => trivial
    | true =>
    cases c2 : Nat.ble q l with
    | false => trivial
    | true =>
    have d1 : p ≤ q := by rw [ble_tt] at c1; exact c1
    have d2 : q ≤ l := by rw [ble_tt] at c2; exact c2
    refine OSnd.pure fun N D e w a hr ha => ?_
    have h1 := hx N D e en a H w hr ha
    rw [h] at h1
    have bl := bd_spec hl hlo hr ha
    have bh := bd_spec hh hhi hr ha
    generalize hxv : a.eval x = xv at h1
    cases h1
    have Bl : (lo.map a.eval = none ∧ p = 0) ∨ ∃ K, lo.map a.eval = some (.int K (p : Int)) := by
      rcases bl with ⟨u, _, r⟩ | u
      · exact .inl ⟨by rw [u]; rfl, r⟩
      · exact .inr u
    have Bh : (hi.map a.eval = none ∧ (none : Option Value) = none ∧ q = l) ∨ ∃ K, hi.map a.eval = some (.int K (q : Int)) := by
      rcases bh with ⟨u, _, r⟩ | u
      · exact .inl ⟨by rw [u]; rfl, rfl, r⟩
      · exact .inr u
    have hrun := run_bounds (P := P) w false l l (lo.map a.eval) (hi.map a.eval) none p q l Bl Bh (.inl ⟨rfl, rfl⟩) d1 d2 (Nat.le_refl _)
    refine ⟨strV (q - p) (c / 256 ^ p % 256 ^ (q - p)), ?_, .s _ _ (Nat.mod_lt _ (Nat.pow_pos (by omega)))⟩
    have hext : (⟨(bytesOf l c).toArray⟩ : ByteArray).extract p q = ⟨(bytesOf (q - p) (c / 256 ^ p % 256 ^ (q - p))).toArray⟩ := by
      rw [ByteArray.extract_mk, bytesOf_drop, bytesOf_take _ _ _ (by omega)]
    simp only [execOp, ho, Sem.run_bind]
    simp only [Instr.sliceAt, Sem.run_bind, run_underlying ht, Result.andThen_ok, Instr.slice, hxv, strV_size, Option.map_none, Sem.run_pure, strV]
    simp only [Option.isSome_none, Bool.false_eq_true, if_false, Sem.run_bind]
    rw [hrun]
    simp only [Result.andThen_ok, Sem.run_pure, hext]
  | _ => trivial

/-! ### Two bools -/
theorem run_equal_bool {P : Program} {t : TypeId} (ht : P.underlying t = some .bool) (p q : Bool) (w : World) : (Op.equal t (.bool p) (.bool q)).run P w = .ok (p == q) w := by
  have h : ∀ d, (Op.equalIn (d + 1) t (.bool p) (.bool q)).run P w = .ok (p == q) w := fun d => by
    simp only [Op.equalIn, Sem.run_bind, run_underlying ht, Result.andThen_ok, Sem.run_pure]
  exact h 9999
theorem run_eql_bool {P : Program} {t : TypeId} (ht : P.underlying t = some .bool) (p q : Bool) (w : World) : (binOp .eql t (.bool p) (.bool q)).run P w = .ok (.bool (p == q)) w := by
  show ((Op.equal t (.bool p) (.bool q)) >>= fun b => pure (Value.bool b)).run P w = _
  rw [Sem.run_bind, run_equal_bool ht]; rfl
theorem run_neq_bool {P : Program} {t : TypeId} (ht : P.underlying t = some .bool) (p q : Bool) (w : World) : (binOp .neq t (.bool p) (.bool q)).run P w = .ok (.bool !(p == q)) w := by
  show ((Op.equal t (.bool p) (.bool q)) >>= fun b => pure (Value.bool !b)).run P w = _
  rw [Sem.run_bind, run_equal_bool ht]; rfl

def opBinB (f : Bool → Bool → Bool) (x y : Env → AV) (en : Env) (H : AHeap) : ORes := avB .fail (fun p => avB .fail (fun q => .v (.b (f p q)) H) (y en)) (x en)
def bEq (p q : Bool) : Bool := Bool.rec (motive := fun _ => Bool) (Bool.rec (motive := fun _ => Bool) true false q) q p
def bNe (p q : Bool) : Bool := Bool.rec (motive := fun _ => Bool) q (Bool.rec (motive := fun _ => Bool) true false q) p
theorem opBinB_snd {P : Program} {o : Oper} {t t2 : TypeId} {x y : Operand} {x' y' : Env → AV} {op : BinOp} {f : Bool → Bool → Bool} (ho : o.op = .binOp op t x y t2) (ht : P.underlying t = some .bool) (hf : (op = .eql ∧ f = bEq) ∨ (op = .neq ∧ f = bNe))
    (hx : OpndOk P S x x') (hy : OpndOk P S y y') (en : Env) (H : AHeap) : OSnd P S o en H (opBinB f x' y' en H) := by
  unfold opBinB
  cases h : x' en with
  | b p =>
    cases h2 : y' en with
    | b q =>
      refine OSnd.pure fun N D e w a hr ha => ?_
      have h1 := hx N D e en a H w hr ha
      have h3 := hy N D e en a H w hr ha
      rw [h] at h1
      rw [h2] at h3
      generalize hxv : a.eval x = xv at h1
      generalize hyv : a.eval y = yv at h3
      cases h1
      cases h3
      refine ⟨.bool (f p q), ?_, .b _⟩
      rcases hf with ⟨rfl, rfl⟩ | ⟨rfl, rfl⟩
      · have : bEq p q = (p == q) := by cases p <;> cases q <;> rfl
        rw [this]
        simp [execOp, ho, hxv, hyv, eqGuard, run_eql_bool ht]
      · have : bNe p q = !(p == q) := by cases p <;> cases q <;> rfl
        rw [this]
        simp [execOp, ho, hxv, hyv, eqGuard, run_neq_bool ht]
    | _ => trivial
  | _ => trivial
end
end Go.Ab
