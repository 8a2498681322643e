/- Operations over the abstract memory (9): whole numbers that are known to lie between two. -/
import Derived.Test.YtfhaailmhaamfaaGreatDoorAbInt3
namespace Go.Ab
open Go
noncomputable section
variable {S : BT Nat}

/-- The bounds of a whole number of kind k. -/
def rngArg {R : Type} (d : R) (k : Nat) (f : Nat → Nat → R) (v : AV) : R :=
  AVp.rec (motive := fun _ => R) (fun k1 n => Bool.rec (motive := fun _ => R) d (f n n) (Nat.beq k1 k)) (fun _ => d) (fun _ _ => d) (fun _ _ => d) (fun _ _ _ _ => d)
    (fun u => AX.casesOn (motive_1 := fun _ => R) u d d d d d d (fun _ => d) (fun _ _ _ => d) (fun _ _ => d) (fun _ => d) (fun _ => d) (fun _ => d) (fun _ _ => d) (fun k1 lo hi => Bool.rec (motive := fun _ => R) d (f lo hi) (Nat.beq k1 k))) v
theorem rngArg_spec {R : Type} {d : R} {k : Nat} {f : Nat → Nat → R} {v : AV} : rngArg d k f v = d ∨ ∃ lo hi, rngArg d k f v = f lo hi ∧ ∀ (e : Emb) (v' : Value), VRel e v v' → k < 8 ∧ ∃ n, lo ≤ n ∧ n ≤ hi ∧ n < 2 ^ (kindOf k).bits ∧ v' = .int (kindOf k) ((kindOf k).wrap (n : Int)) := by
  cases v with
  | i k1 n =>
    have h : rngArg d k f (.i k1 n) = Bool.rec (motive := fun _ => R) d (f n n) (Nat.beq k1 k) := rfl
    rw [h]
    cases c : Nat.beq k1 k with
    | false => exact .inl rfl
    | true =>
      have := Nat.eq_of_beq_eq_true c
      subst this
      refine .inr ⟨n, n, rfl, fun e v' hv => ?_⟩
      cases hv with
      | i _ _ hk hn => exact ⟨hk, n, Nat.le_refl _, Nat.le_refl _, hn, rfl⟩
  | x u =>
    cases u with
    | rg k1 lo hi =>
      have h : rngArg d k f (.x (.rg k1 lo hi)) = Bool.rec (motive := fun _ => R) d (f lo hi) (Nat.beq k1 k) := rfl
      rw [h]
      cases c : Nat.beq k1 k with
      | false => exact .inl rfl
      | true =>
        have := Nat.eq_of_beq_eq_true c
        subst this
        refine .inr ⟨lo, hi, rfl, fun e v' hv => ?_⟩
        cases hv with
        | rg _ _ _ n hk hn h1 h2 => exact ⟨hk, n, h1, h2, hn, rfl⟩
    | _ => exact .inl rfl
  | _ => exact .inl rfl

def opBinR (k : Nat) (g : Nat → Nat → Nat → Nat → Option AV) (x y : Env → AV) (en : Env) (H : AHeap) : ORes :=
  rngArg .fail k (fun lo1 hi1 => rngArg .fail k (fun lo2 hi2 => optE .fail (fun v => .v v H) (g lo1 hi1 lo2 hi2)) (y en)) (x en)
def opBinG (k : Nat) (f : Nat → Nat → Option AV) (g : Nat → Nat → Nat → Nat → Option AV) (x y : Env → AV) (en : Env) (H : AHeap) : ORes :=
  avI (opBinR k g x y en H) (fun k1 n => avI (opBinR k g x y en H) (fun k2 m => bif' .fail (bif' .fail (optE .fail (fun v => .v v H) (f n m)) (Nat.beq k2 k)) (Nat.beq k1 k)) (y en)) (x en)

def RngOk (k : Nat) (f : Nat → Nat → Option AV) (g : Nat → Nat → Nat → Nat → Option AV) : Prop :=
  ∀ lo1 hi1 lo2 hi2 n m v, lo1 ≤ n → n ≤ hi1 → lo2 ≤ m → m ≤ hi2 → n < 2 ^ (kindOf k).bits → m < 2 ^ (kindOf k).bits → g lo1 hi1 lo2 hi2 = some v → ∃ u, f n m = some u ∧ ∀ e v', VRel e u v' → VRel e v v'

theorem opBinR_snd {P : Program} {o : Oper} {op : BinOp} {t t2 : TypeId} {x y : Operand} {k : Nat} {f : Nat → Nat → Option AV} {g : Nat → Nat → Nat → Nat → Option AV} {x' y' : Env → AV} (ho : o.op = .binOp op t x y t2) (hf : BinOk P op t k f) (hg : RngOk k f g) (hx : OpndOk P S x x') (hy : OpndOk P S y y') (en : Env) (H : AHeap) :
    OSnd P S o en H (opBinR k g x' y' en H) := by
  unfold opBinR
  rcases rngArg_spec (d := ORes.fail) (k := k) (f := fun lo1 hi1 => rngArg .fail k (fun lo2 hi2 => optE .fail (fun v => .v v H) (g lo1 hi1 lo2 hi2)) (y' en)) (v := x' en) with h | ⟨lo1, hi1, h, s1⟩
  · rw [h]; trivial
  rw [h]
  rcases rngArg_spec (d := ORes.fail) (k := k) (f := fun lo2 hi2 => optE .fail (fun v => .v v H) (g lo1 hi1 lo2 hi2)) (v := y' en) with h2 | ⟨lo2, hi2, h2, s2⟩
  · rw [h2]; trivial
  rw [h2]
  cases hv : g lo1 hi1 lo2 hi2 with
  | none => trivial
  | some v =>
    refine OSnd.pure fun N D e w a hr ha => ?_
    obtain ⟨hk, n, a1, a2, a3, hn⟩ := s1 e _ (hx N D e en a H w hr ha)
    obtain ⟨_, m, b1, b2, b3, hm⟩ := s2 e _ (hy N D e en a H w hr ha)
    obtain ⟨u, hu, hrel⟩ := hg lo1 hi1 lo2 hi2 n m v a1 a2 b1 b2 a3 b3 hv
    obtain ⟨v', q1, q2⟩ := hf n m u a3 b3 hu
    refine ⟨v', ?_, hrel e v' (q2 e)⟩
    simp [execOp, ho, hn, hm, eqGuard, q1]

theorem opBinG_snd {P : Program} {o : Oper} {op : BinOp} {t t2 : TypeId} {x y : Operand} {k : Nat} {f : Nat → Nat → Option AV} {g : Nat → Nat → Nat → Nat → Option AV} {x' y' : Env → AV} (ho : o.op = .binOp op t x y t2) (hf : BinOk P op t k f) (hg : RngOk k f g) (hx : OpndOk P S x x') (hy : OpndOk P S y y') (en : Env) (H : AHeap) :
    OSnd P S o en H (opBinG k f g x' y' en H) := by
  have hR := opBinR_snd ho hf hg hx hy en H
  have hI := opBinI_snd ho hf hx hy en H
  unfold opBinG
  unfold opBinI at hI
  cases h : x' en with
  | i k1 n =>
    rw [h] at hI
    cases h2 : y' en with
    | i k2 m => rw [h2] at hI; exact hI
    | _ => exact hR
  | _ => exact hR

/-! ### The bounds of each -/
def gAdd (k M : Nat) (lo1 hi1 lo2 hi2 : Nat) : Option AV :=
  Bool.rec (motive := fun _ => Option AV) (Bool.rec (motive := fun _ => Option AV) none (some (.x (.rg k (Nat.sub (Nat.add lo1 lo2) M) (Nat.sub (Nat.add hi1 hi2) M)))) (Nat.ble M (Nat.add lo1 lo2)))
    (some (.x (.rg k (Nat.add lo1 lo2) (Nat.add hi1 hi2)))) (Nat.ble (Nat.add (Nat.add hi1 hi2) 1) M)
def gSub (k M : Nat) (lo1 hi1 lo2 hi2 : Nat) : Option AV :=
  Bool.rec (motive := fun _ => Option AV) (Bool.rec (motive := fun _ => Option AV) none (some (.x (.rg k (Nat.sub (Nat.add lo1 M) hi2) (Nat.sub (Nat.add hi1 M) lo2)))) (Nat.ble (Nat.add hi1 1) lo2))
    (some (.x (.rg k (Nat.sub lo1 hi2) (Nat.sub hi1 lo2)))) (Nat.ble hi2 lo1)
/-- Shifted by half the numbers there are. -/
def gSh {R : Type} (d : R) (M h : Nat) (f : Nat → Nat → R) (lo hi : Nat) : R :=
  Bool.rec (motive := fun _ => R) (Bool.rec (motive := fun _ => R) d (f (Nat.sub (Nat.add lo h) M) (Nat.sub (Nat.add hi h) M)) (Nat.ble M (Nat.add lo h)))
    (f (Nat.add lo h) (Nat.add hi h)) (Nat.ble (Nat.add (Nat.add hi h) 1) M)
def gLt (M h : Nat) (lo1 hi1 lo2 hi2 : Nat) : Option AV :=
  gSh none M h (fun a1 b1 => gSh none M h (fun a2 b2 => Bool.rec (motive := fun _ => Option AV) (Bool.rec (motive := fun _ => Option AV) none (some (.b false)) (Nat.ble b2 a1)) (some (.b true)) (Nat.ble (Nat.add b1 1) a2)) lo2 hi2) lo1 hi1
def gLe (M h : Nat) (lo1 hi1 lo2 hi2 : Nat) : Option AV :=
  gSh none M h (fun a1 b1 => gSh none M h (fun a2 b2 => Bool.rec (motive := fun _ => Option AV) (Bool.rec (motive := fun _ => Option AV) none (some (.b false)) (Nat.ble (Nat.add b2 1) a1)) (some (.b true)) (Nat.ble b1 a2)) lo2 hi2) lo1 hi1
def gEq (t : Bool) (lo1 hi1 lo2 hi2 : Nat) : Option AV :=
  Bool.rec (motive := fun _ => Option AV) (Bool.rec (motive := fun _ => Option AV) none (some (.b t)) (Nat.ble (Nat.add hi2 1) lo1)) (some (.b t)) (Nat.ble (Nat.add hi1 1) lo2)

theorem vrel_rg {e : Emb} {k d lo hi : Nat} {v' : Value} (h : VRel e (.i k d) v') (h1 : lo ≤ d) (h2 : d ≤ hi) : VRel e (.x (.rg k lo hi)) v' := by
  cases h with
  | i _ _ hk hn => exact .rg k lo hi d hk hn h1 h2

theorem gAdd_ok (k M : Nat) (hM : M = 2 ^ (kindOf k).bits) : RngOk k (iAdd k M) (gAdd k M) := by
  intro lo1 hi1 lo2 hi2 n m v h1 h2 h3 h4 hn hm hg
  refine ⟨_, rfl, fun e v' hv => ?_⟩
  rw [← hM] at hn hm
  unfold gAdd at hg
  rw [brec, brec] at hg
  simp only [ble_tt] at hg
  have hv2 : VRel e (.i k ((n + m) % M)) v' := hv
  split at hg
  · rename_i hc
    have hc : hi1 + hi2 + 1 ≤ M := hc
    cases hg
    rw [Nat.mod_eq_of_lt (by omega)] at hv2
    exact vrel_rg hv2 (show lo1 + lo2 ≤ n + m by omega) (show n + m ≤ hi1 + hi2 by omega)
  · split at hg
    · rename_i hc
      have hc : M ≤ lo1 + lo2 := hc
      cases hg
      rw [Nat.mod_eq_sub_mod (by omega), Nat.mod_eq_of_lt (by omega)] at hv2
      exact vrel_rg hv2 (show lo1 + lo2 - M ≤ n + m - M by omega) (show n + m - M ≤ hi1 + hi2 - M by omega)
    · cases hg

theorem gSub_ok (k M : Nat) (hM : M = 2 ^ (kindOf k).bits) : RngOk k (iSub k M) (gSub k M) := by
  intro lo1 hi1 lo2 hi2 n m v h1 h2 h3 h4 hn hm hg
  refine ⟨_, rfl, fun e v' hv => ?_⟩
  rw [← hM] at hn hm
  unfold gSub at hg
  rw [brec, brec] at hg
  simp only [ble_tt] at hg
  have hv2 : VRel e (.i k ((n + M - m) % M)) v' := hv
  split at hg
  · rename_i hc
    cases hg
    rw [Nat.mod_eq_sub_mod (by omega), show n + M - m - M = n - m by omega, Nat.mod_eq_of_lt (by omega)] at hv2
    exact vrel_rg hv2 (show lo1 - hi2 ≤ n - m by omega) (show n - m ≤ hi1 - lo2 by omega)
  · split at hg
    · rename_i hc
      have hc : hi1 + 1 ≤ lo2 := hc
      cases hg
      rw [Nat.mod_eq_of_lt (by omega)] at hv2
      exact vrel_rg hv2 (show lo1 + M - hi2 ≤ n + M - m by omega) (show n + M - m ≤ hi1 + M - lo2 by omega)
    · cases hg

theorem gSh_spec {R : Type} {d : R} {M h : Nat} {f : Nat → Nat → R} {lo hi n : Nat} (h1 : lo ≤ n) (h2 : n ≤ hi) (hn : n < M) (hh : h < M) : gSh d M h f lo hi = d ∨ ∃ a b, gSh d M h f lo hi = f a b ∧ a ≤ (n + h) % M ∧ (n + h) % M ≤ b := by
  have he : gSh d M h f lo hi = if hi + h + 1 ≤ M then f (lo + h) (hi + h) else if M ≤ lo + h then f (lo + h - M) (hi + h - M) else d := by
    unfold gSh
    rw [brec, brec]
    simp only [ble_tt]
    rfl
  rw [he]
  by_cases c1 : hi + h + 1 ≤ M
  · rw [if_pos c1]
    refine .inr ⟨_, _, rfl, ?_⟩
    rw [Nat.mod_eq_of_lt (by omega)]
    omega
  · rw [if_neg c1]
    by_cases c2 : M ≤ lo + h
    · rw [if_pos c2]
      refine .inr ⟨_, _, rfl, ?_⟩
      rw [Nat.mod_eq_sub_mod (by omega), Nat.mod_eq_of_lt (by omega)]
      omega
    · rw [if_neg c2]; exact .inl rfl

theorem gLt_ok (k M h : Nat) (hM : M = 2 ^ (kindOf k).bits) (hh : h < M) : RngOk k (iLt M h) (gLt M h) := by
  intro lo1 hi1 lo2 hi2 n m v h1 h2 h3 h4 hn hm hg
  refine ⟨_, rfl, fun e v' hv => ?_⟩
  rw [← hM] at hn hm
  unfold gLt at hg
  rcases gSh_spec (d := (none : Option AV)) (h := h) (f := fun a1 b1 => gSh none M h (fun a2 b2 => Bool.rec (motive := fun _ => Option AV) (Bool.rec (motive := fun _ => Option AV) none (some (.b false)) (Nat.ble b2 a1)) (some (.b true)) (Nat.ble (Nat.add b1 1) a2)) lo2 hi2) h1 h2 hn hh with q | ⟨a1, b1, q, r1, r2⟩
  · rw [q] at hg; cases hg
  rw [q] at hg
  rcases gSh_spec (d := (none : Option AV)) (h := h) (f := fun a2 b2 => Bool.rec (motive := fun _ => Option AV) (Bool.rec (motive := fun _ => Option AV) none (some (.b false)) (Nat.ble b2 a1)) (some (.b true)) (Nat.ble (Nat.add b1 1) a2)) h3 h4 hm hh with q | ⟨a2, b2, q, s1, s2⟩
  · rw [q] at hg; cases hg
  rw [q, brec, brec] at hg
  simp only [ble_tt] at hg
  have hv2 : VRel e (.b (Nat.ble ((n + h) % M + 1) ((m + h) % M))) v' := hv
  split at hg
  · rename_i hc
    have hc : b1 + 1 ≤ a2 := hc
    cases hg
    rwa [show Nat.ble ((n + h) % M + 1) ((m + h) % M) = true from Nat.ble_eq_true_of_le (by omega)] at hv2
  · split at hg
    · rename_i hc
      cases hg
      have : Nat.ble ((n + h) % M + 1) ((m + h) % M) = false := by
        cases hb : Nat.ble ((n + h) % M + 1) ((m + h) % M) with
        | false => rfl
        | true => have := Nat.le_of_ble_eq_true hb; omega
      rwa [this] at hv2
    · cases hg

theorem gLe_ok (k M h : Nat) (hM : M = 2 ^ (kindOf k).bits) (hh : h < M) : RngOk k (iLe M h) (gLe M h) := by
  intro lo1 hi1 lo2 hi2 n m v h1 h2 h3 h4 hn hm hg
  refine ⟨_, rfl, fun e v' hv => ?_⟩
  rw [← hM] at hn hm
  unfold gLe at hg
  rcases gSh_spec (d := (none : Option AV)) (h := h) (f := fun a1 b1 => gSh none M h (fun a2 b2 => Bool.rec (motive := fun _ => Option AV) (Bool.rec (motive := fun _ => Option AV) none (some (.b false)) (Nat.ble (Nat.add b2 1) a1)) (some (.b true)) (Nat.ble b1 a2)) lo2 hi2) h1 h2 hn hh with q | ⟨a1, b1, q, r1, r2⟩
  · rw [q] at hg; cases hg
  rw [q] at hg
  rcases gSh_spec (d := (none : Option AV)) (h := h) (f := fun a2 b2 => Bool.rec (motive := fun _ => Option AV) (Bool.rec (motive := fun _ => Option AV) none (some (.b false)) (Nat.ble (Nat.add b2 1) a1)) (some (.b true)) (Nat.ble b1 a2)) h3 h4 hm hh with q | ⟨a2, b2, q, s1, s2⟩
  · rw [q] at hg; cases hg
  rw [q, brec, brec] at hg
  simp only [ble_tt] at hg
  have hv2 : VRel e (.b (Nat.ble ((n + h) % M) ((m + h) % M))) v' := hv
  split at hg
  · rename_i hc
    cases hg
    rwa [show Nat.ble ((n + h) % M) ((m + h) % M) = true from Nat.ble_eq_true_of_le (by omega)] at hv2
  · split at hg
    · rename_i hc
      have hc : b2 + 1 ≤ a1 := hc
      cases hg
      have : Nat.ble ((n + h) % M) ((m + h) % M) = false := by
        cases hb : Nat.ble ((n + h) % M) ((m + h) % M) with
        | false => rfl
        | true => have := Nat.le_of_ble_eq_true hb; omega
      rwa [this] at hv2
    · cases hg

theorem RngOk.swap {k : Nat} {f : Nat → Nat → Option AV} {g : Nat → Nat → Nat → Nat → Option AV} (h : RngOk k f g) : RngOk k (fun n m => f m n) (fun lo1 hi1 lo2 hi2 => g lo2 hi2 lo1 hi1) :=
  fun lo1 hi1 lo2 hi2 n m v h1 h2 h3 h4 hn hm hg => h lo2 hi2 lo1 hi1 m n v h3 h4 h1 h2 hm hn hg

theorem beq_ne {n m : Nat} (h : n ≠ m) : Nat.beq n m = false := by
  cases hb : Nat.beq n m with
  | false => rfl
  | true => exact absurd (Nat.eq_of_beq_eq_true hb) h
theorem gEq_ok (k : Nat) : RngOk k iEq (gEq false) := by
  intro lo1 hi1 lo2 hi2 n m v h1 h2 h3 h4 hn hm hg
  refine ⟨_, rfl, fun e v' hv => ?_⟩
  unfold gEq at hg
  rw [brec, brec] at hg
  simp only [ble_tt] at hg
  have key : n ≠ m → v = .b false → VRel e v v' := fun hne hv1 => by
    subst hv1
    have hv2 : VRel e (.b (Nat.beq n m)) v' := hv
    rwa [beq_ne hne] at hv2
  split at hg
  · rename_i hc
    have hc : hi1 + 1 ≤ lo2 := hc
    exact key (by omega) (Option.some.inj hg).symm
  · split at hg
    · rename_i hc
      have hc : hi2 + 1 ≤ lo1 := hc
      exact key (by omega) (Option.some.inj hg).symm
    · cases hg
theorem gNe_ok (k : Nat) : RngOk k iNe (gEq true) := by
  intro lo1 hi1 lo2 hi2 n m v h1 h2 h3 h4 hn hm hg
  refine ⟨_, rfl, fun e v' hv => ?_⟩
  unfold gEq at hg
  rw [brec, brec] at hg
  simp only [ble_tt] at hg
  have key : n ≠ m → v = .b true → VRel e v v' := fun hne hv1 => by
    subst hv1
    have hv2 : VRel e (.b (Bool.rec (motive := fun _ => Bool) true false (Nat.beq n m))) v' := hv
    rwa [beq_ne hne] at hv2
  split at hg
  · rename_i hc
    have hc : hi1 + 1 ≤ lo2 := hc
    exact key (by omega) (Option.some.inj hg).symm
  · split at hg
    · rename_i hc
      have hc : hi2 + 1 ≤ lo1 := hc
      exact key (by omega) (Option.some.inj hg).symm
    · cases hg
theorem gNone_ok (k : Nat) (f : Nat → Nat → Option AV) : RngOk k f (fun _ _ _ _ => none) := fun _ _ _ _ _ _ _ _ _ _ _ _ _ hg => by cases hg

/-! ### One place -/
def uNegR (k M : Nat) (v : AV) : Option AV :=
  avX none (fun u => AX.casesOn (motive_1 := fun _ => Option AV) u none none none none none none (fun _ => none) (fun _ _ _ => none) (fun _ _ => none) (fun _ => none) (fun _ => none) (fun _ => none) (fun _ _ => none)
    (fun k1 lo hi => Bool.rec (motive := fun _ => Option AV) none (Bool.rec (motive := fun _ => Option AV) none (some (.x (.rg k (Nat.sub M hi) (Nat.sub M lo)))) (Nat.ble 1 lo)) (Nat.beq k1 k))) v
def uNegG (k M : Nat) (v : AV) : Option AV := avI (uNegR k M v) (fun k1 n => Bool.rec (motive := fun _ => Option AV) none (some (.i k (Nat.mod (Nat.sub M n) M))) (Nat.beq k1 k)) v
theorem uNegG_snd {P : Program} {o : Oper} {t : TypeId} {x : Operand} {k M : Nat} {x' : Env → AV} (ho : o.op = .unOp .neg t x) (hk : k < 8) (hM : M = 2 ^ (kindOf k).bits) (hx : OpndOk P S x x') (en : Env) (H : AHeap) : OSnd P S o en H (opUn (uNegG k M) x' en H) := by
  have base : ∀ (n : Nat), n < 2 ^ (kindOf k).bits → ∀ (a : Act), a.eval x = .int (kindOf k) ((kindOf k).wrap (n : Int)) → ∃ u', (∀ w, (execOp a.eval o).run P w = .ok (.value u') w) ∧ ∀ e, VRel e (.i k ((M - n) % M)) u' := by
    intro n hn a he
    refine ⟨.int (kindOf k) ((kindOf k).wrap (0 - (kindOf k).wrap (n : Int))), fun w => by simp [execOp, ho, he, Op.unary, Op.intArith], fun e => vrel_int e k hk _ _ ?_⟩
    subst hM
    refine digs_eq _ _ _ (Nat.mod_lt _ (Nat.two_pow_pos _)) ?_
    rw [Int.natCast_emod, Int.natCast_sub (by omega), Int.sub_emod, wrap_emod, ← Int.sub_emod]
    simp only [Int.natCast_pow, Int.cast_ofNat_Int, Int.emod_emod]
    rw [show (2 ^ (kindOf k).bits : Int) - (n : Int) = (0 - (n : Int)) + 2 ^ (kindOf k).bits by omega, Int.add_emod_right]
  refine opUn_snd (fun v u e v' a hv hu he => ?_) hx en H
  cases hv with
  | i k1 n hk1 hn =>
    simp only [uNegG, avI] at hu
    cases c : Nat.beq k1 k with
    | false => rw [c] at hu; cases hu
    | true =>
      rw [c] at hu
      cases hu
      have d : k1 = k := Nat.eq_of_beq_eq_true c
      subst d
      obtain ⟨u', q1, q2⟩ := base n hn a he
      exact ⟨u', q1, q2 e⟩
  | rg k1 lo hi n hk1 hn h1 h2 =>
    simp only [uNegG, avI, uNegR, avX] at hu
    cases c : Nat.beq k1 k with
    | false => rw [c] at hu; cases hu
    | true =>
      rw [c] at hu
      have d : k1 = k := Nat.eq_of_beq_eq_true c
      subst d
      cases c2 : Nat.ble 1 lo with
      | false => rw [c2] at hu; cases hu
      | true =>
        rw [c2] at hu
        have h3 : 1 ≤ lo := Nat.le_of_ble_eq_true c2
        cases hu
        obtain ⟨u', q1, q2⟩ := base n hn a he
        refine ⟨u', q1, ?_⟩
        have q3 := q2 e
        rw [Nat.mod_eq_of_lt (by have := Nat.two_pow_pos (kindOf k1).bits; omega)] at q3
        exact vrel_rg q3 (show M - hi ≤ M - n by omega) (show M - n ≤ M - lo by omega)
  | _ => cases hu
end
end Go.Ab
