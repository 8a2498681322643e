/- Operations over the abstract memory (11): '==' against nil and of pointers, len, cap, makeSlice, append, copy. -/
import Derived.Test.YtfhaailmhaamfaaGreatDoorAbEq
namespace Go.Ab
open Go
noncomputable section
variable {S : BT Nat}

/-! ### References -/
/-- 0: a slice, 1: a pointer (to what has a size), 2: a map, 3: a function, 4: an interface -/
def refKind (P : Program) (t : TypeId) : Option Nat :=
  match P.underlying t with
  | some (.slice _) => some 0
  | some (.pointer e) => match szOf P e with
    | some (_ + 1) => some 1
    | _ => none
  | some (.map _ _) => some 2
  | some (.func _ _ _) => some 3
  | some (.interface _) => some 4
  | _ => none

/-- Which nil a value is, or of which kind it is. -/
def refA (v : AV) : Option (Nat × Bool) :=
  AVp.rec (motive := fun _ => Option (Nat × Bool)) (fun _ _ => none) (fun _ => none) (fun _ _ => none) (fun _ _ => some (1, false)) (fun _ _ _ _ => some (0, false))
    (fun y => AX.casesOn (motive_1 := fun _ => Option (Nat × Bool)) y none (some (1, true)) (some (0, true)) (some (2, true)) (some (3, true)) (some (4, true)) (fun _ => some (2, false)) (fun _ _ _ => some (3, false)) (fun _ _ => some (4, false)) (fun _ => none) (fun _ => none) (fun _ => none) (fun _ _ => none) (fun _ _ _ => none)) v

def isNilV : Nat → Value → Bool → Prop
  | 0, v, b => ∃ a n c, v = .slice a n c ∧ b = a.isNone
  | 1, v, b => ∃ a, v = .pointer a ∧ b = a.isNone
  | 2, v, b => ∃ a, v = .map a ∧ b = a.isNone
  | 3, v, b => (v = .nilFunc ∧ b = true) ∨ ∃ f x y, v = .func f x y ∧ b = false
  | 4, v, b => (v = .nilIface ∧ b = true) ∨ ∃ t u, v = .iface t u ∧ b = false
  | _, _, _ => False

theorem refA_spec {e : Emb} {v : AV} {v' : Value} {k : Nat} {b : Bool} (h : refA v = some (k, b)) (hv : VRel e v v') : isNilV k v' b := by
  cases hv with
  | bad => cases h
  | i => cases h
  | b => cases h
  | s => cases h
  | p _ _ i hi => cases h; exact ⟨_, rfl, rfl⟩
  | sl => cases h; exact ⟨_, _, _, rfl, rfl⟩
  | slq => cases h; exact ⟨_, _, _, rfl, rfl⟩
  | nilp => cases h; exact ⟨_, rfl, rfl⟩
  | nils => cases h; exact ⟨_, _, _, rfl, rfl⟩
  | nilm => cases h; exact ⟨_, rfl, rfl⟩
  | nilf => cases h; exact .inl ⟨rfl, rfl⟩
  | nili => cases h; exact .inl ⟨rfl, rfl⟩
  | m => cases h; exact ⟨_, rfl, rfl⟩
  | fn => cases h; exact .inr ⟨_, _, _, rfl, rfl⟩
  | ifc => cases h; exact .inr ⟨_, _, rfl, rfl⟩
  | agg => cases h
  | tup => cases h
  | fl => cases h
  | sy => cases h
  | rg => cases h

/-- Against nil: at least one is, and (of interfaces) not both. -/
def eqNil (k : Nat) (x y : AV) : Option Bool :=
  Option.rec (motive := fun _ => Option Bool) none (fun p => Option.rec (motive := fun _ => Option Bool) none (fun q =>
    Bool.rec (motive := fun _ => Option Bool) none (Bool.rec (motive := fun _ => Option Bool) none
      (Bool.rec (motive := fun _ => Option Bool) (Bool.rec (motive := fun _ => Option Bool) none (some false) q.2) (Bool.rec (motive := fun _ => Option Bool) (some false) (Bool.rec (motive := fun _ => Option Bool) (some true) none (Nat.beq k 4)) q.2) p.2)
      (Nat.beq q.1 k)) (Nat.beq p.1 k)) (refA y)) (refA x)

theorem eqNil_spec {k : Nat} {x y : AV} {r : Bool} (h : eqNil k x y = some r) : ∃ p q, refA x = some (k, p) ∧ refA y = some (k, q) ∧ (p = true ∨ q = true) ∧ r = (p && q) ∧ ¬ (k = 4 ∧ p = true ∧ q = true) := by
  unfold eqNil at h
  cases hx : refA x with
  | none => rw [hx] at h; cases h
  | some p =>
    rw [hx] at h
    cases hy : refA y with
    | none => rw [hy] at h; cases h
    | some q =>
      rw [hy] at h
      obtain ⟨p1, p2⟩ := p
      obtain ⟨q1, q2⟩ := q
      simp only at h
      cases c1 : Nat.beq p1 k with
      | false => rw [c1] at h; cases h
      | true =>
        rw [c1] at h
        cases c2 : Nat.beq q1 k with
        | false => rw [c2] at h; cases h
        | true =>
          rw [c2] at h
          have d1 := Nat.eq_of_beq_eq_true c1
          have d2 := Nat.eq_of_beq_eq_true c2
          subst d1
          subst d2
          cases p2 <;> cases q2
          · cases h
          · cases h; exact ⟨false, true, rfl, rfl, .inr rfl, rfl, by simp⟩
          · cases h; exact ⟨true, false, rfl, rfl, .inl rfl, rfl, by simp⟩
          · cases c4 : Nat.beq q1 4 with
            | true => simp only [c4] at h; cases h
            | false =>
              simp only [c4] at h
              cases h
              exact ⟨true, true, rfl, rfl, .inl rfl, rfl, by rintro ⟨rfl, _⟩; cases c4⟩

theorem run_equal_nil {P : Program} {t : TypeId} {k : Nat} (ht : refKind P t = some k) {x y : Value} {p q : Bool} (hx : isNilV k x p) (hy : isNilV k y q) (hpq : p = true ∨ q = true) (h4 : ¬ (k = 4 ∧ p = true ∧ q = true)) (w : World) :
    (∀ op o1 o2, (eqGuard op t o1 o2 x y).run P w = .ok () w) ∧ (binOp .eql t x y).run P w = .ok (.bool (p && q)) w ∧ (binOp .neq t x y).run P w = .ok (.bool !(p && q)) w := by
  unfold refKind at ht
  have fin : ∀ (hb : ∀ op, op = BinOp.eql ∨ op = BinOp.neq → binOp op t x y = (if op = .eql then (do pure (.bool (← Op.equal t x y))) else (do pure (.bool (!(← Op.equal t x y)))) : Sem Value)) (hq : ∀ d, (Op.equalIn (d + 1) t x y).run P w = .ok (p && q) w),
      (binOp .eql t x y).run P w = .ok (.bool (p && q)) w ∧ (binOp .neq t x y).run P w = .ok (.bool !(p && q)) w := by
    intro hb hq
    have he : (Op.equal t x y).run P w = .ok (p && q) w := hq 9999
    constructor
    · rw [hb .eql (.inl rfl), if_pos rfl, Sem.run_bind, he]; rfl
    · rw [hb .neq (.inr rfl), if_neg (by simp), Sem.run_bind, he]; rfl
  cases hu : P.underlying t with
  | none => rw [hu] at ht; cases ht
  | some d =>
    rw [hu] at ht
    cases d with
    | slice el =>
      cases ht
      obtain ⟨a, n, c, rfl, rfl⟩ := hx
      obtain ⟨a', n', c', rfl, rfl⟩ := hy
      refine ⟨fun op _ _ => by cases op <;> simp [eqGuard], fin (fun op hop => by rcases hop with rfl | rfl <;> rfl) fun d => ?_⟩
      cases a <;> cases a' <;> simp at hpq <;> simp [Op.equalIn, run_underlying hu]
    | pointer el =>
      simp only at ht
      have hk : k = 1 := by split at ht <;> simp at ht; exact ht.symm
      subst hk
      obtain ⟨a, rfl, rfl⟩ := hx
      obtain ⟨a', rfl, rfl⟩ := hy
      refine ⟨fun op _ _ => by cases op <;> simp [eqGuard], fin (fun op hop => by rcases hop with rfl | rfl <;> rfl) fun d => ?_⟩
      cases a <;> cases a' <;> simp at hpq <;> simp [Op.equalIn, run_underlying hu]
    | map kt el =>
      cases ht
      obtain ⟨a, rfl, rfl⟩ := hx
      obtain ⟨a', rfl, rfl⟩ := hy
      refine ⟨fun op _ _ => by cases op <;> simp [eqGuard], fin (fun op hop => by rcases hop with rfl | rfl <;> rfl) fun d => ?_⟩
      cases a <;> cases a' <;> simp at hpq <;> simp [Op.equalIn, run_underlying hu]
    | func ps rs v =>
      cases ht
      rcases hx with ⟨rfl, rfl⟩ | ⟨f, u1, u2, rfl, rfl⟩ <;> rcases hy with ⟨rfl, rfl⟩ | ⟨f', u1', u2', rfl, rfl⟩ <;> simp at hpq <;>
        (refine ⟨fun op _ _ => by cases op <;> simp [eqGuard], fin (fun op hop => by rcases hop with rfl | rfl <;> rfl) fun d => ?_⟩; simp [Op.equalIn, run_underlying hu])
    | interface ms =>
      cases ht
      rcases hx with ⟨rfl, rfl⟩ | ⟨f, u1, rfl, rfl⟩ <;> rcases hy with ⟨rfl, rfl⟩ | ⟨f', u1', rfl, rfl⟩ <;> simp at hpq h4 <;>
        (refine ⟨fun op _ _ => by cases op <;> simp [eqGuard], fin (fun op hop => by rcases hop with rfl | rfl <;> rfl) fun d => ?_⟩; simp [Op.equalIn, run_underlying hu])
    | _ => simp at ht

def opEqR (k : Nat) (neg : Bool) (x y : Env → AV) (en : Env) (H : AHeap) : ORes :=
  Option.rec (motive := fun _ => ORes) (bif' .fail (avP .fail (fun b o => avP .fail (fun b' o' => bif' .fail (.v (.b (bNe neg (Nat.beq o o'))) H) (Nat.beq b b')) (y en)) (x en)) (Nat.beq k 1))
    (fun r => .v (.b (bNe neg r)) H) (eqNil k (x en) (y en))
theorem opEqR_snd {P : Program} {o : Oper} {op : BinOp} {t t2 : TypeId} {x y : Operand} {x' y' : Env → AV} {k : Nat} {neg : Bool} (ho : o.op = .binOp op t x y t2) (hop : (op = .eql ∧ neg = false) ∨ (op = .neq ∧ neg = true))
    (ht : refKind P t = some k) (hx : OpndOk P S x x') (hy : OpndOk P S y y') (en : Env) (H : AHeap) : OSnd P S o en H (opEqR k neg x' y' en H) := by
  unfold opEqR
  cases hr : eqNil k (x' en) (y' en) with
  | some r =>
    simp only
    refine OSnd.pure fun N D e w a hrr ha => ?_
    have h1 := hx N D e en a H w hrr ha
    have h3 := hy N D e en a H w hrr ha
    obtain ⟨p, q, g1, g2, g3, g4, g5⟩ := eqNil_spec hr
    obtain ⟨r1, r2, r3⟩ := run_equal_nil ht (refA_spec g1 h1) (refA_spec g2 h3) g3 g5 w
    subst g4
    refine ⟨.bool (bNe neg (p && q)), ?_, .b _⟩
    rcases hop with ⟨rfl, rfl⟩ | ⟨rfl, rfl⟩
    · have : bNe false (p && q) = (p && q) := by cases (p && q) <;> rfl
      rw [this]
      simp only [execOp, ho, Sem.run_bind, r1, r2, Result.andThen_ok, Sem.run_pure]
    · have : bNe true (p && q) = !(p && q) := by cases (p && q) <;> rfl
      rw [this]
      simp only [execOp, ho, Sem.run_bind, r1, r3, Result.andThen_ok, Sem.run_pure]
  | none =>
    simp only
    cases hk : Nat.beq k 1 with
    | false => trivial
    | true =>
      have hk1 : k = 1 := Nat.eq_of_beq_eq_true hk
      subst hk1
      simp only [bif']
      cases h : x' en with
      | p b m =>
        cases h2 : y' en with
        | p b' m' =>
          simp only [avP]
          cases hb : Nat.beq b b' with
          | false => trivial
          | true =>
            have hbb : b = b' := Nat.eq_of_beq_eq_true hb
            subst hbb
            refine OSnd.pure fun N D e w a hrr ha => ?_
            have h1 := hx N D e en a H w hrr ha
            have h3 := hy N D e en a H w hrr ha
            rw [h] at h1
            rw [h2] at h3
            generalize hxv : a.eval x = xv at h1
            generalize hyv : a.eval y = yv at h3
            cases h1
            cases h3
            rename_i i hi i' hi'
            rw [hi] at hi'
            cases hi'
            unfold refKind at ht
            cases hu : P.underlying t with
            | none => rw [hu] at ht; cases ht
            | some d =>
              rw [hu] at ht
              cases d with
              | pointer el =>
                simp only at ht
                obtain ⟨n, hn⟩ : ∃ n, szOf P el = some (n + 1) := by
                  split at ht
                  · rename_i n hn; exact ⟨n, hn⟩
                  · cases ht
                have hq : ∀ d, (Op.equalIn (d + 1) t (.pointer (some ⟨i.blk, i.off + m, none⟩)) (.pointer (some ⟨i.blk, i.off + m', none⟩))).run P w = .ok (Nat.beq m m') w := by
                  intro d
                  have hbeq : ((⟨i.blk, i.off + m, none⟩ : Addr) == ⟨i.blk, i.off + m', none⟩) = Nat.beq m m' := by
                    rw [Bool.eq_iff_iff, beq_tt, beq_iff_eq]
                    constructor
                    · intro h; injection h with h1 h2; omega
                    · intro h; rw [h]
                  simp [Op.equalIn, run_underlying hu, run_sizeOf hn, sameAddr, hbeq]
                have he := hq 9999
                refine ⟨.bool (bNe neg (Nat.beq m m')), ?_, .b _⟩
                rcases hop with ⟨rfl, rfl⟩ | ⟨rfl, rfl⟩
                · have : bNe false (Nat.beq m m') = Nat.beq m m' := by cases Nat.beq m m' <;> rfl
                  rw [this]
                  have hb : (binOp .eql t (.pointer (some ⟨i.blk, i.off + m, none⟩)) (.pointer (some ⟨i.blk, i.off + m', none⟩))).run P w = .ok (.bool (Nat.beq m m')) w := by
                    show ((Op.equal t _ _) >>= fun b => pure (Value.bool b)).run P w = _
                    rw [Sem.run_bind]
                    show ((Op.equalIn 10000 t _ _).run P w).andThen _ = _
                    rw [he]; rfl
                  have hg : ∀ op, (eqGuard op t x y (.pointer (some ⟨i.blk, i.off + m, none⟩)) (.pointer (some ⟨i.blk, i.off + m', none⟩))).run P w = .ok () w := fun op => by cases op <;> simp [eqGuard]
                  simp only [execOp, ho, hxv, hyv, Sem.run_bind, hg, hb, Result.andThen_ok, Sem.run_pure]
                · have : bNe true (Nat.beq m m') = !(Nat.beq m m') := by cases Nat.beq m m' <;> rfl
                  rw [this]
                  have hb : (binOp .neq t (.pointer (some ⟨i.blk, i.off + m, none⟩)) (.pointer (some ⟨i.blk, i.off + m', none⟩))).run P w = .ok (.bool !(Nat.beq m m')) w := by
                    show ((Op.equal t _ _) >>= fun b => pure (Value.bool !b)).run P w = _
                    rw [Sem.run_bind]
                    show ((Op.equalIn 10000 t _ _).run P w).andThen _ = _
                    rw [he]; rfl
                  have hg : ∀ op, (eqGuard op t x y (.pointer (some ⟨i.blk, i.off + m, none⟩)) (.pointer (some ⟨i.blk, i.off + m', none⟩))).run P w = .ok () w := fun op => by cases op <;> simp [eqGuard]
                  simp only [execOp, ho, hxv, hyv, Sem.run_bind, hg, hb, Result.andThen_ok, Sem.run_pure]
              | _ => simp at ht
        | _ => trivial
      | _ => trivial
end
end Go.Ab
