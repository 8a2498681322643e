/- Regions that draw their order (6): temporaries; the check. -/
import Derived.Test.YtfhaailmhaamfaaGreatDoorAbE3
import Derived.Orders
namespace Go.Ab
open Go
noncomputable section

/-! ### Temporaries -/
/-- Which temporary an operand is. -/
def KO.slot (S : BT Nat) (x : KO) : Option Nat :=
  match x with
  | .t n => if Nat.beq (countB n S) 0 = true then some n else none
  | .va p => p.at S
  | _ => none
def KO.slotOk (S : BT Nat) (x : KO) : Bool :=
  match x with
  | .t _ | .va _ => (x.slot S).isSome
  | _ => true

section
variable {P : Program} {S : BT Nat} {n : Nat} {ops : Array Oper}

theorem arel_slot {D : List Deferred} {e : Emb} {en : Env} {a : Act} (hs : a.tmps.size = n) (hd : a.defers = D) (h : ∀ x t, KO.slot S x = some t → VRel e (x.den en) (a.tmps.getD t undef)) : ARel S n D e en a :=
  ⟨hs, fun t ht => h (.t t) t (by unfold KO.slot; simp [ht]), fun p t ht => h (.va p) t ht, hd⟩
theorem slot_arel {D : List Deferred} {e : Emb} {en : Env} {a : Act} (ha : ARel S n D e en a) {x : KO} {t : Nat} (h : KO.slot S x = some t) : VRel e (x.den en) (a.tmps.getD t undef) := by
  cases x with
  | t k =>
    unfold KO.slot at h
    dsimp only at h
    split at h
    · rename_i hc
      cases h
      rw [beq_tt] at hc
      exact ha.tmps _ hc
    · cases h
  | va p => exact ha.vars p t h
  | _ => cases h

def maskL (keep : Nat → Bool) : Loc → Loc
  | .nil => .nil
  | .cons t v e => if keep t then .cons t v (maskL keep e) else maskL keep e
theorem maskL_get (keep : Nat → Bool) (t : Nat) : ∀ l : Loc, (maskL keep l).get t = if keep t then l.get t else .x .bad
  | .nil => by simp [maskL, Loc.get_nil]
  | .cons d v e => by
    unfold maskL
    have ih := maskL_get keep t e
    by_cases hd : keep d = true
    · rw [if_pos hd, Loc.get_cons, Loc.get_cons, ih]
      by_cases h : d = t
      · subst h; simp [hd]
      · simp [h]
    · rw [if_neg hd, ih, Loc.get_cons]
      by_cases h : d = t
      · subst h; simp [hd]
      · simp [h]
def maskB (keep : Nat → Bool) : BT Nat → BT AV → BT AV
  | .nd l s r, .nd l' v r' => .nd (maskB keep l l') (if keep s then v else .x .bad) (maskB keep r r')
  | _, _ => .lf
theorem maskB_get (keep : Nat → Bool) : ∀ (p : VP) (S : BT Nat) (B : BT AV) (t : Nat), p.at S = some t → p.get (maskB keep S B) = if keep t then p.get B else .x .bad
  | p, .lf, B, t, h => by cases p <;> simp [VP.at] at h
  | p, .nd l s r, .lf, t, _ => by simp [maskB]
  | .top, .nd l s r, .nd l' v r', t, h => by
    simp only [VP.at, Option.some.injEq] at h; subst h; simp [maskB]
  | .lft p, .nd l s r, .nd l' v r', t, h => by
    simp only [maskB, VP.get_l]; exact maskB_get keep p l l' t h
  | .rgt p, .nd l s r, .nd l' v r', t, h => by
    simp only [maskB, VP.get_r]; exact maskB_get keep p r r' t h
def maskE (keep : Nat → Bool) (S : BT Nat) (en : Env) : Env := ⟨maskL keep en.loc, maskB keep S en.B⟩
theorem maskE_den (keep : Nat → Bool) (en : Env) {x : KO} {t : Nat} (h : KO.slot S x = some t) : x.den (maskE keep S en) = if keep t then x.den en else .x .bad := by
  cases x with
  | t k =>
    unfold KO.slot at h
    dsimp only at h
    split at h
    · cases h; exact maskL_get keep _ en.loc
    · cases h
  | va p => exact maskB_get keep p S en.B t h
  | _ => cases h
theorem den_const {x : KO} (h : x.slotOk S = true) (hn : x.slot S = none) (en en2 : Env) : x.den en = x.den en2 := by
  cases x with
  | t k => unfold KO.slotOk at h; dsimp only at h; rw [hn] at h; cases h
  | va p => unfold KO.slotOk at h; dsimp only at h; rw [hn] at h; cases h
  | _ => rfl

/-! ### An entry against the model's -/
theorem KE.ok_op {x : KE} {o : Oper} (h : x.ok P S n ops o = true) : x.op.ok P S o = true := by
  cases x <;> simp only [KE.ok, Bool.and_eq_true] at h <;> exact h.2

/-- Where it goes. -/
theorem KE.put_same {x : KE} {o : Oper} (h : x.ok P S n ops o = true) {y : KO} {t : Nat} (hy : y.slot S = some t) (hne : o.dst ≠ some t) (v : AV) (en : Env) : y.den (x.put v en) = y.den en := by
  have loc : ∀ d : Nat, (match o.dst with | some d' => Nat.beq d d' && Nat.ble (d + 1) n && Nat.beq (countB d S) 0 | none => false) = true → y.den ⟨.cons d v en.loc, en.B⟩ = y.den en := by
    intro d hd
    cases hdst : o.dst with
    | none => rw [hdst] at hd; cases hd
    | some d' =>
      rw [hdst] at hd
      simp only [Bool.and_eq_true, beq_tt] at hd
      obtain ⟨⟨rfl, _⟩, _⟩ := hd
      cases y with
      | t k =>
        have hk : k = t := by
          unfold KO.slot at hy; dsimp only at hy; split at hy
          · cases hy; rfl
          · cases hy
        subst hk
        show (Loc.cons d v en.loc).get k = en.loc.get k
        rw [Loc.get_cons, if_neg (fun h => hne (by rw [hdst, h]))]
      | _ => rfl
  have var : ∀ p : VP, (match o.dst with | some d' => (match p.at S with | some d => Nat.beq d d' | none => false) && Nat.ble (d' + 1) n && Nat.ble (countB d' S) 1 | none => false) = true → y.den ⟨en.loc, p.put v en.B⟩ = y.den en := by
    intro p hd
    cases hdst : o.dst with
    | none => rw [hdst] at hd; cases hd
    | some d' =>
      rw [hdst] at hd
      simp only [Bool.and_eq_true] at hd
      obtain ⟨⟨h1, _⟩, _⟩ := hd
      cases y with
      | va q =>
        show q.get (p.put v en.B) = q.get en.B
        rcases VP.get_put v p q en.B with r | ⟨r, _⟩
        · exact r
        · subst r
          have hy' : q.at S = some t := hy
          rw [hy'] at h1
          have := Nat.eq_of_beq_eq_true h1
          subst this
          exact absurd hdst hne
      | _ => rfl
  cases x with
  | l d k => simp only [KE.ok, Bool.and_eq_true] at h; exact loc d h.1.1
  | gl c b d k => simp only [KE.ok, Bool.and_eq_true] at h; exact loc d h.1.1
  | p d k => simp only [KE.ok, Bool.and_eq_true] at h; exact var d h.1.1
  | gp c b d k => simp only [KE.ok, Bool.and_eq_true] at h; exact var d h.1.1
  | n k => rfl
  | gn c b k => rfl

theorem KE.put_hit {x : KE} {o : Oper} (h : x.ok P S n ops o = true) {y : KO} {t : Nat} (hy : y.slot S = some t) (hd : o.dst = some t) {e : Emb} {v : AV} {v' : Value} (hv : VRel e v v') (en : Env) : VRel e (y.den (x.put v en)) v' ∧ t < n := by
  have loc : ∀ d : Nat, (match o.dst with | some d' => Nat.beq d d' && Nat.ble (d + 1) n && Nat.beq (countB d S) 0 | none => false) = true → VRel e (y.den ⟨.cons d v en.loc, en.B⟩) v' ∧ t < n := by
    intro d h
    rw [hd] at h
    simp only [Bool.and_eq_true, beq_tt, ble_tt] at h
    obtain ⟨⟨rfl, h1⟩, h2⟩ := h
    refine ⟨?_, h1⟩
    cases y with
    | t k =>
      have hk : k = d := by
        unfold KO.slot at hy; dsimp only at hy; split at hy
        · cases hy; rfl
        · cases hy
      subst hk
      show VRel e ((Loc.cons k v en.loc).get k) v'
      rw [Loc.get_cons, if_pos rfl]; exact hv
    | va p =>
      have := countB_pos (p := p) (S := S) hy
      omega
    | _ => cases hy
  have var : ∀ p : VP, (match o.dst with | some d' => (match p.at S with | some d => Nat.beq d d' | none => false) && Nat.ble (d' + 1) n && Nat.ble (countB d' S) 1 | none => false) = true → VRel e (y.den ⟨en.loc, p.put v en.B⟩) v' ∧ t < n := by
    intro p h
    rw [hd] at h
    simp only [Bool.and_eq_true, ble_tt] at h
    obtain ⟨⟨h1, h2⟩, h3⟩ := h
    refine ⟨?_, h2⟩
    cases hp : p.at S with
    | none => rw [hp] at h1; cases h1
    | some d =>
      rw [hp] at h1
      have := Nat.eq_of_beq_eq_true h1
      subst this
      cases y with
      | t k =>
        exfalso
        unfold KO.slot at hy; dsimp only at hy; split at hy
        · rename_i hc
          cases hy
          rw [beq_tt] at hc
          have := countB_pos hp
          omega
        · cases hy
      | va q =>
        have hq : q = p := VP.uniq h3 hy hp
        subst hq
        show VRel e (q.get (q.put v en.B)) v'
        rcases VP.get_put_self v q en.B with r | r
        · rw [r]; exact hv
        · rw [r]; exact .bad _
      | _ => cases hy
  cases x with
  | l d k => simp only [KE.ok, Bool.and_eq_true] at h; exact loc d h.1.1
  | gl c b d k => simp only [KE.ok, Bool.and_eq_true] at h; exact loc d h.1.1
  | p d k => simp only [KE.ok, Bool.and_eq_true] at h; exact var d h.1.1
  | gp c b d k => simp only [KE.ok, Bool.and_eq_true] at h; exact var d h.1.1
  | n k =>
    simp only [KE.ok, Bool.and_eq_true] at h
    rw [hd] at h; simp at h
  | gn c b k =>
    simp only [KE.ok, Bool.and_eq_true] at h
    rw [hd] at h; simp at h

theorem wantV_spec {b : Bool} {v : AV} {t : Bool} (h : wantV b v = some t) : (∃ u, v = .b u ∧ t = bEq u b) ∨ (v = .x (.tup []) ∧ t = false) := by
  cases v with
  | b u => cases h; exact .inl ⟨u, rfl, rfl⟩
  | x u =>
    cases u with
    | tup l =>
      cases l with
      | nil => cases h; exact .inr ⟨rfl, rfl⟩
      | cons => cases h
    | _ => cases h
  | _ => cases h

/-- Is it wanted, here as there. -/
theorem KE.want_spec {x : KE} {o : Oper} (h : x.ok P S n ops o = true) {D : List Deferred} {e : Emb} {en : Env} {a : Act} {H : AHeap} {w : World} (hr : Rel P.globals.size e H w) (ha : ARel S n D e en a) {t : Bool} (ht : x.want en = some t) :
    Region.wanted o (yielded ops a.tmps) = t := by
  have plain : o.guard.isNone = true → some true = some t → Region.wanted o (yielded ops a.tmps) = t := fun h1 h2 => by
    cases h2; exact wanted_none h1 _
  have guard : ∀ (c : KO) (b : Bool), (match o.guard with | some (j, b') => (b == b') && (match (ops[j]?).bind (·.dst) with | some t => Nat.ble (t + 1) n && c.ok P S (.tmp t) | none => false) | none => false) = true →
      wantV b (c.den en) = some t → Region.wanted o (yielded ops a.tmps) = t := by
    intro c b hg hw
    cases hgd : o.guard with
    | none => rw [hgd] at hg; cases hg
    | some g =>
      obtain ⟨j, b'⟩ := g
      rw [hgd] at hg
      simp only [Bool.and_eq_true, beq_iff_eq] at hg
      obtain ⟨rfl, hg⟩ := hg
      cases hj : (ops[j]?).bind (·.dst) with
      | none => rw [hj] at hg; cases hg
      | some u =>
        rw [hj] at hg
        simp only [Bool.and_eq_true, ble_tt] at hg
        have h1 := KO.ok_spec hg.2 n D e en a H w hr ha
        rcases wantV_spec hw with ⟨q, hc, rfl⟩ | ⟨hc, rfl⟩
        · rw [hc] at h1
          generalize hv : a.eval (.tmp u) = uv at h1
          cases h1
          have hy := yielded_of ha.size hj (by omega) hv
          unfold Region.wanted
          simp only [hgd, hy, bEq_eq]
          cases q <;> cases b <;> rfl
        · rw [hc] at h1
          generalize hv : a.eval (.tmp u) = uv at h1
          cases h1
          rename_i l' hl'
          have hun := hg.1
          cases hl'
          have hu : u < a.tmps.size := Nat.lt_of_lt_of_eq (Nat.lt_of_succ_le hun) ha.size.symm
          have hval : a.tmps[u]? = some (.tuple #[]) := by
            simp only [Act.eval, Array.getD_eq_getD_getElem?] at hv
            rw [Array.getElem?_eq_getElem hu] at hv ⊢
            simpa using hv
          unfold Region.wanted yielded
          simp only [hgd, hj, Option.bind_some, hval]
          rfl
  cases x with
  | l d k => simp only [KE.ok, Bool.and_eq_true] at h; exact plain h.1.2 ht
  | p d k => simp only [KE.ok, Bool.and_eq_true] at h; exact plain h.1.2 ht
  | n k => simp only [KE.ok, Bool.and_eq_true] at h; exact plain h.1.2 ht
  | gl c b d k => simp only [KE.ok, Bool.and_eq_true] at h; exact guard c b h.1.2 ht
  | gp c b d k => simp only [KE.ok, Bool.and_eq_true] at h; exact guard c b h.1.2 ht
  | gn c b k => simp only [KE.ok, Bool.and_eq_true] at h; exact guard c b h.1.2 ht

/-- All it looks at. -/
def KE.ros (x : KE) : List KO := (match x with | .gl c _ _ _ | .gp c _ _ _ | .gn c _ _ => [c] | _ => []) ++ x.op.opds
theorem KE.want_congr {x : KE} {en en2 : Env} (h : ∀ y ∈ x.ros, y.den en = y.den en2) : x.want en = x.want en2 := by
  cases x with
  | gl c b d k => show wantV b (c.den en) = wantV b (c.den en2); rw [h c (by simp [KE.ros])]
  | gp c b d k => show wantV b (c.den en) = wantV b (c.den en2); rw [h c (by simp [KE.ros])]
  | gn c b k => show wantV b (c.den en) = wantV b (c.den en2); rw [h c (by simp [KE.ros])]
  | _ => rfl
def KE.reads (S : BT Nat) (x : KE) : List Nat := x.ros.filterMap (KO.slot S)
end
end
end Go.Ab
