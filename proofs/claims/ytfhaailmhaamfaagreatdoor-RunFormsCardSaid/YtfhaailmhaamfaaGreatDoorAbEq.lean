/- Operations over the abstract memory (10): '==' on structs, and against nil. -/
import Derived.Test.YtfhaailmhaamfaaGreatDoorAbStr
import Derived.Laws.StructEq
namespace Go.Ab
open Go
noncomputable section
variable {S : BT Nat}

/-- Two cells of kind kd (0: a whole number, 1: a bool, else: a string) alike? -/
def eqAtom (kd : Nat) (x y : AV) : Option Bool :=
  AVp.rec (motive := fun _ => Option Bool)
    (fun k n => Bool.rec (motive := fun _ => Option Bool) none (avI none (fun k' m => Bool.rec (motive := fun _ => Option Bool) none (some (Nat.beq n m)) (Nat.beq k k')) y) (Nat.beq kd 0))
    (fun p => Bool.rec (motive := fun _ => Option Bool) none (avB none (fun q => some (bEq p q)) y) (Nat.beq kd 1))
    (fun l c => Bool.rec (motive := fun _ => Option Bool) none (avS none (fun l' c' => some (Bool.rec (motive := fun _ => Bool) false (Nat.beq c c') (Nat.beq l l'))) y) (Nat.beq kd 2))
    (fun _ _ => none) (fun _ _ _ _ => none) (fun _ => none) x
def eqCells (ks : List Nat) : List AV → List AV → Option Bool :=
  List.rec (motive := fun _ => List AV → List AV → Option Bool) (fun l m => List.rec (motive := fun _ => Option Bool) (List.rec (motive := fun _ => Option Bool) (some true) (fun _ _ _ => none) m) (fun _ _ _ => none) l)
    (fun kd _ ih l m => List.rec (motive := fun _ => Option Bool) none (fun x l' _ => List.rec (motive := fun _ => Option Bool) none
      (fun y m' _ => Option.rec (motive := fun _ => Option Bool) none (fun a => Option.rec (motive := fun _ => Option Bool) none (fun r => some (Bool.rec (motive := fun _ => Bool) false r a)) (ih l' m')) (eqAtom kd x y)) m) l) ks
theorem eqCells_cons {kd : Nat} {ks : List Nat} {l m : List AV} {r : Bool} (h : eqCells (kd :: ks) l m = some r) : ∃ x l' y m' a s, l = x :: l' ∧ m = y :: m' ∧ eqAtom kd x y = some a ∧ eqCells ks l' m' = some s ∧ r = (a && s) := by
  cases l with
  | nil => cases h
  | cons x l' =>
    cases m with
    | nil => cases h
    | cons y m' =>
      have hd : eqCells (kd :: ks) (x :: l') (y :: m') = Option.rec (motive := fun _ => Option Bool) none (fun a => Option.rec (motive := fun _ => Option Bool) none (fun r => some (Bool.rec (motive := fun _ => Bool) false r a)) (eqCells ks l' m')) (eqAtom kd x y) := rfl
      rw [hd] at h
      cases ha : eqAtom kd x y with
      | none => rw [ha] at h; cases h
      | some a =>
        rw [ha] at h
        cases hs : eqCells ks l' m' with
        | none => rw [hs] at h; cases h
        | some s =>
          rw [hs] at h
          refine ⟨x, l', y, m', a, s, rfl, rfl, ha, hs, ?_⟩
          cases a <;> simp at h <;> simp [h]
theorem eqCells_nil {l m : List AV} {r : Bool} (h : eqCells [] l m = some r) : l = [] ∧ m = [] ∧ r = true := by
  cases l with
  | nil => cases m with
    | nil => cases h; exact ⟨rfl, rfl, rfl⟩
    | cons => cases h
  | cons => cases h
theorem eqCells_split : ∀ (k1 k2 : List Nat) (l m : List AV) (r : Bool), eqCells (k1 ++ k2) l m = some r →
    ∃ l1 l2 m1 m2 a s, l = l1 ++ l2 ∧ m = m1 ++ m2 ∧ l1.length = k1.length ∧ m1.length = k1.length ∧ eqCells k1 l1 m1 = some a ∧ eqCells k2 l2 m2 = some s ∧ r = (a && s)
  | [], k2, l, m, r, h => ⟨[], l, [], m, true, r, rfl, rfl, rfl, rfl, rfl, h, by simp⟩
  | kd :: k1, k2, l, m, r, h => by
    obtain ⟨x, l', y, m', a, s, rfl, rfl, h1, h2, h3⟩ := eqCells_cons h
    obtain ⟨l1, l2, m1, m2, b, t, rfl, rfl, g1, g2, g3, g4, g5⟩ := eqCells_split k1 k2 l' m' s h2
    refine ⟨x :: l1, l2, y :: m1, m2, a && b, t, rfl, rfl, by simp [g1], by simp [g2], ?_, g4, by rw [h3, g5, Bool.and_assoc]⟩
    have hd : eqCells (kd :: k1) (x :: l1) (y :: m1) = Option.rec (motive := fun _ => Option Bool) none (fun a => Option.rec (motive := fun _ => Option Bool) none (fun r => some (Bool.rec (motive := fun _ => Bool) false r a)) (eqCells k1 l1 m1)) (eqAtom kd x y) := rfl
    rw [hd, h1, g3]
    cases a <;> rfl

/-- The kinds of a type's cells, if they are whole numbers, bools and strings alone. -/
def flatFields (f : TypeId → Option (List Nat)) : List Field → Nat → Option (List Nat)
  | [], _ => some []
  | g :: fs, off => if g.name ≠ "_" ∧ g.offset = off then (f g.type).bind fun m => (flatFields f fs (off + m.length)).map fun r => m ++ r else none
def flatOf (P : Program) : Nat → TypeId → Option (List Nat)
  | 0, _ => none
  | d + 1, t =>
    match P.underlying t with
    | some (.int _) => some [0]
    | some .bool => some [1]
    | some .string => some [2]
    | some (.struct fs) => if P.stoodInHeld t then none else (flatFields (flatOf P d) fs.toList 0).bind fun ks => if szOf P t = some ks.length then some ks else none
    | _ => none

def EqP (P : Program) (D : Nat) (t : TypeId) (ks : List Nat) : Prop :=
  ∀ (e : Emb) (l m : List AV) (xs ys : List Value) (r : Bool) (w : World), VRels e l xs → VRels e m ys → eqCells ks l m = some r →
    (aggOf P t = some (some ks.length) ∧ (Op.equalIn D t (.agg xs.toArray) (.agg ys.toArray)).run P w = .ok r w) ∨
    (aggOf P t = some none ∧ ks.length = 1 ∧ ∃ x y, xs = [x] ∧ ys = [y] ∧ (Op.equalIn D t x y).run P w = .ok r w)

theorem eqP_fields {P : Program} {D : Nat} {f : TypeId → Option (List Nat)} (hf : ∀ t ks, f t = some ks → EqP P D t ks) : ∀ (fs : List Field) (off : Nat) (ks : List Nat), flatFields f fs off = some ks →
    ∀ (e : Emb) (l m : List AV) (xs ys px py : List Value) (r : Bool) (w : World), px.length = off → py.length = off → VRels e l xs → VRels e m ys → eqCells ks l m = some r →
      (Op.eqFields D (px ++ xs).toArray (py ++ ys).toArray fs).run P w = .ok r w
  | [], off, ks, h, e, l, m, xs, ys, px, py, r, w, _, _, _, _, he => by
    cases h
    obtain ⟨_, _, rfl⟩ := eqCells_nil he
    simp [Op.eqFields]
  | g :: fs, off, ks, h, e, l, m, xs, ys, px, py, r, w, hpx, hpy, hl, hm, he => by
    simp only [flatFields] at h
    split at h
    · rename_i hg
      cases hk : f g.type with
      | none => rw [hk] at h; cases h
      | some k1 =>
        rw [hk] at h
        simp only [Option.bind_some] at h
        cases hr : flatFields f fs (off + k1.length) with
        | none => rw [hr] at h; cases h
        | some k2 =>
          rw [hr] at h
          cases h
          obtain ⟨l1, l2, m1, m2, a, s, rfl, rfl, g1, g2, g3, g4, rfl⟩ := eqCells_split k1 k2 l m r he
          -- the parts
          have hxs := hl.length
          have hys := hm.length
          simp only [List.length_append] at hxs hys
          have hx1 : VRels e l1 (xs.take k1.length) := by have := hl.take k1.length; rwa [List.take_left' g1] at this
          have hx2 : VRels e l2 (xs.drop k1.length) := by have := hl.drop k1.length; rwa [List.drop_left' g1] at this
          have hy1 : VRels e m1 (ys.take k1.length) := by have := hm.take k1.length; rwa [List.take_left' g2] at this
          have hy2 : VRels e m2 (ys.drop k1.length) := by have := hm.drop k1.length; rwa [List.drop_left' g2] at this
          have ih := eqP_fields hf fs (off + k1.length) k2 hr e l2 m2 (xs.drop k1.length) (ys.drop k1.length) (px ++ xs.take k1.length) (py ++ ys.take k1.length) s w (by simp; omega) (by simp; omega) hx2 hy2 g4
          simp only [List.append_assoc, List.take_append_drop] at ih
          have hone := hf g.type k1 hk e l1 m1 _ _ a w hx1 hy1 g3
          simp only [Op.eqFields, if_pos hg.1]
          have finish : ∀ u v, (part g.type (px ++ xs).toArray g.offset).run P w = .ok u w → (part g.type (py ++ ys).toArray g.offset).run P w = .ok v w → (Op.equalIn D g.type u v).run P w = .ok a w →
              ((do let a ← part g.type (px ++ xs).toArray g.offset
                   let b ← part g.type (py ++ ys).toArray g.offset
                   let r ← Op.equalIn D g.type a b
                   if (!r) = true then pure false else Op.eqFields D (px ++ xs).toArray (py ++ ys).toArray fs : Sem Bool)).run P w = .ok (a && s) w := by
            intro u v hu hv hq
            simp only [Sem.run_bind, hu, hv, hq, Result.andThen_ok, Sem.run_ite, ih, Sem.run_pure]
            cases a <;> simp
          rcases hone with ⟨ha, hq⟩ | ⟨ha, hlen, x, y, hxx, hyy, hq⟩
          · obtain ⟨t1, t2⟩ := run_isAgg_some ha w
            refine finish _ _ ?_ ?_ hq
            · simp only [part, Sem.run_bind, t1, t2, Result.andThen_ok, if_true, Sem.run_pure]
              congr 2
              apply Array.ext'
              simp [List.extract_eq_take_drop, hg.2, ← hpx]
            · simp only [part, Sem.run_bind, t1, t2, Result.andThen_ok, if_true, Sem.run_pure]
              congr 2
              apply Array.ext'
              simp [List.extract_eq_take_drop, hg.2, ← hpy]
          · have t1 := run_isAgg_none ha w
            have ex : (px ++ xs).toArray[g.offset]? = some x := by
              rw [hg.2, ← hpx]
              simp only [List.getElem?_toArray]
              rw [List.getElem?_append_right (Nat.le_refl _), Nat.sub_self]
              cases xs with
              | nil => simp at hxx
              | cons q xs => rw [hlen] at hxx; simp at hxx; simp [hxx]
            have ey : (py ++ ys).toArray[g.offset]? = some y := by
              rw [hg.2, ← hpy]
              simp only [List.getElem?_toArray]
              rw [List.getElem?_append_right (Nat.le_refl _), Nat.sub_self]
              cases ys with
              | nil => simp at hyy
              | cons q ys => rw [hlen] at hyy; simp at hyy; simp [hyy]
            refine finish x y ?_ ?_ hq
            · simp only [part, Sem.run_bind, t1, Result.andThen_ok, Bool.false_eq_true, if_false, ex, Sem.run_pure]
            · simp only [part, Sem.run_bind, t1, Result.andThen_ok, Bool.false_eq_true, if_false, ey, Sem.run_pure]
    · cases h

theorem atom_int {P : Program} {t : TypeId} {K : IntKind} (hu : P.underlying t = some (.int K)) {e : Emb} {x y : AV} {x' y' : Value} (hx : VRel e x x') (hy : VRel e y y') {a : Bool} (h : eqAtom 0 x y = some a) (D : Nat) (w : World) :
    (Op.equalIn (D + 1) t x' y').run P w = .ok a w := by
  cases x with
  | i k n =>
    cases y with
    | i k' n' =>
      cases hx with
      | i _ _ hk hn =>
      cases hy with
      | i _ _ hk' hn' =>
      have h1' : Bool.rec (motive := fun _ => Option Bool) none (some (Nat.beq n n')) (Nat.beq k k') = some a := h
      cases c : Nat.beq k k' with
      | false => rw [c] at h1'; cases h1'
      | true =>
        rw [c] at h1'
        have : k = k' := Nat.eq_of_beq_eq_true c
        subst this
        simp only [Option.some.injEq] at h1'
        rw [run_equalIn_int w _ t _ K _ _ hu]
        congr 1
        rw [← h1', Bool.eq_iff_iff, beq_tt, beq_iff_eq]
        exact wrap_inj k n n' hk hn hn'
    | _ => cases h
  | _ => cases h
theorem atom_bool {P : Program} {t : TypeId} (hu : P.underlying t = some .bool) {e : Emb} {x y : AV} {x' y' : Value} (hx : VRel e x x') (hy : VRel e y y') {a : Bool} (h : eqAtom 1 x y = some a) (D : Nat) (w : World) :
    (Op.equalIn (D + 1) t x' y').run P w = .ok a w := by
  cases x with
  | b p =>
    cases y with
    | b q =>
      cases hx
      cases hy
      have h1' : some (bEq p q) = some a := h
      simp only [Option.some.injEq] at h1'
      rw [run_equalIn_bool' w _ t _ _ hu]
      congr 1
      rw [← h1']
      cases p <;> cases q <;> rfl
    | _ => cases h
  | _ => cases h
theorem atom_str {P : Program} {t : TypeId} (hu : P.underlying t = some .string) {e : Emb} {x y : AV} {x' y' : Value} (hx : VRel e x x') (hy : VRel e y y') {a : Bool} (h : eqAtom 2 x y = some a) (D : Nat) (w : World) :
    (Op.equalIn (D + 1) t x' y').run P w = .ok a w := by
  cases x with
  | s l1 c1 =>
    cases y with
    | s l2 c2 =>
      cases hx with
      | s _ _ hc1 =>
      cases hy with
      | s _ _ hc2 =>
      have h1' : some (Bool.rec (motive := fun _ => Bool) false (Nat.beq c1 c2) (Nat.beq l1 l2)) = some a := h
      simp only [Option.some.injEq] at h1'
      rw [run_equalIn_string w _ t _ _ hu]
      congr 1
      rw [← h1']
      simp only [ByteArray.toList_mk]
      exact str_eq_iff l1 c1 l2 c2 hc1 hc2
    | _ => cases h
  | _ => cases h
theorem VRels.one {e : Emb} {x : AV} {l : List Value} (h : VRels e [x] l) : ∃ x', l = [x'] ∧ VRel e x x' := by
  cases h with
  | cons hv ht => cases ht; exact ⟨_, rfl, hv⟩

theorem eqP_flat {P : Program} : ∀ (d D : Nat) (t : TypeId) (ks : List Nat), flatOf P d t = some ks → EqP P (D + d) t ks
  | 0, _, _, _, h => by cases h
  | d + 1, D, t, ks, h => by
    intro e l m xs ys r w hl hm he
    unfold flatOf at h
    have hagg : ∀ dd, P.underlying t = some dd → (∀ fs, dd ≠ .struct fs) → (∀ n e, dd ≠ .array n e) → aggOf P t = some none := by
      intro dd hd h1 h2
      unfold aggOf
      rw [hd]
      cases dd <;> simp_all
    cases hu : P.underlying t with
    | none => rw [hu] at h; cases h
    | some dd =>
      rw [hu] at h
      cases dd with
      | int K =>
        cases h
        obtain ⟨x, l', y, m', a, s, rfl, rfl, h1, h2, rfl⟩ := eqCells_cons he
        obtain ⟨rfl, rfl, rfl⟩ := eqCells_nil h2
        obtain ⟨x', rfl, hx⟩ := hl.one
        obtain ⟨y', rfl, hy⟩ := hm.one
        refine .inr ⟨hagg _ hu (by simp) (by simp), rfl, x', y', rfl, rfl, ?_⟩
        rw [Bool.and_true]
        exact atom_int hu hx hy h1 (D + d) w
      | bool =>
        cases h
        obtain ⟨x, l', y, m', a, s, rfl, rfl, h1, h2, rfl⟩ := eqCells_cons he
        obtain ⟨rfl, rfl, rfl⟩ := eqCells_nil h2
        obtain ⟨x', rfl, hx⟩ := hl.one
        obtain ⟨y', rfl, hy⟩ := hm.one
        refine .inr ⟨hagg _ hu (by simp) (by simp), rfl, x', y', rfl, rfl, ?_⟩
        rw [Bool.and_true]
        exact atom_bool hu hx hy h1 (D + d) w
      | string =>
        cases h
        obtain ⟨x, l', y, m', a, s, rfl, rfl, h1, h2, rfl⟩ := eqCells_cons he
        obtain ⟨rfl, rfl, rfl⟩ := eqCells_nil h2
        obtain ⟨x', rfl, hx⟩ := hl.one
        obtain ⟨y', rfl, hy⟩ := hm.one
        refine .inr ⟨hagg _ hu (by simp) (by simp), rfl, x', y', rfl, rfl, ?_⟩
        rw [Bool.and_true]
        exact atom_str hu hx hy h1 (D + d) w
      | struct fs =>
        simp only at h
        split at h
        · cases h
        · rename_i hst
          cases hff : flatFields (flatOf P d) fs.toList 0 with
          | none => rw [hff] at h; cases h
          | some ks' =>
            rw [hff] at h
            simp only [Option.bind_some] at h
            split at h
            · rename_i hsz
              cases h
              have hag : aggOf P t = some (some ks.length) := by
                unfold aggOf
                rw [hu]
                simp only
                unfold szOf at hsz
                simpa using hsz
              refine .inl ⟨hag, ?_⟩
              have hfo : P.fieldsOf t = fs := by unfold Program.fieldsOf; rw [hu]
              rw [show D + (d + 1) = (D + d) + 1 by omega, run_equalIn_struct w _ t _ _ (by rw [hfo]; exact hu) (by simpa using hst), hfo]
              have := eqP_fields (P := P) (D := D + d) (fun t ks h => eqP_flat d D t ks h) fs.toList 0 ks hff e l m xs ys [] [] r w rfl rfl hl hm he
              simpa using this
            · cases h
      | _ => cases h

def opEqC (ks : List Nat) (neg : Bool) (x y : Env → AV) (en : Env) (H : AHeap) : ORes :=
  avX .fail (axAgg .fail (fun l => avX .fail (axAgg .fail (fun m => Option.rec (motive := fun _ => ORes) .fail (fun r => .v (.b (bNe neg r)) H) (eqCells ks l m))) (y en))) (x en)
theorem opEqC_snd {P : Program} {o : Oper} {op : BinOp} {t t2 : TypeId} {x y : Operand} {x' y' : Env → AV} {ks : List Nat} {neg : Bool} {d : Nat} (ho : o.op = .binOp op t x y t2) (hop : (op = .eql ∧ neg = false) ∨ (op = .neq ∧ neg = true))
    (ht : flatOf P d t = some ks) (hag : aggOf P t ≠ some none) (hd : d ≤ 10000) (hg : P.eqGuardType P.depth t = false) (hx : OpndOk P S x x') (hy : OpndOk P S y y') (en : Env) (H : AHeap) : OSnd P S o en H (opEqC ks neg x' y' en H) := by
  unfold opEqC
  cases h : x' en with
  | x u =>
    cases u with
    | agg l =>
      cases h2 : y' en with
      | x u2 =>
        cases u2 with
        | agg m =>
          simp only [avX, axAgg]
          cases hr : eqCells ks l m with
          | none => trivial
          | some r =>
            refine OSnd.pure fun N D e w a hrr ha => ?_
            have h1 := hx N D e en a H w hrr ha
            have h3 := hy N D e en a H w hrr ha
            rw [h] at h1
            rw [h2] at h3
            generalize hxv : a.eval x = xv at h1
            generalize hyv : a.eval y = yv at h3
            cases h1
            cases h3
            rename_i xs hxs ys hys
            have hq : (Op.equalIn 10000 t (.agg xs.toArray) (.agg ys.toArray)).run P w = .ok r w := by
              have := eqP_flat d (10000 - d) t ks ht e l m xs ys r w hxs hys hr
              rw [show 10000 - d + d = 10000 by omega] at this
              rcases this with ⟨_, q⟩ | ⟨q, _, x1, y1, _, _, _⟩
              · exact q
              · exact absurd q hag
            refine ⟨.bool (bNe neg r), ?_, .b _⟩
            rcases hop with ⟨rfl, rfl⟩ | ⟨rfl, rfl⟩
            · have : bNe false r = r := by cases r <;> rfl
              rw [this]
              simp only [execOp, ho, hxv, hyv, Sem.run_bind, run_eqGuard_agg w _ _ _ _ _ _ hg, Result.andThen_ok, run_eql_struct, hq, Sem.run_pure]
            · have : bNe true r = !r := by cases r <;> rfl
              rw [this]
              simp only [execOp, ho, hxv, hyv, Sem.run_bind, run_eqGuard_agg w _ _ _ _ _ _ hg, Result.andThen_ok, run_neq_struct, hq, Sem.run_pure]
        | _ => trivial
      | _ => trivial
    | _ => trivial
  | _ => trivial
end
end Go.Ab
