/- Operations over the abstract memory (14): maps whose keys are whole numbers, bools, strings, or structs of these. -/
import Derived.Test.YtfhaailmhaamfaaGreatDoorAbBlt
namespace Go.Ab
open Go
noncomputable section
variable {S : BT Nat}

theorem eqAtom_eq {kd : Nat} {x y : AV} (h : eqAtom kd x y = some true) {e : Emb} {x' y' : Value} (hx : VRel e x x') (hy : VRel e y y') : x' = y' := by
  cases x with
  | i k n =>
    cases c0 : Nat.beq kd 0 with
    | false => simp only [eqAtom, c0] at h; cases h
    | true =>
      simp only [eqAtom, c0] at h
      cases y with
      | i k' n' =>
        simp only [avI] at h
        cases c : Nat.beq k k' with
        | false => rw [c] at h; cases h
        | true =>
          rw [c] at h
          simp only [Option.some.injEq] at h
          have d1 := Nat.eq_of_beq_eq_true c
          have d2 := Nat.eq_of_beq_eq_true h
          subst d1; subst d2
          cases hx; cases hy; rfl
      | _ => cases h
  | b p =>
    cases c0 : Nat.beq kd 1 with
    | false => simp only [eqAtom, c0] at h; cases h
    | true =>
      simp only [eqAtom, c0] at h
      cases y with
      | b q => cases hx; cases hy; cases p <;> cases q <;> first | rfl | cases h
      | _ => cases h
  | s l c =>
    cases c0 : Nat.beq kd 2 with
    | false => simp only [eqAtom, c0] at h; cases h
    | true =>
      simp only [eqAtom, c0] at h
      cases y with
      | s l' c' =>
        simp only [avS, Option.some.injEq] at h
        cases d1 : Nat.beq l l' with
        | false => rw [d1] at h; cases h
        | true =>
          rw [d1] at h
          have q1 := Nat.eq_of_beq_eq_true d1
          have q2 := Nat.eq_of_beq_eq_true h
          subst q1; subst q2
          cases hx; cases hy; rfl
      | _ => cases h
  | _ => cases h
theorem eqCells_eq : ∀ (ks : List Nat) (l m : List AV), eqCells ks l m = some true → ∀ {e : Emb} {xs ys : List Value}, VRels e l xs → VRels e m ys → xs = ys
  | [], l, m, h, e, xs, ys, hl, hm => by
    obtain ⟨rfl, rfl, _⟩ := eqCells_nil h
    cases hl; cases hm; rfl
  | kd :: ks, l, m, h, e, xs, ys, hl, hm => by
    obtain ⟨x, l', y, m', a, s, rfl, rfl, h1, h2, h3⟩ := eqCells_cons h
    have ha : a = true := by cases a <;> simp at h3 <;> rfl
    have hs : s = true := by cases s <;> simp at h3 <;> rfl
    subst ha; subst hs
    cases hl with
    | cons hx hl' =>
      cases hm with
      | cons hy hm' =>
        rw [eqAtom_eq h1 hx hy, eqCells_eq ks l' m' h2 hl' hm']

def atomV : Value → Bool
  | .int _ _ | .bool _ | .string _ => true
  | _ => false
theorem eqAtom_atom {kd : Nat} {x y : AV} {r : Bool} (h : eqAtom kd x y = some r) {e : Emb} {x' : Value} (hx : VRel e x x') : atomV x' = true := by
  cases x with
  | i k n => cases hx; rfl
  | b p => cases hx; rfl
  | s l c => cases hx; rfl
  | _ => cases h
theorem eqCells_atoms : ∀ (ks : List Nat) (l m : List AV) (r : Bool), eqCells ks l m = some r → ∀ {e : Emb} {xs : List Value}, VRels e l xs → ∀ v ∈ xs, atomV v = true
  | [], l, m, r, h, e, xs, hl, v, hv => by
    obtain ⟨rfl, _, _⟩ := eqCells_nil h
    cases hl; cases hv
  | kd :: ks, l, m, r, h, e, xs, hl, v, hv => by
    obtain ⟨x, l', y, m', a, s, rfl, rfl, h1, h2, h3⟩ := eqCells_cons h
    cases hl with
    | cons hx hl' =>
      rcases List.mem_cons.1 hv with rfl | hv
      · exact eqAtom_atom h1 hx
      · exact eqCells_atoms ks l' m' s h2 hl' v hv
theorem beq_str_self (s : ByteArray) : (s == s) = true := by
  rw [beq_toListBytes]; simp
theorem sameBits_atom (n : Nat) (v : Value) (h : atomV v = true) : Instr.sameBits n v v = true := by
  cases v <;> simp [atomV] at h <;> cases n <;> simp [Instr.sameBits, beq_str_self]
theorem sameNow_struct (fs : Array Field) (x y : Value) : Instr.sameNow (.struct fs) x y = none := rfl
theorem sameBits_agg (n : Nat) (xs : List Value) (h : ∀ v ∈ xs, atomV v = true) : Instr.sameBits (n + 1) (.agg xs.toArray) (.agg xs.toArray) = true := by
  simp only [Instr.sameBits, beq_self_eq_true, Bool.true_and, List.all_eq_true]
  intro p hp
  obtain ⟨u, v⟩ := p
  have : u = v ∧ u ∈ xs := by
    obtain ⟨i, hi, he⟩ := List.getElem_of_mem hp
    simp at he
    obtain ⟨rfl, rfl⟩ := he
    exact ⟨rfl, List.getElem_mem _⟩
  obtain ⟨rfl, hu⟩ := this
  exact sameBits_atom n u (h u hu)

/-- How two keys are held against each other. -/
def CmpOk (P : Program) (kt : TypeId) (cmp : AV → AV → Option Bool) : Prop :=
  ∀ (e : Emb) (x y : AV) (x' y' : Value) (r : Bool), VRel e x x' → VRel e y y' → cmp x y = some r →
    (r = true → x' = y' ∧ Instr.sameBits 10000 y' x' = true) ∧
    ((∃ d, P.underlying kt = some d ∧ Instr.sameNow d x' y' = some r) ∨ ((∃ fs, P.underlying kt = some (.struct fs)) ∧ ∀ w, (Op.equal kt x' y').run P w = .ok r w))

def cmpC (ks : List Nat) (x y : AV) : Option Bool := avX none (axAgg none (fun l => avX none (axAgg none (fun m => eqCells ks l m)) y)) x

theorem cmpC_ok {P : Program} {kt : TypeId} {d : Nat} {ks : List Nat} (h : flatOf P d kt = some ks) (hag : aggOf P kt ≠ some none) (hst : ∃ fs, P.underlying kt = some (.struct fs)) (hd : d ≤ 10000) : CmpOk P kt (cmpC ks) := by
  intro e x y x' y' r hx hy hc
  unfold cmpC at hc
  cases x with
  | x u =>
    cases u with
    | agg l =>
      cases y with
      | x u2 =>
        cases u2 with
        | agg m =>
          have he : eqCells ks l m = some r := hc
          cases hx with
          | agg _ xs hxs =>
          cases hy with
          | agg _ ys hys =>
          constructor
          · intro hr
            subst hr
            have := eqCells_eq ks l m he hxs hys
            subst this
            exact ⟨rfl, sameBits_agg 9999 xs (eqCells_atoms ks l m true he hxs)⟩
          · refine .inr ⟨hst, fun w => ?_⟩
            have := eqP_flat d (10000 - d) kt ks h e l m xs ys r w hxs hys he
            rw [show 10000 - d + d = 10000 by omega] at this
            rcases this with ⟨_, q⟩ | ⟨q, _⟩
            · exact q
            · exact absurd q hag
        | _ => cases hc
      | _ => cases hc
    | _ => cases hc
  | _ => cases hc

theorem cmpI_ok {P : Program} {kt : TypeId} {K : IntKind} (hu : P.underlying kt = some (.int K)) : CmpOk P kt (eqAtom 0) := by
  intro e x y x' y' r hx hy hc
  have hat := eqAtom_atom hc hx
  constructor
  · intro hr
    subst hr
    have := eqAtom_eq hc hx hy
    subst this
    exact ⟨rfl, sameBits_atom _ _ hat⟩
  · refine .inl ⟨_, hu, ?_⟩
    cases x with
    | i k n =>
      cases y with
      | i k' n' =>
        cases hx with
        | i _ _ hk hn =>
        cases hy with
        | i _ _ hk' hn' =>
        have h1 : Bool.rec (motive := fun _ => Option Bool) none (some (Nat.beq n n')) (Nat.beq k k') = some r := hc
        cases c : Nat.beq k k' with
        | false => rw [c] at h1; cases h1
        | true =>
          rw [c] at h1
          have := Nat.eq_of_beq_eq_true c
          subst this
          simp only [Option.some.injEq] at h1
          simp only [Instr.sameNow, if_true, Option.some.injEq]
          rw [← h1, Bool.eq_iff_iff, beq_tt, beq_iff_eq]
          exact wrap_inj k n n' hk hn hn'
      | _ => cases hc
    | _ => cases hc
theorem cmpS_ok {P : Program} {kt : TypeId} (hu : P.underlying kt = some .string) : CmpOk P kt (eqAtom 2) := by
  intro e x y x' y' r hx hy hc
  have hat := eqAtom_atom hc hx
  constructor
  · intro hr
    subst hr
    have := eqAtom_eq hc hx hy
    subst this
    exact ⟨rfl, sameBits_atom _ _ hat⟩
  · refine .inl ⟨_, hu, ?_⟩
    cases x with
    | s l1 c1 =>
      cases y with
      | s l2 c2 =>
        cases hx with
        | s _ _ hc1 =>
        cases hy with
        | s _ _ hc2 =>
        have h1 : some (Bool.rec (motive := fun _ => Bool) false (Nat.beq c1 c2) (Nat.beq l1 l2)) = some r := hc
        simp only [Option.some.injEq] at h1
        simp only [Instr.sameNow, Option.some.injEq]
        rw [← h1, beq_toListBytes]
        simp only [ByteArray.toList_mk]
        exact str_eq_iff l1 c1 l2 c2 hc1 hc2
      | _ => cases hc
    | _ => cases hc

/-- A key's place and value. -/
def findA (cmp : AV → AV → Option Bool) (k : AV) (es : List (AV × AV)) : Nat → Option (Option (Nat × AV)) :=
  List.rec (motive := fun _ => Nat → Option (Option (Nat × AV))) (fun _ => some none)
    (fun p _ ih i => Option.rec (motive := fun _ => Option (Option (Nat × AV))) none (fun r => Bool.rec (motive := fun _ => Option (Option (Nat × AV))) (ih (Nat.add i 1)) (some (some (i, p.2))) r) (cmp k p.1)) es
theorem findA_cons {cmp : AV → AV → Option Bool} {k : AV} {p : AV × AV} {es : List (AV × AV)} {i : Nat} {r : Option (Nat × AV)} (h : findA cmp k (p :: es) i = some r) :
    ∃ b, cmp k p.1 = some b ∧ ((b = true ∧ r = some (i, p.2)) ∨ (b = false ∧ findA cmp k es (i + 1) = some r)) := by
  have hd : findA cmp k (p :: es) i = Option.rec (motive := fun _ => Option (Option (Nat × AV))) none (fun r => Bool.rec (motive := fun _ => Option (Option (Nat × AV))) (findA cmp k es (i + 1)) (some (some (i, p.2))) r) (cmp k p.1) := rfl
  rw [hd] at h
  cases hb : cmp k p.1 with
  | none => rw [hb] at h; cases h
  | some b =>
    rw [hb] at h
    refine ⟨b, rfl, ?_⟩
    cases b with
    | true => simp only [Option.some.injEq] at h; exact .inl ⟨rfl, h.symm⟩
    | false => exact .inr ⟨rfl, h⟩

/-- What is found, here and there. -/
def FoundRel (e : Emb) : Option (Nat × AV) → Option (Nat × Value) → Prop
  | none, none => True
  | some (i, v), some (j, v') => i = j ∧ VRel e v v'
  | _, _ => False

theorem findNow_run {P : Program} {kt : TypeId} {cmp : AV → AV → Option Bool} (hc : CmpOk P kt cmp) {d : TypeDesc} (hd : P.underlying kt = some d) (hs : ∀ fs, d ≠ .struct fs) {e : Emb} {k : AV} {k' : Value} (hk : VRel e k k') :
    ∀ {es : List (AV × AV)} {es' : List MapEntry} (_ : MRel e es es') (i : Nat) (r : Option (Nat × AV)), findA cmp k es i = some r → ∃ r', Instr.findNow d k' es' i = some r' ∧ FoundRel e r r'
  | _, _, .nil, i, r, h => by cases h; exact ⟨none, rfl, trivial⟩
  | _, _, .cons (k := kk) (v := v) (m := m) (l := l) (l' := l') hk1 hv t, i, r, h => by
    obtain ⟨b, h1, h2⟩ := findA_cons h
    obtain ⟨_, q⟩ := hc e k kk k' m.key b hk hk1 h1
    rcases q with ⟨d', hd', q⟩ | ⟨⟨fs, hfs⟩, _⟩
    · rw [hd] at hd'; cases hd'
      rcases h2 with ⟨rfl, rfl⟩ | ⟨rfl, h2⟩
      · exact ⟨some (i, m.val), by simp [Instr.findNow, q], rfl, hv⟩
      · obtain ⟨r', g1, g2⟩ := findNow_run hc hd hs hk t (i + 1) r h2
        exact ⟨r', by simp [Instr.findNow, q, g1], g2⟩
    · rw [hd] at hfs; cases hfs; exact absurd rfl (hs fs)
theorem findAsking_run {P : Program} {kt : TypeId} {cmp : AV → AV → Option Bool} (hc : CmpOk P kt cmp) {fs : Array Field} (hd : P.underlying kt = some (.struct fs)) {e : Emb} {k : AV} {k' : Value} (hk : VRel e k k') (w : World) :
    ∀ {es : List (AV × AV)} {es' : List MapEntry} (_ : MRel e es es') (i : Nat) (r : Option (Nat × AV)), findA cmp k es i = some r → ∃ r', (Instr.findAsking kt k' es' i).run P w = .ok r' w ∧ FoundRel e r r'
  | _, _, .nil, i, r, h => by cases h; exact ⟨none, rfl, trivial⟩
  | _, _, .cons (k := kk) (v := v) (m := m) (l := l) (l' := l') hk1 hv t, i, r, h => by
    obtain ⟨b, h1, h2⟩ := findA_cons h
    obtain ⟨_, q⟩ := hc e k kk k' m.key b hk hk1 h1
    rcases q with ⟨d', hd', q⟩ | ⟨_, q⟩
    · rw [hd] at hd'; cases hd'; cases q
    · rcases h2 with ⟨rfl, rfl⟩ | ⟨rfl, h2⟩
      · exact ⟨some (i, m.val), by simp [Instr.findAsking, q w], rfl, hv⟩
      · obtain ⟨r', g1, g2⟩ := findAsking_run hc hd hk w t (i + 1) r h2
        exact ⟨r', by simp [Instr.findAsking, q w, g1], g2⟩

theorem findKey_run {P : Program} {kt : TypeId} {cmp : AV → AV → Option Bool} (hc : CmpOk P kt cmp) {d : TypeDesc} (hd : P.underlying kt = some d) {e : Emb} {k : AV} {k' : Value} (hk : VRel e k k') (w : World) {es : List (AV × AV)} {es' : List MapEntry} (hes : MRel e es es')
    {r : Option (Nat × AV)} (h : findA cmp k es 0 = some r) : ∃ r', (Instr.findKey kt k' es').run P w = .ok r' w ∧ FoundRel e r r' := by
  by_cases hs : ∃ fs, d = .struct fs
  · obtain ⟨fs, rfl⟩ := hs
    obtain ⟨r', g1, g2⟩ := findAsking_run hc hd hk w hes 0 r h
    refine ⟨r', ?_, g2⟩
    simp only [Instr.findKey, Sem.run_bind, run_underlying hd, Result.andThen_ok]
    cases es' with
    | nil =>
      simp [Instr.findNow]
      simpa [Instr.findAsking] using g1
    | cons m l' =>
      simp only [Instr.findNow, sameNow_struct]
      exact g1
  · obtain ⟨r', g1, g2⟩ := findNow_run hc hd (fun fs h => hs ⟨fs, h⟩) hk hes 0 r h
    exact ⟨r', by simp [Instr.findKey, run_underlying hd, g1], g2⟩

/-- A key may be hashed. -/
def KeyFree (P : Program) (kt : TypeId) (k : AV → Bool) : Prop := ∀ (e : Emb) (x : AV) (x' : Value) (b : Bool) (w : World), VRel e x x' → k x = true → (Instr.checkKey b 10000 kt x').run P w = .ok () w
theorem keyFree_atom {P : Program} {kt : TypeId} (h : (∃ K, P.underlying kt = some (.int K)) ∨ P.underlying kt = some .string ∨ P.underlying kt = some .bool) : KeyFree P kt (fun _ => true) := by
  intro e x x' b w hx _
  have gen : ∀ n d, P.underlying kt = some d → (∀ ms, d ≠ .interface ms) → (∀ n e, d ≠ .array n e) → (∀ fs, d ≠ .struct fs) → (Instr.checkKey b (n + 1) kt x').run P w = .ok () w := by
    intro n d hd h1 h2 h3
    simp only [Instr.checkKey, Sem.run_bind, run_underlying hd, Result.andThen_ok]
    cases d <;> simp_all
  rcases h with ⟨K, h⟩ | h | h
  · exact gen 9999 _ h (by simp) (by simp) (by simp)
  · exact gen 9999 _ h (by simp) (by simp) (by simp)
  · exact gen 9999 _ h (by simp) (by simp) (by simp)

def optM {R : Type} (d : R) (f : Option (Nat × AV) → R) (x : Option (Option (Nat × AV))) : R := Option.rec (motive := fun _ => R) d f x

def mapEs (H : AHeap) (v : AV) : Option (List (AV × AV)) :=
  avX none (fun y => AX.casesOn (motive_1 := fun _ => Option (List (AV × AV))) y none none none (some []) none none (fun r => blkM none (fun es => some es) (H.get r)) (fun _ _ _ => none) (fun _ _ => none) (fun _ => none) (fun _ => none) (fun _ => none) (fun _ _ => none) (fun _ _ _ => none)) v

def opLookup (cmp : AV → AV → Option Bool) (free : AV → Bool) (Z : AV) (commaOk : Bool) (x y : Env → AV) (en : Env) (H : AHeap) : ORes :=
  Option.rec (motive := fun _ => ORes) .fail (fun es => bif' .fail (optM .fail (fun r =>
    Option.rec (motive := fun _ => ORes) (.v (Bool.rec (motive := fun _ => AV) Z (.x (.tup [Z, .b false])) commaOk) H) (fun p => .v (Bool.rec (motive := fun _ => AV) p.2 (.x (.tup [p.2, .b true])) commaOk) H) r) (findA cmp (y en) es 0)) (free (y en))) (mapEs H (x en))

theorem lookup_run {P : Program} {t kt el : TypeId} {cmp : AV → AV → Option Bool} {free : AV → Bool} {zv : Value} (commaOk : Bool) (ht : P.underlying t = some (.map kt el)) {d : TypeDesc} (hd : P.underlying kt = some d)
    (hc : CmpOk P kt cmp) (hf : KeyFree P kt free) (hz : zeroOf P el = some zv) {e : Emb} {k : AV} {k' : Value} (hk : VRel e k k') (hfr : free k = true) (w : World) {es : List (AV × AV)} {es' : Array MapEntry} {xv : Value}
    (hx : (xv = .map none ∧ es' = #[]) ∨ ∃ r ck, xv = .map (some r) ∧ w.heap[r]? = some (.map es' ck)) (hm : MRel e es es'.toList) {r : Option (Nat × AV)} (h : findA cmp k es 0 = some r) :
    ∃ r', FoundRel e r r' ∧ (Instr.lookup t xv k' commaOk).run P w = .ok (match r' with | some (_, u) => if commaOk then .tuple #[u, .bool true] else u | none => if commaOk then .tuple #[zv, .bool false] else zv) w := by
  obtain ⟨r', g1, g2⟩ := findKey_run hc hd hk w hm h
  refine ⟨r', g2, ?_⟩
  have hck := hf e k k' es'.isEmpty w hk hfr
  rcases hx with ⟨rfl, rfl⟩ | ⟨q, ck, rfl, hq⟩
  · simp only [Instr.lookup, Sem.run_bind, run_underlying ht, Result.andThen_ok, Sem.run_pure, hck, g1]
    cases r' with
    | none => simp only [Sem.run_bind, run_zeroOf hz, Result.andThen_ok, Sem.run_pure]
    | some p => obtain ⟨j, u⟩ := p; simp only [Result.andThen_ok, Sem.run_bind, Sem.run_pure]
  · have hg : (getObj q).run P w = .ok (.map es' ck) w := by simp [getObj, Sem.run, hq]
    simp only [Instr.lookup, Sem.run_bind, run_underlying ht, Result.andThen_ok, Sem.run_pure, hg, hck, g1]
    cases r' with
    | none => simp only [Sem.run_bind, run_zeroOf hz, Result.andThen_ok, Sem.run_pure]
    | some p => obtain ⟨j, u⟩ := p; simp only [Result.andThen_ok, Sem.run_bind, Sem.run_pure]

theorem opLookup_snd {P : Program} {o : Oper} {t kt el : TypeId} {x y : Operand} {x' y' : Env → AV} {cmp : AV → AV → Option Bool} {free : AV → Bool} {Z : AV} {zv : Value} {commaOk : Bool} (ho : o.op = .lookup t x y commaOk) (ht : P.underlying t = some (.map kt el)) (hk : ∃ d, P.underlying kt = some d)
    (hc : CmpOk P kt cmp) (hf : KeyFree P kt free) (hz : zeroOf P el = some zv) (hZ : ∀ e, VRel e Z zv) (hx : OpndOk P S x x') (hy : OpndOk P S y y') (en : Env) (H : AHeap) : OSnd P S o en H (opLookup cmp free Z commaOk x' y' en H) := by
  unfold opLookup
  obtain ⟨d, hd⟩ := hk
  cases hes : mapEs H (x' en) with
  | none => trivial
  | some es =>
  simp only [bif']
  cases hfr : free (y' en) with
  | false => trivial
  | true =>
  simp only
  cases hr0 : findA cmp (y' en) es 0 with
  | none => trivial
  | some r =>
  simp only [optM]
  have key : ∀ (N : Nat) (D : List Deferred) (e : Emb) (w : World) (a : Act), Rel P.globals.size e H w → ARel S N D e en a →
      ∃ es' : Array MapEntry, MRel e es es'.toList ∧ ((a.eval x = .map none ∧ es' = #[]) ∨ ∃ r ck, a.eval x = .map (some r) ∧ w.heap[r]? = some (.map es' ck)) := by
    intro N D e w a hr ha
    have h1 := hx N D e en a H w hr ha
    unfold mapEs at hes
    cases hxe : x' en with
    | x u =>
      rw [hxe] at hes h1
      cases u with
      | nilm =>
        cases hes
        generalize hxv : a.eval x = xv at h1
        cases h1
        exact ⟨#[], .nil, .inl ⟨rfl, rfl⟩⟩
      | m r0 =>
        have h' : blkM none (fun es => some es) (H.get r0) = some es := hes
        cases hb : H.get r0 with
        | none => rw [hb] at h'; cases h'
        | some yy =>
          rw [hb] at h'
          cases yy with
          | m es0 =>
            cases h'
            generalize hxv : a.eval x = xv at h1
            cases h1
            rename_i i hi
            obtain ⟨es', ck, q1, q2⟩ := hr.obj r0 i _ hi hb
            exact ⟨es', q2, .inr ⟨_, ck, rfl, q1⟩⟩
          | _ => cases h'
      | _ => cases hes
    | _ => rw [hxe] at hes; cases hes
  have fin : ∀ (v : AV), (∀ (e : Emb) (r' : Option (Nat × Value)), FoundRel e r r' → VRel e v (match r' with | some (_, u) => if commaOk then .tuple #[u, .bool true] else u | none => if commaOk then .tuple #[zv, .bool false] else zv)) → OSnd P S o en H (.v v H) := by
    intro v hv
    refine OSnd.pure fun N D e w a hr ha => ?_
    obtain ⟨es', hm, hxe⟩ := key N D e w a hr ha
    obtain ⟨r', g1, g2⟩ := lookup_run commaOk ht hd hc hf hz (hy N D e en a H w hr ha) hfr w hxe hm hr0
    exact ⟨_, by simp only [execOp, ho, Sem.run_bind, g2, Result.andThen_ok, Sem.run_pure], hv e r' g1⟩
  cases r with
  | none =>
    refine fin _ fun e r' hr' => ?_
    cases r' with
    | some p => exact hr'.elim
    | none =>
      cases commaOk with
      | false => exact hZ e
      | true => exact .tup [Z, .b false] [zv, .bool false] (.cons (hZ e) (.cons (.b false) .nil))
  | some p =>
    obtain ⟨i, v⟩ := p
    refine fin _ fun e r' hr' => ?_
    cases r' with
    | none => exact hr'.elim
    | some p' =>
      obtain ⟨j, u⟩ := p'
      obtain ⟨_, hvu⟩ := hr'
      cases commaOk with
      | false => exact hvu
      | true => exact .tup [v, .b true] [u, .bool true] (.cons hvu (.cons (.b true) .nil))

/-! ### A map's store -/
theorem run_setObjM (P : Program) (w : World) (r : Nat) (o : Obj) {es : Array MapEntry} {ck : Nat} (h : w.heap[r]? = some (.map es ck)) : (setObj r o).run P w = .ok () { w with heap := w.heap.setIfInBounds r o } := by
  simp [setObj, Sem.run, h]

def setP (k v : AV) (es : List (AV × AV)) (i : Nat) : List (AV × AV) := es.set i (k, v)
theorem MRel.snoc {e : Emb} : ∀ {l : List (AV × AV)} {l' : List MapEntry}, MRel e l l' → ∀ {k v : AV} {m : MapEntry}, VRel e k m.key → VRel e v m.val → MRel e (l ++ [(k, v)]) (l' ++ [m])
  | _, _, .nil, _, _, _, hk, hv => .cons hk hv .nil
  | _, _, .cons a b t, _, _, _, hk, hv => .cons a b (MRel.snoc t hk hv)
theorem MRel.set {e : Emb} : ∀ {l : List (AV × AV)} {l' : List MapEntry}, MRel e l l' → ∀ (i : Nat) {k v : AV} {m : MapEntry}, VRel e k m.key → VRel e v m.val → MRel e (l.set i (k, v)) (l'.set i m)
  | _, _, .nil, _, _, _, _, _, _ => .nil
  | _, _, .cons _ _ t, 0, _, _, _, hk, hv => .cons hk hv t
  | _, _, .cons a b t, i + 1, _, _, _, hk, hv => .cons a b (MRel.set t i hk hv)

def opMapUpdate (cmp : AV → AV → Option Bool) (free : AV → Bool) (x y z : Env → AV) (en : Env) (H : AHeap) : ORes :=
  avX .fail (fun u => AX.casesOn (motive_1 := fun _ => ORes) u .fail .fail .fail .fail .fail .fail (fun r => blkM .fail (fun es => bif' .fail (optM .fail (fun q =>
      Option.rec (motive := fun _ => ORes) (.v undefA (H.upd r (.m (es ++ [(y en, z en)])))) (fun p => .v undefA (H.upd r (.m (es.set p.1 (y en, z en))))) q) (findA cmp (y en) es 0)) (free (y en))) (H.get r))
    (fun _ _ _ => .fail) (fun _ _ => .fail) (fun _ => .fail) (fun _ => .fail) (fun _ => .fail) (fun _ _ => .fail) (fun _ _ _ => .fail)) (x en)

theorem findA_lt {cmp : AV → AV → Option Bool} {k : AV} : ∀ {es : List (AV × AV)} {i j : Nat} {v : AV}, findA cmp k es i = some (some (j, v)) → ∃ p, es[j - i]? = some p ∧ i ≤ j ∧ cmp k p.1 = some true
  | [], i, j, v, h => by cases h
  | p :: es, i, j, v, h => by
    obtain ⟨b, h1, h2⟩ := findA_cons h
    rcases h2 with ⟨rfl, h2⟩ | ⟨rfl, h2⟩
    · cases h2; exact ⟨p, by simp, Nat.le_refl _, h1⟩
    · obtain ⟨q, g1, g2, g3⟩ := findA_lt h2
      refine ⟨q, ?_, by omega, g3⟩
      rw [show j - i = (j - (i + 1)) + 1 by omega]
      simpa using g1
theorem MRel.get {e : Emb} : ∀ {l : List (AV × AV)} {l' : List MapEntry}, MRel e l l' → ∀ {i : Nat} {p : AV × AV}, l[i]? = some p → ∃ m, l'[i]? = some m ∧ VRel e p.1 m.key ∧ VRel e p.2 m.val
  | _, _, .nil, _, _, h => by simp at h
  | _, _, .cons a b t, 0, p, h => by simp at h; subst h; exact ⟨_, by simp, a, b⟩
  | _, _, .cons a b t, i + 1, p, h => by
    obtain ⟨m, g1, g2⟩ := MRel.get t (i := i) (p := p) (by simpa using h)
    exact ⟨m, by simpa using g1, g2⟩

theorem opMapUpdate_snd {P : Program} {o : Oper} {t kt el : TypeId} {x y z : Operand} {x' y' z' : Env → AV} {cmp : AV → AV → Option Bool} {free : AV → Bool} (ho : o.op = .mapUpdate t x y z ∨ o.op = .insert t x y z) (ht : P.underlying t = some (.map kt el)) (hk : ∃ d, P.underlying kt = some d)
    (hc : CmpOk P kt cmp) (hf : KeyFree P kt free) (hx : OpndOk P S x x') (hy : OpndOk P S y y') (hz : OpndOk P S z z') (en : Env) (H : AHeap) : OSnd P S o en H (opMapUpdate cmp free x' y' z' en H) := by
  unfold opMapUpdate
  obtain ⟨d, hd⟩ := hk
  cases hxe : x' en with
  | x u =>
    cases u with
    | m r0 =>
      simp only [avX]
      cases hb : H.get r0 with
      | none => trivial
      | some yy =>
        cases yy with
        | m es =>
          simp only [blkM, bif']
          cases hfr : free (y' en) with
          | false => trivial
          | true =>
          simp only
          cases hr0 : findA cmp (y' en) es 0 with
          | none => trivial
          | some q =>
          simp only [optM]
          cases q with
          | none =>
            simp only
            refine OSnd.skip fun N D e w a hr ha => ?_
            have h1 := hx N D e en a H w hr ha
            have h2 := hy N D e en a H w hr ha
            have h3 := hz N D e en a H w hr ha
            rw [hxe] at h1
            generalize hxv : a.eval x = xv at h1
            cases h1
            rename_i i hi
            obtain ⟨es', ck, q1, q2⟩ := hr.obj r0 i _ hi hb
            obtain ⟨r', g1, g2⟩ := findKey_run hc hd h2 w q2 hr0
            cases r' with
            | some p => exact g2.elim
            | none =>
              refine ⟨e, { w with heap := w.heap.setIfInBounds i.blk (.map (es'.push { key := a.eval y, val := a.eval z, born := ck }) (ck + 1)) }, ?_, Evo.change hr hi (.inr ⟨es, hb⟩) _ (.map (es'.push { key := a.eval y, val := a.eval z, born := ck }) (ck + 1)) rfl rfl rfl rfl ?_⟩
              · rcases ho with ho | ho <;>
                · have hg : (getObj i.blk).run P w = .ok (.map es' ck) w := by simp [getObj, Sem.run, q1]
                  have hs := run_setObjM P w i.blk (.map (es'.push { key := a.eval y, val := a.eval z, born := ck }) (ck + 1)) q1
                  simp only [execOp, ho, Sem.run_bind, Instr.mapUpdate, run_underlying ht, Result.andThen_ok, hxv, hg, hf e _ _ _ w h2 hfr, g1, hs, Sem.run_pure]
              · refine ⟨_, _, rfl, ?_⟩
                rw [Array.toList_push]
                exact q2.snoc h2 h3
          | some p =>
            obtain ⟨j, v⟩ := p
            simp only
            refine OSnd.skip fun N D e w a hr ha => ?_
            have h1 := hx N D e en a H w hr ha
            have h2 := hy N D e en a H w hr ha
            have h3 := hz N D e en a H w hr ha
            rw [hxe] at h1
            generalize hxv : a.eval x = xv at h1
            cases h1
            rename_i i hi
            obtain ⟨es', ck, q1, q2⟩ := hr.obj r0 i _ hi hb
            obtain ⟨r', g1, g2⟩ := findKey_run hc hd h2 w q2 hr0
            cases r' with
            | none => exact g2.elim
            | some p' =>
              obtain ⟨j', u'⟩ := p'
              obtain ⟨rfl, hvu⟩ := g2
              obtain ⟨pp, c1, c2, c3⟩ := findA_lt hr0
              obtain ⟨m, m1, m2, m3⟩ := q2.get c1
              obtain ⟨hsame, _⟩ := hc e _ _ _ _ true h2 m2 c3
              obtain ⟨_, hbits⟩ := hsame rfl
              simp only [Nat.sub_zero, Array.getElem?_toList] at m1
              refine ⟨e, { w with heap := w.heap.setIfInBounds i.blk (.map (es'.modify j fun en => { en with key := a.eval y, val := a.eval z }) ck) }, ?_, Evo.change hr hi (.inr ⟨es, hb⟩) _ (.map (es'.modify j fun en => { en with key := a.eval y, val := a.eval z }) ck) rfl rfl rfl rfl ?_⟩
              · rcases ho with ho | ho <;>
                · have hg : (getObj i.blk).run P w = .ok (.map es' ck) w := by simp [getObj, Sem.run, q1]
                  have hs := run_setObjM P w i.blk (.map (es'.modify j fun en => { en with key := a.eval y, val := a.eval z }) ck) q1
                  simp only [execOp, ho, Sem.run_bind, Instr.mapUpdate, run_underlying ht, Result.andThen_ok, hxv, hg, hf e _ _ _ w h2 hfr, g1, hs, m1, Option.map_some, Option.getD_some, Instr.keyThatStays, hbits, if_true, Sem.run_pure]
              · refine ⟨_, _, rfl, ?_⟩
                have : (es'.modify j fun en => { en with key := a.eval y, val := a.eval z }).toList = es'.toList.set j { m with key := a.eval y, val := a.eval z } := by
                  apply List.ext_getElem?
                  intro k
                  rw [Array.getElem?_toList, Array.getElem?_modify, List.getElem?_set]
                  by_cases hjk : j = k
                  · subst hjk
                    have hlt : j < es'.toList.length := by
                      have := (Array.getElem?_eq_some_iff.1 m1).1; simpa using this
                    simp [m1]
                    simpa using hlt
                  · simp [hjk]
                rw [this]
                exact q2.set j h2 h3
        | _ => trivial
    | _ => trivial
  | _ => trivial
end
end Go.Ab
