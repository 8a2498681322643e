/- Operations over the abstract memory (2): stores, new variables, literals. -/
import Derived.Test.YtfhaailmhaamfaaGreatDoorAbOps
namespace Go.Ab
open Go
noncomputable section
variable {S : BT Nat}

/-! ### Several cells at once -/
def putAll (C : Array Value) (o : Nat) : List Value → Array Value
  | [] => C
  | v :: l => putAll (C.setIfInBounds o v) (o + 1) l
theorem putAll_size (l : List Value) : ∀ (C : Array Value) (o : Nat), (putAll C o l).size = C.size := by
  induction l with
  | nil => intro C o; rfl
  | cons v l ih => intro C o; simp [putAll, ih]
theorem putAll_get (l : List Value) : ∀ (C : Array Value) (o j : Nat), (putAll C o l)[j]? = if o ≤ j ∧ j < o + l.length ∧ j < C.size then l[j - o]? else C[j]? := by
  induction l with
  | nil => intro C o j; simp only [putAll, List.length_nil]; rw [if_neg (by omega)]
  | cons v l ih =>
    intro C o j
    simp only [putAll, ih, Array.size_setIfInBounds, List.length_cons]
    by_cases h : j = o
    · subst h
      rw [if_neg (by omega)]
      rw [Array.getElem?_setIfInBounds, if_pos rfl]
      by_cases h2 : j < C.size
      · rw [if_pos h2, if_pos (by omega)]; simp
      · rw [if_neg h2, if_neg (by omega)]; rw [Array.getElem?_eq_none (by omega)]
    · by_cases h2 : o + 1 ≤ j ∧ j < o + 1 + l.length ∧ j < C.size
      · rw [if_pos h2, if_pos (by omega), show j - o = (j - (o + 1)) + 1 by omega]; simp
      · rw [if_neg h2, if_neg (by omega), Array.getElem?_setIfInBounds, if_neg (Ne.symm h)]

theorem setCell_heap {w : World} {B o : Nat} {C : Array Value} {ty : TypeId} {z : Nat × Nat} (h : w.heap[B]? = some (.cells C ty z)) (v : Value) :
    w.setCell ⟨B, o, none⟩ v = { w with heap := w.heap.setIfInBounds B (.cells (C.setIfInBounds o v) ty z) } := by
  unfold World.setCell
  congr 1
  apply Array.ext_getElem?
  intro j
  rw [Array.getElem?_modify, Array.getElem?_setIfInBounds]
  by_cases hj : B = j
  · subst hj
    obtain ⟨hb, _⟩ := Array.getElem?_eq_some_iff.1 h
    rw [if_pos rfl, if_pos rfl, if_pos hb, h]
    rfl
  · simp [hj]

theorem run_storeCells {P : Program} : ∀ (l : List Value) (w : World) (B o i : Nat) (C : Array Value) (ty : TypeId) (z : Nat × Nat), w.heap[B]? = some (.cells C ty z) → z.2 ≤ z.1 →
    (∀ v ∈ l, v.oneCell' = true) → o + i + l.length ≤ C.size →
    (storeCells ⟨B, o, none⟩ l i).run P w = .ok () { w with heap := w.heap.setIfInBounds B (.cells (putAll C (o + i) l) ty z) }
  | [], w, B, o, i, C, ty, z, h, _, _, _ => by
    simp only [storeCells, putAll, Sem.run_pure]
    congr 1
    have : w.heap.setIfInBounds B (.cells C ty z) = w.heap := by
      apply Array.ext_getElem?
      intro j
      rw [Array.getElem?_setIfInBounds]
      split
      · subst_vars
        split
        · exact h.symm
        · rw [Array.getElem?_eq_none (by omega)]
      · rfl
    rw [this]
  | v :: l, w, B, o, i, C, ty, z, h, hz, hone, hlen => by
    simp only [List.length_cons] at hlen
    have hcell := cell_of h (o + i)
    have hlt : o + i < C.size := by omega
    rw [Array.getElem?_eq_getElem hlt] at hcell
    have hfr : w.frozen? ⟨B, o + i, none⟩ = false := by
      simp only [World.frozen?, h]
      simp; omega
    have hset := setCell_heap (o := o + i) h v
    have h' : (w.setCell ⟨B, o + i, none⟩ v).heap[B]? = some (.cells (C.setIfInBounds (o + i) v) ty z) := by
      rw [hset]
      obtain ⟨hb, _⟩ := Array.getElem?_eq_some_iff.1 h
      simp [hb]
    have ih := run_storeCells (P := P) l (w.setCell ⟨B, o + i, none⟩ v) B o (i + 1) _ ty z h' hz (fun u hu => hone u (List.mem_cons_of_mem _ hu)) (by simp; omega)
    simp only [storeCells, Sem.run_bind, add_addr]
    rw [run_store P w _ v .plain (hone v (by simp))]
    simp only [hcell, hfr, Bool.false_eq_true, if_false, Result.andThen_ok]
    rw [ih, hset]
    simp only [putAll, Array.setIfInBounds_setIfInBounds]
    rfl

def oneA (v : AV) : Bool := avX true (fun y => AX.casesOn (motive_1 := fun _ => Bool) y false true true true true true (fun _ => true) (fun _ _ _ => true) (fun _ _ => true) (fun _ => false) (fun _ => false) (fun _ => true) (fun _ _ => true) (fun _ _ _ => true)) v
theorem oneA_spec {e : Emb} {v : AV} {v' : Value} (h : VRel e v v') (ho : oneA v = true) : v'.oneCell' = true := by
  cases h <;> first | rfl | (exact absurd ho (by simp [oneA, avX]))
def allOne (l : List AV) : Bool := List.rec (motive := fun _ => Bool) true (fun v _ ih => Bool.rec (motive := fun _ => Bool) false ih (oneA v)) l
theorem allOne_cons (v : AV) (l : List AV) : allOne (v :: l) = (oneA v && allOne l) := by
  have h : allOne (v :: l) = Bool.rec (motive := fun _ => Bool) false (allOne l) (oneA v) := rfl
  rw [h]; cases oneA v <;> rfl
theorem allOne_spec {e : Emb} : ∀ {l : List AV} {l' : List Value}, VRels e l l' → allOne l = true → ∀ v ∈ l', v.oneCell' = true
  | _, _, .nil, _, v, hv => by cases hv
  | _, _, .cons hv ht, ho, u, hu => by
    rw [allOne_cons, Bool.and_eq_true] at ho
    rcases List.mem_cons.1 hu with rfl | hu
    · exact oneA_spec hv ho.1
    · exact allOne_spec ht ho.2 u hu

/-- The cells of a value, if they are known to be such. -/
def cellsA (v : AV) : Option (List AV) :=
  avX (some [v]) (fun y => AX.casesOn (motive_1 := fun _ => Option (List AV)) y none (some [v]) (some [v]) (some [v]) (some [v]) (some [v]) (fun _ => some [v]) (fun _ _ _ => some [v]) (fun _ _ => some [v])
    (fun l => Bool.rec (motive := fun _ => Option (List AV)) none (some l) (allOne l)) (fun _ => none) (fun _ => some [v]) (fun _ _ => some [v]) (fun _ _ _ => some [v])) v
theorem cellsA_spec {e : Emb} {v : AV} {v' : Value} {l : List AV} (hc : cellsA v = some l) (h : VRel e v v') : ∃ l', v'.cells = l'.toArray ∧ VRels e l l' ∧ ∀ u ∈ l', u.oneCell' = true := by
  have single : ∀ (u : AV) (u' : Value), VRel e u u' → u'.cells = #[u'] → u'.oneCell' = true → some [u] = some l → ∃ l', u'.cells = l'.toArray ∧ VRels e l l' ∧ ∀ x ∈ l', x.oneCell' = true := by
    intro u u' hu hcells hone he
    cases he
    exact ⟨[u'], hcells, .cons hu .nil, fun x hx => by simp at hx; subst hx; exact hone⟩
  cases h with
  | bad v => cases hc
  | agg m m' hm =>
    cases ho : allOne m with
    | false => simp [cellsA, avX, ho] at hc
    | true =>
      simp [cellsA, avX, ho] at hc
      subst hc
      exact ⟨m', rfl, hm, allOne_spec hm ho⟩
  | tup m m' hm => cases hc
  | i k n hk hn => exact single _ _ (.i k n hk hn) rfl rfl hc
  | b v => exact single _ _ (.b v) rfl rfl hc
  | s n c hc' => exact single _ _ (.s n c hc') rfl rfl hc
  | p b o i hi => exact single _ _ (.p b o i hi) rfl rfl hc
  | sl b o n c c' i hi hc' => exact single _ _ (.sl b o n c c' i hi hc') rfl rfl hc
  | slq b o a => exact single _ _ (.slq b o a) rfl rfl hc
  | nilp => exact single _ _ .nilp rfl rfl hc
  | nils => exact single _ _ .nils rfl rfl hc
  | nilm => exact single _ _ .nilm rfl rfl hc
  | nilf => exact single _ _ .nilf rfl rfl hc
  | nili => exact single _ _ .nili rfl rfl hc
  | m r i hi => exact single _ _ (.m r i hi) rfl rfl hc
  | fn f a c a' c' ha hc' => exact single _ _ (.fn f a c a' c' ha hc') rfl rfl hc
  | ifc t u u' hu => exact single _ _ (.ifc t u u' hu) rfl rfl hc
  | fl b => exact single _ _ (.fl b) rfl rfl hc
  | sy m r n hn hi => exact single _ _ (.sy m r n hn hi) rfl rfl hc
  | rg k lo hi n hk hn h1 h2 => exact single _ _ (.rg k lo hi n hk hn h1 h2) rfl rfl hc

/-- Cells written into a row. -/
def putN (t : BT AV) (o : Nat) (l : List AV) : BT AV :=
  List.rec (motive := fun _ => BT AV → Nat → BT AV) (fun t _ => t) (fun v _ ih t o => ih (t.set v o) (Nat.add o 1)) l t o
theorem putN_nil (t : BT AV) (o : Nat) : putN t o [] = t := rfl
theorem putN_cons (t : BT AV) (o : Nat) (v : AV) (l : List AV) : putN t o (v :: l) = putN (t.set v o) (o + 1) l := rfl
theorem putN_get (l : List AV) : ∀ (t : BT AV) (o k : Nat), (putN t o l).get k = if o ≤ k ∧ k < o + l.length then (t.get k).bind (fun _ => l[k - o]?) else t.get k := by
  induction l with
  | nil => intro t o k; rw [putN_nil, if_neg (by simp only [List.length_nil]; omega)]
  | cons v l ih =>
    intro t o k
    rw [putN_cons, ih]
    simp only [BT.get_set, List.length_cons]
    by_cases h : k = o
    · subst h
      rw [if_neg (by omega), if_pos rfl, if_pos (by omega)]
      cases t.get k <;> simp
    · by_cases h2 : o + 1 ≤ k ∧ k < o + 1 + l.length
      · rw [if_pos h2, if_neg h, if_pos (by omega), show k - o = (k - (o + 1)) + 1 by omega]
        simp
      · rw [if_neg h2, if_neg h, if_neg (by omega)]

/-- Cells of a row of one's own, written. -/
theorem Evo.write {G : Nat} {e : Emb} {H : AHeap} {w : World} (hr : Rel G e H w) {b : Nat} {i : Info} (hi : e b = some i) {n : Nat} {T : BT AV} {sp : Nat} (hb : H.get b = some (.c n T true sp))
    {o : Nat} {l : List AV} {l' : List Value} (hl : VRels e l l') (hone : ∀ v ∈ l', v.oneCell' = true) (hin : o + l.length ≤ n) (P : Program) :
    ∃ w', (storeCells ⟨i.blk, i.off + o, none⟩ l').run P w = .ok () w' ∧ Evo G e H w e (H.upd b (.c n (putN T o l) true sp)) w' := by
  obtain ⟨e1, e2, e3, C, ty, z, c1, c2, c3, c4⟩ := hr.obj b i _ hi hb
  have hlen := hl.length
  have hrun := run_storeCells (P := P) l' w i.blk (i.off + o) 0 C ty z c1 (c3 rfl) hone (by omega)
  refine ⟨_, hrun, Evo.change hr hi (.inl ⟨n, T, sp, hb⟩) _ _ rfl rfl rfl rfl ?_⟩
  refine ⟨e1, e2, e3, _, ty, z, rfl, by rw [putAll_size]; exact c2, fun _ => c3 rfl, fun k hk => ?_⟩
  obtain ⟨v, v', g1, g2, g3⟩ := c4 k hk
  rw [putN_get, putAll_get]
  by_cases hin2 : o ≤ k ∧ k < o + l.length
  · rw [if_pos hin2, if_pos (by omega), g1]
    simp only [Option.bind_some]
    have hkl : k - o < l.length := by omega
    obtain ⟨v2, q1, q2⟩ := hl.get (List.getElem?_eq_getElem hkl)
    exact ⟨_, v2, List.getElem?_eq_getElem hkl, by rw [← q1]; congr 1; omega, q2⟩
  · rw [if_neg hin2, if_neg (by omega)]
    exact ⟨v, v', g1, g2, g3⟩

def writeN (H : AHeap) (b o : Nat) (l : List AV) : Option AHeap :=
  blkC none (fun n t w sp => bif' none (bif' none (some (H.upd b (.c n (putN t o l) true sp))) (Nat.ble (Nat.add o l.length) n)) w) (H.get b)
theorem writeN_spec {H H' : AHeap} {b o : Nat} {l : List AV} (h : writeN H b o l = some H') : ∃ n T sp, H.get b = some (.c n T true sp) ∧ o + l.length ≤ n ∧ H' = H.upd b (.c n (putN T o l) true sp) := by
  unfold writeN at h
  cases hb : H.get b with
  | none => rw [hb] at h; cases h
  | some y =>
    rw [hb] at h
    cases y with
    | m es => cases h
    | dead => cases h
    | c n T wr sp =>
      cases wr with
      | false => cases h
      | true =>
        simp only [blkC, bif'] at h
        cases hk : Nat.ble (Nat.add o l.length) n with
        | false => rw [hk] at h; cases h
        | true =>
          rw [hk] at h
          cases h
          exact ⟨n, T, sp, rfl, by rw [ble_tt] at hk; exact hk, rfl⟩

def optH {R : Type} (d : R) (f : AHeap → R) (x : Option AHeap) : R := Option.rec (motive := fun _ => R) d f x
def optL {R : Type} (d : R) (f : List AV → R) (x : Option (List AV)) : R := Option.rec (motive := fun _ => R) d f x

def opStore (n : Nat) (x y : Env → AV) (en : Env) (H : AHeap) : ORes :=
  avP .fail (fun b o => optL .fail (fun l => bif' .fail (optH .fail (fun H' => .v undefA H') (writeN H b o l)) (Nat.beq l.length n)) (cellsA (y en))) (x en)
theorem opStore_snd {P : Program} {o : Oper} {t : TypeId} {x y : Operand} {x' y' : Env → AV} {n : Nat} (ho : o.op = .store t x y) (ht : szOf P t = some n) (hx : OpndOk P S x x') (hy : OpndOk P S y y') (en : Env) (H : AHeap) :
    OSnd P S o en H (opStore n x' y' en H) := by
  unfold opStore
  cases h : x' en with
  | p b k =>
    simp only [avP]
    cases hl : cellsA (y' en) with
    | none => trivial
    | some l =>
      simp only [optL, bif']
      cases hn : Nat.beq l.length n with
      | false => trivial
      | true =>
        have hn' : l.length = n := Nat.eq_of_beq_eq_true hn
        simp only
        cases hw : writeN H b k l with
        | none => trivial
        | some H' =>
          simp only [optH]
          refine OSnd.skip fun N D e w a hr ha => ?_
          have h1 := hx N D e en a H w hr ha
          have h2 := hy N D e en a H w hr ha
          rw [h] at h1
          generalize hxv : a.eval x = xv at h1
          cases h1
          rename_i i hi
          obtain ⟨m, T, sp, q1, q2, rfl⟩ := writeN_spec hw
          obtain ⟨l', g1, g2, g3⟩ := cellsA_spec hl h2
          obtain ⟨w', r1, r2⟩ := Evo.write hr hi q1 g2 g3 q2 P
          refine ⟨e, w', ?_, r2⟩
          have hlen := g2.length
          simp [execOp, ho, hxv, Instr.storeAt, Instr.sureAddr, storeVar, g1, run_sizeOf ht, r1, ← hlen, hn']
  | _ => trivial

/-! ### New rows -/
/-- A new row of just so many cells. -/
theorem Evo.newRow {G : Nat} {e : Emb} {H : AHeap} {w : World} (hr : Rel G e H w) {l : List AV} {l' : List Value} (hl : VRels e l l') (ty : TypeId) :
    Evo G e H w (e.put H.nxt ⟨w.heap.size, 0, l.length, 0, l'.length⟩) (H.alloc (.c l.length (BT.ofList l) true 0)) (w.alloc (.cells l'.toArray ty)) := by
  refine Evo.alloc hr _ _ _ rfl ⟨rfl, rfl, by simp [hl.length], l'.toArray, ty, (0, 0), rfl, by simp, fun _ => Nat.le_refl _, fun k hk => ?_⟩
  obtain ⟨v', q1, q2⟩ := hl.get (List.getElem?_eq_getElem hk)
  exact ⟨_, v', by rw [BT.get_ofList]; exact List.getElem?_eq_getElem hk, by simpa using q1, q2⟩

def newA (H : AHeap) (l : List AV) : AHeap := H.alloc (.c l.length (BT.ofList l) true 0)

def opAlloc (Z : List AV) (_ : Env) (H : AHeap) : ORes := .v (.p H.nxt 0) (newA H Z)
def zeroOf (P : Program) (t : TypeId) : Option Value := (P.info? t).bind (·.zero)
theorem run_zeroOf {P : Program} {t : TypeId} {v : Value} (h : zeroOf P t = some v) (w : World) : (zeroValue t).run P w = .ok v w := by
  unfold zeroOf at h
  cases hi : P.info? t with
  | none => rw [hi] at h; cases h
  | some i =>
    rw [hi] at h
    simp only [Option.bind_some] at h
    simp [zeroValue, typeInfo, hi, h]

theorem opAlloc_snd {P : Program} {o : Oper} {t : TypeId} {Z : List AV} {zv : Value} (ho : o.op = .alloc t) (hz : zeroOf P t = some zv) (hZ : ∀ e, VRels e Z zv.cells.toList) (en : Env) (H : AHeap) :
    OSnd P S o en H (opAlloc Z en H) :=
  OSnd.value fun N D e w a hr ha => by
    have h := Evo.newRow hr (hZ e) t
    refine ⟨_, .pointer (some ⟨w.heap.size, 0, none⟩), _, ?_, ?_, h⟩
    · simp [execOp, ho, Instr.alloc, run_zeroOf hz, newVar, newRow]
    · exact .p H.nxt 0 ⟨w.heap.size, 0, Z.length, 0, zv.cells.toList.length⟩ (by simp)

def opBox (x : Env → AV) (en : Env) (H : AHeap) : ORes := optL .fail (fun l => .v (.p H.nxt 0) (newA H l)) (cellsA (x en))
theorem opBox_snd {P : Program} {o : Oper} {t : TypeId} {x : Operand} {x' : Env → AV} (ho : o.op = .box t x) (hx : OpndOk P S x x') (en : Env) (H : AHeap) : OSnd P S o en H (opBox x' en H) := by
  unfold opBox
  cases hl : cellsA (x' en) with
  | none => trivial
  | some l =>
    simp only [optL]
    refine OSnd.value fun N D e w a hr ha => ?_
    obtain ⟨l', g1, g2, g3⟩ := cellsA_spec hl (hx N D e en a H w hr ha)
    have h := Evo.newRow hr g2 t
    refine ⟨_, .pointer (some ⟨w.heap.size, 0, none⟩), _, ?_, ?_, h⟩
    · simp [execOp, ho, Instr.box, newVar, newRow, g1]
    · exact .p H.nxt 0 ⟨w.heap.size, 0, l.length, 0, l'.length⟩ (by simp)
end
end Go.Ab
