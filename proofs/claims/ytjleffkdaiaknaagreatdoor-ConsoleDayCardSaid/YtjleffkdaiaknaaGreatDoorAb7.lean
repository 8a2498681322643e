/- A logic over an abstract memory, and that it is sound (7 of 9). -/
import Derived.Recover
import Derived.Test.YtjleffkdaiaknaaGreatDoorAb6
namespace Go.Ab
open Go
inductive KR where
 | one (x : KO)
 | c1 (x : KO)
 | cN (n : Nat) (x : KO)
structure KFun where
 n : Nat
 S : BT Nat
 T0 : BT AV
 ps : List VP
 body : KCode
 rs : List KR
noncomputable section
def KR.den (r : KR) (en : Env) (H : AHeap) : Option AV :=
 KR.rec (motive := fun _ => Option AV) (fun x => some (x.den en))
  (fun x => avP none (fun b o => blkC none (fun n t _ _ => bif' none (t.get o) (Nat.ble (Nat.add o 1) n)) (H.get b)) (x.den en))
  (fun n x => avP none (fun b o => optL none (fun l => some (.x (.agg l))) (readN H b o n)) (x.den en)) r
def evalR (rs : List KR) (en : Env) (H : AHeap) : Option (List AV) :=
 List.rec (motive := fun _ => Option (List AV)) (some []) (fun r _ ih => optE none (fun v => optL none (fun l => some (v :: l)) ih) (r.den en H)) rs
def KR.ok (P : Program) (S : BT Nat) (r : KR) (v : ResultVar) : Bool :=
 match r, v with
 | .one x, .tmp t => x.ok P S (.tmp t)
 | .c1 x, .cell a t => x.ok P S (.tmp a) && decide (aggOf P t = some none)
 | .cN n x, .cell a t => x.ok P S (.tmp a) && decide (aggOf P t = some (some n))
 | _, _ => false
variable {S : BT Nat}
def resRun (tmps : Array Value) (v : ResultVar) : Sem Value :=
 match v with
 | .tmp t => pure (tmps.getD t undef)
 | .cell a t => do loadVar t (← asAddr (tmps.getD a undef))
theorem KR.ok_run {P : Program} {r : KR} {v : ResultVar} (h : r.ok P S v = true) {n : Nat} {D : DF} {e : Emb} {en : Env} {a : Act} {H : AHeap} {w : World} (hr : Rel P.globals.size e H w) (ha : ARel S n D e en a)
  {u : AV} (hu : r.den en H = some u) : ∃ u', (resRun a.tmps v).run P w = .ok u' w ∧ VRel e u u' := by
 cases r with
 | one x =>
  cases v with
  | tmp t =>
   cases hu
   exact ⟨_, rfl, KO.ok_spec h n D e en a H w hr ha⟩
  | cell => cases h
 | c1 x =>
  cases v with
  | tmp t => cases h
  | cell at' t =>
   simp only [KR.ok, Bool.and_eq_true, decide_eq_true_eq] at h
   obtain ⟨hx, ht⟩ := h
   have h1 := KO.ok_spec hx n D e en a H w hr ha
   have hu' : avP none (fun b o => blkC none (fun n t _ _ => bif' none (t.get o) (Nat.ble (Nat.add o 1) n)) (H.get b)) (x.den en) = some u := hu
   cases hd : x.den en with
   | p b k =>
    rw [hd] at hu' h1
    simp only [avP] at hu'
    cases hb : H.get b with
    | none => rw [hb] at hu'; cases hu'
    | some y =>
     rw [hb] at hu'
     cases y with
     | c N T wr sp =>
      simp only [blkC, bif'] at hu'
      cases hk : Nat.ble (Nat.add k 1) N with
      | false => rw [hk] at hu'; cases hu'
      | true =>
       rw [hk] at hu'
       have hk' : k < N := by rw [ble_tt] at hk; exact hk
       generalize hxv : a.eval (.tmp at') = xv at h1
       cases h1
       rename_i i hi
       obtain ⟨e1, e2, e3, C, ty, z, c1, c2, c3, c4⟩ := hr.obj b i _ hi hb
       obtain ⟨u0, v', g1, g2, g3⟩ := c4 k hk'
       have hu2 : T.get k = some u := hu'
       rw [hu2] at g1; cases g1
       refine ⟨v', ?_, g3⟩
       have hcell := cell_of c1 (i.off + k)
       rw [g2] at hcell
       have hxv' : a.tmps.getD at' undef = .pointer (some ⟨i.blk, i.off + k, none⟩) := hxv
       simp [resRun, hxv', asAddr, loadVar, run_isAgg_none ht, hcell]
     | _ => cases hu'
   | _ => rw [hd] at hu'; cases hu'
 | cN m x =>
  cases v with
  | tmp t => cases h
  | cell at' t =>
   simp only [KR.ok, Bool.and_eq_true, decide_eq_true_eq] at h
   obtain ⟨hx, ht⟩ := h
   have h1 := KO.ok_spec hx n D e en a H w hr ha
   have hu' : avP none (fun b o => optL none (fun l => some (.x (.agg l))) (readN H b o m)) (x.den en) = some u := hu
   cases hd : x.den en with
   | p b k =>
    rw [hd] at hu' h1
    simp only [avP] at hu'
    cases hl : readN H b k m with
    | none => rw [hl] at hu'; cases hu'
    | some l =>
     rw [hl] at hu'
     simp only [optL] at hu'
     cases hu'
     generalize hxv : a.eval (.tmp at') = xv at h1
     cases h1
     rename_i i hi
     obtain ⟨l', g1, g2, g3, g4⟩ := readN_spec hl hr hi
     obtain ⟨t1, t2⟩ := run_isAgg_some ht w
     refine ⟨.agg l'.toArray, ?_, .agg l l' g2⟩
     have hrun := run_loadCells_list (P := P) w _ l' g3
     rw [g1] at hrun
     have hxv' : a.tmps.getD at' undef = .pointer (some ⟨i.blk, i.off + k, none⟩) := hxv
     simp [resRun, hxv', asAddr, loadVar, t1, t2, hrun]
   | _ => rw [hd] at hu'; cases hu'
theorem evalR_run {P : Program} {n : Nat} {D : DF} {e : Emb} {en : Env} {a : Act} {H : AHeap} {w : World} (hr : Rel P.globals.size e H w) (ha : ARel S n D e en a) :
  ∀ (rs : List KR) (vs : List ResultVar) (l : List AV), sameL (KR.ok P S) rs vs = true → evalR rs en H = some l → ∃ l', (vs.mapM (resRun a.tmps)).run P w = .ok l' w ∧ VRels e l l'
 | [], [], l, _, h => by cases h; exact ⟨[], by simp, .nil⟩
 | r :: rs, v :: vs, l, hok, h => by
  simp only [sameL, Bool.and_eq_true] at hok
  have h' : optE none (fun v => optL none (fun l => some (v :: l)) (evalR rs en H)) (r.den en H) = some l := h
  cases h1 : r.den en H with
  | none => rw [h1] at h'; cases h'
  | some u =>
   rw [h1] at h'
   cases h2 : evalR rs en H with
   | none => rw [h2] at h'; cases h'
   | some m =>
    rw [h2] at h'
    cases h'
    obtain ⟨u', q1, q2⟩ := KR.ok_run hok.1 hr ha h1
    obtain ⟨m', q3, q4⟩ := evalR_run hr ha rs vs m hok.2 h2
    exact ⟨u' :: m', by simp only [List.mapM_cons, Sem.run_bind, q1, Result.andThen_ok, q3, Sem.run_pure], .cons q2 q4⟩
 | [], _ :: _, _, h, _ => by simp [sameL] at h
 | _ :: _, [], _, h, _ => by simp [sameL] at h
def packA (l : List AV) : AV := List.rec (motive := fun _ => AV) (.x (.tup [])) (fun v m _ => List.rec (motive := fun _ => AV) v (fun _ _ _ => .x (.tup (v :: m))) m) l
theorem results_run {P : Program} {fn : Func} {n : Nat} {D : DF} {e : Emb} {en : Env} {a : Act} {H : AHeap} {w : World} (hr : Rel P.globals.size e H w) (ha : ARel S n D e en a) {rs : List KR} {l : List AV}
  (hok : sameL (KR.ok P S) rs fn.results.toList = true) (h : evalR rs en H = some l) : ∃ v', (results fn a.tmps).run P w = .ok v' w ∧ VRel e (packA l) v' := by
 obtain ⟨l', h1, h2⟩ := evalR_run hr ha rs _ l hok h
 have hres : results fn a.tmps = (do let vs ← fn.results.mapM (resRun a.tmps); pure (if h : vs.size = 1 then vs[0] else .tuple vs)) := rfl
 have hm : (fn.results.mapM (resRun a.tmps)).run P w = .ok l'.toArray w := by
  rw [Array.mapM_eq_mapM_toList]
  rw [map_eq_pure_bind]
  simp only [Sem.run_bind, h1, Result.andThen_ok, Sem.run_pure]
 rw [hres]
 simp only [Sem.run_bind, hm, Result.andThen_ok, Sem.run_pure]
 cases h2 with
 | nil => exact ⟨_, rfl, .tup [] [] .nil⟩
 | cons hv ht =>
  cases ht with
  | nil => exact ⟨_, rfl, hv⟩
  | cons hv2 ht2 => exact ⟨_, rfl, .tup _ _ (.cons hv (.cons hv2 ht2))⟩
def plainA (v : AV) : Bool :=
 AVp.rec (motive := fun _ => Bool) (fun _ _ => true) (fun _ => true) (fun _ _ => true) (fun _ _ => false) (fun _ _ _ _ => false)
  (fun x => AX.casesOn (motive_1 := fun _ => Bool) x false true true true true true (fun _ => false) (fun _ _ _ => false) (fun _ _ => false) (fun _ => false) (fun _ => false) (fun _ => true) (fun _ _ => true) (fun _ _ _ => true) (fun _ _ _ => false)) v
def plainL (l : List AV) : Bool := List.rec (motive := fun _ => Bool) true (fun v _ ih => Bool.rec (motive := fun _ => Bool) false ih (plainA v)) l
theorem plainL_cons (v : AV) (l : List AV) : plainL (v :: l) = (plainA v && plainL l) := by
 have h : plainL (v :: l) = Bool.rec (motive := fun _ => Bool) false (plainL l) (plainA v) := rfl
 rw [h]; cases plainA v <;> rfl
theorem plainA_rel {e e' : Emb} {v : AV} {v' : Value} (h : VRel e v v') (hp : plainA v = true) : VRel e' v v' := by
 cases h with
 | i k n hk hn => exact .i k n hk hn
 | b v => exact .b v
 | s l c h => exact .s l c h
 | nilp => exact .nilp
 | nils => exact .nils
 | nilm => exact .nilm
 | nilf => exact .nilf
 | nili => exact .nili
 | fl b => exact .fl b
 | rg k lo hi n hk hn h1 h2 => exact .rg k lo hi n hk hn h1 h2
 | sy m r n hn hi => exact .sy m r n hn hi
 | _ => cases hp
theorem plainL_rel {e e' : Emb} : ∀ {l : List AV} {l' : List Value}, VRels e l l' → plainL l = true → VRels e' l l'
 | _, _, .nil, _ => .nil
 | _, _, .cons hv ht, hp => by
  rw [plainL_cons, Bool.and_eq_true] at hp
  exact .cons (plainA_rel hv hp.1) (plainL_rel ht hp.2)
theorem Evo.back {G : Nat} {e e' : Emb} {H H' : AHeap} {w w' : World} (h : Evo G e (H.withLow H.nxt) w e' H' w') : Evo G e H w e' (H'.withLow (minN H.low H'.low)) w' := by
 rw [minN_eq]; exact h.withLow
theorem packA_plain {e' e : Emb} {l : List AV} {v' : Value} (q2 : VRel e' (packA l) v') (hp : plainL l = true) : VRel e (packA l) v' := by
 cases l with
 | nil =>
  have : v' = .tuple #[] := by cases q2; rename_i h; cases h; rfl
  subst this
  exact .tup [] [] .nil
 | cons x m =>
  cases m with
  | nil =>
   rw [plainL_cons, Bool.and_eq_true] at hp
   exact plainA_rel q2 hp.1
  | cons y m =>
   have q3 : VRel e' (.x (.tup (x :: y :: m))) v' := q2
   cases q3
   rename_i l' hl'
   exact .tup _ _ (plainL_rel hl' hp)
def okA (H : AHeap) (v : AV) : Bool :=
 AVp.rec (motive := fun _ => Bool) (fun _ _ => true) (fun _ => true) (fun _ _ => true) (fun b _ => Nat.ble (Nat.add b 1) H.nxt) (fun b _ _ _ => Nat.ble (Nat.add b 1) H.nxt)
  (fun x => AX.casesOn (motive_1 := fun _ => Bool) x false true true true true true (fun r => Nat.ble (Nat.add r 1) H.nxt) (fun _ _ _ => false) (fun _ _ => false) (fun _ => false) (fun _ => false) (fun _ => true) (fun _ _ => true) (fun _ _ _ => true) (fun b _ _ => Nat.ble (Nat.add b 1) H.nxt)) v
def okL (H : AHeap) (l : List AV) : Bool := List.rec (motive := fun _ => Bool) true (fun v _ ih => Bool.rec (motive := fun _ => Bool) false ih (okA H v)) l
theorem okL_cons (H : AHeap) (v : AV) (l : List AV) : okL H (v :: l) = (okA H v && okL H l) := by
 have h : okL H (v :: l) = Bool.rec (motive := fun _ => Bool) false (okL H l) (okA H v) := rfl
 rw [h]; cases okA H v <;> rfl
def okBT (H : AHeap) (t : BT AV) : Bool := BT.rec (motive := fun _ => Bool) true (fun _ v _ il ir => Bool.rec (motive := fun _ => Bool) false (Bool.rec (motive := fun _ => Bool) false ir il) (okA H v)) t
theorem okA_rel {H : AHeap} {e e' : Emb} (hold : ∀ b i, b < H.nxt → e' b = some i → e b = some i) {v : AV} {v' : Value} (h : VRel e' v v') (hp : okA H v = true) : VRel e v v' := by
 have lt : ∀ b, Nat.ble (Nat.add b 1) H.nxt = true → b < H.nxt := fun b h => by rw [ble_tt] at h; exact h
 cases h with
 | i k n hk hn => exact .i k n hk hn
 | b v => exact .b v
 | s l c h => exact .s l c h
 | p b o i hi => exact .p b o i (hold b i (lt b hp) hi)
 | sl b o n c c' i hi hc => exact .sl b o n c c' i (hold b i (lt b hp) hi) hc
 | slq b o a => exact .slq b o a
 | m r i hi => exact .m r i (hold r i (lt r hp) hi)
 | xs b o n i hi => exact .xs b o n i (hold b i (lt b hp) hi)
 | nilp => exact .nilp
 | nils => exact .nils
 | nilm => exact .nilm
 | nilf => exact .nilf
 | nili => exact .nili
 | fl b => exact .fl b
 | rg k lo hi n hk hn h1 h2 => exact .rg k lo hi n hk hn h1 h2
 | sy m r n hn hi => exact .sy m r n hn hi
 | _ => cases hp
theorem okL_rel {H : AHeap} {e e' : Emb} (hold : ∀ b i, b < H.nxt → e' b = some i → e b = some i) : ∀ {l : List AV} {l' : List Value}, VRels e' l l' → okL H l = true → VRels e l l'
 | _, _, .nil, _ => .nil
 | _, _, .cons hv ht, hp => by
  rw [okL_cons, Bool.and_eq_true] at hp
  exact .cons (okA_rel hold hv hp.1) (okL_rel hold ht hp.2)
theorem okBT_get {H : AHeap} : ∀ {t : BT AV} {k : Nat} {v : AV}, okBT H t = true → t.get k = some v → okA H v = true
 | .lf, k, v, _, h => by simp at h
 | .nd l u r, k, v, hp, h => by
  have hp' : Bool.rec (motive := fun _ => Bool) false (Bool.rec (motive := fun _ => Bool) false (okBT H r) (okBT H l)) (okA H u) = true := hp
  cases c1 : okA H u with
  | false => rw [c1] at hp'; cases hp'
  | true =>
  rw [c1] at hp'
  cases c2 : okBT H l with
  | false => rw [c2] at hp'; cases hp'
  | true =>
  rw [c2] at hp'
  rw [BT.get_nd] at h
  split at h
  · cases h; exact c1
  · split at h
    · exact okBT_get c2 h
    · exact okBT_get hp' h
theorem packA_ok {H : AHeap} {e' e : Emb} (hold : ∀ b i, b < H.nxt → e' b = some i → e b = some i) {l : List AV} {v' : Value} (q2 : VRel e' (packA l) v') (hp : okL H l = true) : VRel e (packA l) v' := by
 cases l with
 | nil =>
  have : v' = .tuple #[] := by cases q2; rename_i h; cases h; rfl
  subst this
  exact .tup [] [] .nil
 | cons x m =>
  cases m with
  | nil =>
   rw [okL_cons, Bool.and_eq_true] at hp
   exact okA_rel hold q2 hp.1
  | cons y m =>
   have q3 : VRel e' (.x (.tup (x :: y :: m))) v' := q2
   cases q3
   rename_i l' hl'
   exact .tup _ _ (okL_rel hold hl' hp)
theorem Evo.holds {G : Nat} {e e' : Emb} {H H' : AHeap} {w w' : World} (h : Evo G e (H.withLow H.nxt) w e' H' w') : ∀ b i, b < H.nxt → e' b = some i → e b = some i := fun b i hb hi => by
 cases he : e b with
 | none => have := (h.fresh b i he hi).1; simp at this; omega
 | some j =>
  have := h.ext b j he
  rw [hi] at this
  exact this.symm
theorem Evo.keep1 {G : Nat} {e e' : Emb} {H H' : AHeap} {w w' : World} (hr : Rel G e H w) (h : Evo G e (H.withLow H.nxt) w e' H' w') (hl : H.nxt ≤ H'.low) {b n : Nat} {t : BT AV} {wr : Bool} {sp : Nat} {i : Info} (hb : H.nxt ≤ b) (hi : e' b = some i) (hx : H'.get b = some (.c n t wr sp))
  (hp : okBT H t = true) : Evo G e H w (e.put H.nxt i) (H.alloc (.c n t wr sp)) w' := by
 have hf : ∀ B, B < w.heap.size → w'.heap[B]? = w.heap[B]? := fun B hB => h.frame B hB fun b i hb _ => .inr (Nat.lt_of_lt_of_le (hr.lt b i hb) hl)
 have h0 := hr.none_nxt
 have hext := Emb.put_ext (i := i) h0
 have hget : ∀ c, c ≠ H.nxt → (H.alloc (.c n t wr sp)).get c = H.get c := fun c hc => by rw [AHeap.get_alloc, if_neg hc]
 have hgetn : (H.alloc (.c n t wr sp)).get H.nxt = some (.c n t wr sp) := by rw [AHeap.get_alloc, if_pos rfl]
 have hold : ∀ c j, e c = some j → c ≠ H.nxt ∧ c < H.nxt ∧ c ≠ b := fun c j hj => by have := hr.lt c j hj; omega
 have hsame : ∀ c, c < H.nxt → H'.get c = H.get c := fun c hc => h.same c hc (Nat.lt_of_lt_of_le hc hl)
 have heb : e b = none := by
  cases hq : e b with
  | none => rfl
  | some j => have := hr.lt b j hq; omega
 have hsz : w.heap.size ≤ i.blk := by
  obtain ⟨_, hc⟩ := h.fresh b i heb hi
  rcases hc with hc | ⟨b0, i0, q1, _, _, q4⟩
  · exact hc
  · have := hr.lt b0 i0 q1; omega
 refine { rel := ?_, ext := hext, size := h.size, tape := h.tape, os := h.os, out := h.out, nxt := by simp, low := Nat.le_refl _, same := ?_, dead := ?_, fresh := ?_, frame := fun B hB _ => hf B hB }
 · refine { lt := ?_, bnd := ?_, glob := ?_, obj := ?_, sep := ?_ }
   · intro c j hj
     rcases Emb.put_cases hj with ⟨rfl, _⟩ | ⟨_, hj⟩
     · simp
     · have := hr.lt c j hj; simp; omega
   · intro c j hj
     rcases Emb.put_cases hj with ⟨_, rfl⟩ | ⟨_, hj⟩
     · exact h.rel.bnd b _ hi
     · exact Nat.lt_of_lt_of_le (hr.bnd c j hj) h.size
   · intro g hg
     obtain ⟨j, hj, q1, q2⟩ := hr.glob g hg
     exact ⟨j, hext g j hj, q1, q2⟩
   · intro c j y hj hg
     rcases Emb.put_cases hj with ⟨rfl, rfl⟩ | ⟨hne, hj⟩
     · rw [hgetn] at hg
       cases hg
       obtain ⟨a1, a2, a3, C, ty, z, a4, a5, a6, a7⟩ := h.rel.obj b _ _ hi hx
       exact ⟨a1, a2, a3, C, ty, z, a4, a5, a6, fun k hk => let ⟨v, v', q1, q2, q3⟩ := a7 k hk; ⟨v, v', q1, q2, (okA_rel h.holds q3 (okBT_get hp q1)).mono hext⟩⟩
     · rw [hget c hne] at hg
       rw [hf _ (hr.bnd c j hj)]
       exact (hr.obj c j y hj hg).mono hext
   · intro b1 i1 b2 i2 h1 h2 hne ho ha
     have own : ∀ c, c < H.nxt → (H.alloc (.c n t wr sp)).owned c → H'.owned c := fun c hc ho => by
      unfold AHeap.owned at *; rwa [hget c (by omega), ← hsame c hc] at ho
     have al : ∀ c, c < H.nxt → (H.alloc (.c n t wr sp)).alive c → H'.alive c := fun c hc ho => by
      unfold AHeap.alive at *; rwa [hget c (by omega), ← hsame c hc] at ho
     have ownb : (H.alloc (.c n t wr sp)).owned H.nxt → H'.owned b := fun ho => by
      unfold AHeap.owned at *; rwa [hgetn, ← hx] at ho
     have alb : (H.alloc (.c n t wr sp)).alive H.nxt → H'.alive b := fun _ => ⟨_, hx, by simp⟩
     rcases Emb.put_cases h1 with ⟨rfl, rfl⟩ | ⟨hn1, q1⟩ <;> rcases Emb.put_cases h2 with ⟨rfl, rfl⟩ | ⟨hn2, q2⟩
     · exact absurd rfl hne
     · exact h.rel.sep b _ b2 i2 hi (h.ext _ _ q2) (Ne.symm (hold b2 i2 q2).2.2) (ownb ho) (al b2 (hold b2 i2 q2).2.1 ha)
     · exact h.rel.sep b1 i1 b _ (h.ext _ _ q1) hi (hold b1 i1 q1).2.2 (own b1 (hold b1 i1 q1).2.1 ho) (alb ha)
     · exact h.rel.sep b1 i1 b2 i2 (h.ext _ _ q1) (h.ext _ _ q2) hne (own b1 (hold b1 i1 q1).2.1 ho) (al b2 (hold b2 i2 q2).2.1 ha)
 · intro c hc _; exact hget c (by omega)
 · intro c hc
   rw [hget c (by intro he; subst he; have := AHeap.lt_of_get hc; omega)]
   exact hc
 · intro c j hc hj
   rcases Emb.put_cases hj with ⟨rfl, rfl⟩ | ⟨_, hj⟩
   · exact ⟨Nat.le_refl _, .inl hsz⟩
   · rw [hc] at hj; cases hj
def row1 (H H' : AHeap) (v : AV) (m : List AV) : Option ORes :=
 avSl none (fun b o len cap => blkC none (fun n t w sp => Bool.rec (motive := fun _ => Option ORes) none (some (.v (packA (.sl H.nxt 0 len cap :: m)) (H.alloc (.c n t w sp))))
  (Bool.rec (motive := fun _ => Bool) false (Bool.rec (motive := fun _ => Bool) false (Bool.rec (motive := fun _ => Bool) false (Bool.rec (motive := fun _ => Bool) false (okL H m) (okBT H t)) (Nat.ble 1 len)) (Nat.ble H.nxt b)) (Nat.beq o 0))) (H'.get b)) v
def backV (l : List AV) (H H' : AHeap) : ORes :=
 Bool.rec (motive := fun _ => ORes) (.v (packA l) (H'.withLow (minN H.low H'.low)))
  (Bool.rec (motive := fun _ => ORes) (Option.rec (motive := fun _ => ORes) (.v (packA l) (H'.withLow (minN H.low H'.low))) (fun r => r) (List.rec (motive := fun _ => Option ORes) none (fun v m _ => row1 H H' v m) l)) (.v (packA l) H) (okL H l)) (Nat.ble H.nxt H'.low)
theorem backV_v (l : List AV) (H H' : AHeap) : ∃ v H'', backV l H H' = .v v H'' := by
 unfold backV
 cases Nat.ble H.nxt H'.low with
 | false => exact ⟨_, _, rfl⟩
 | true =>
  cases okL H l with
  | true => exact ⟨_, _, rfl⟩
  | false =>
   cases l with
   | nil => exact ⟨_, _, rfl⟩
   | cons v m =>
    simp only
    cases hk : row1 H H' v m with
    | none => exact ⟨_, _, rfl⟩
    | some r =>
     unfold row1 at hk
     cases v with
     | sl b o len cap =>
      simp only [avSl] at hk
      cases hb : H'.get b with
      | none => rw [hb] at hk; cases hk
      | some x =>
       rw [hb] at hk
       cases x with
       | c n t wr sp =>
        simp only [blkC] at hk
        generalize (Bool.rec false (Bool.rec false (Bool.rec false (Bool.rec false (okL H m) (okBT H t)) (Nat.ble 1 len)) (Nat.ble H.nxt b)) (Nat.beq o 0) : Bool) = c at hk
        cases c with
        | false => cases hk
        | true => cases hk; exact ⟨_, _, rfl⟩
       | _ => cases hk
     | _ => cases hk
theorem backV_evo {G : Nat} {e e' : Emb} {H H' : AHeap} {w w' : World} {l : List AV} {v' : Value} (hr : Rel G e H w) (h : Evo G e (H.withLow H.nxt) w e' H' w') (hv : VRel e' (packA l) v') :
  ∃ v0 H'' e'', backV l H H' = .v v0 H'' ∧ VRel e'' v0 v' ∧ Evo G e H w e'' H'' w' := by
 unfold backV
 cases hl : Nat.ble H.nxt H'.low with
 | false => exact ⟨_, _, e', rfl, hv, h.back⟩
 | true =>
  have hl' : H.nxt ≤ H'.low := Nat.le_of_ble_eq_true hl
  cases hp : okL H l with
  | true => exact ⟨_, _, e, rfl, packA_ok h.holds hv hp, h.forget hr hl'⟩
  | false =>
   simp only
   cases l with
   | nil => exact ⟨_, _, e', rfl, hv, h.back⟩
   | cons v m =>
    simp only
    cases hk : row1 H H' v m with
    | none => exact ⟨_, _, e', rfl, hv, h.back⟩
    | some r =>
     simp only
     unfold row1 at hk
     cases v with
     | sl b o len cap =>
      simp only [avSl] at hk
      cases hb : H'.get b with
      | none => rw [hb] at hk; cases hk
      | some x =>
       rw [hb] at hk
       cases x with
       | c n t wr sp =>
        simp only [blkC] at hk
        cases c1 : Nat.beq o 0 with
        | false => rw [c1] at hk; cases hk
        | true =>
        rw [c1] at hk
        cases c2 : Nat.ble H.nxt b with
        | false => rw [c2] at hk; cases hk
        | true =>
        rw [c2] at hk
        cases c3 : Nat.ble 1 len with
        | false => rw [c3] at hk; cases hk
        | true =>
        rw [c3] at hk
        cases c4 : okBT H t with
        | false => rw [c4] at hk; cases hk
        | true =>
        rw [c4] at hk
        cases c5 : okL H m with
        | false => rw [c5] at hk; cases hk
        | true =>
        rw [c5] at hk
        cases hk
        have := Nat.eq_of_beq_eq_true c1
        subst this
        have hlen : 1 ≤ len := Nat.le_of_ble_eq_true c3
        have fin : ∀ (cap' : Nat) (i : Info), e' b = some i → CapOk i 0 cap cap' → Evo G e H w (e.put H.nxt i) (H.alloc (.c n t wr sp)) w' ∧ VRel (e.put H.nxt i) (.sl H.nxt 0 len cap) (.slice (some ⟨i.blk, i.off + 0, none⟩) len cap') := fun cap' i hi hcap =>
         ⟨Evo.keep1 hr h hl' (Nat.le_of_ble_eq_true c2) hi hb c4, .sl H.nxt 0 len cap cap' i (Emb.put_self _ _ _) hcap⟩
        cases m with
        | nil =>
         have hv' : VRel e' (.sl b 0 len cap) v' := hv
         cases hv' with
         | sl _ _ _ _ cap' i hi hcap =>
          obtain ⟨q1, q2⟩ := fin cap' i hi hcap
          exact ⟨_, _, _, rfl, q2, q1⟩
         | slq => omega
        | cons y m =>
         have hv' : VRel e' (.x (.tup (.sl b 0 len cap :: y :: m))) v' := hv
         cases hv'
         rename_i l' hl2
         cases hl2 with
         | cons hv1 hv2 =>
          cases hv1 with
          | sl _ _ _ _ cap' i hi hcap =>
           obtain ⟨q1, q2⟩ := fin cap' i hi hcap
           exact ⟨_, _, _, rfl, .tup _ _ (.cons q2 ((okL_rel h.holds hv2 c5).mono (Emb.put_ext hr.none_nxt))), q1⟩
          | slq => omega
       | _ => cases hk
     | _ => cases hk
def finish (rs : List KR) (H : AHeap) (r : Res) : ORes :=
 Res.rec (motive := fun _ => ORes) (fun en H' => optL .fail (fun l => backV l H H') (evalR rs en H')) (fun _ _ _ => .fail) (fun en H' => optL .fail (fun l => backV l H H') (evalR rs en H')) (fun v H' => .pan v (H'.withLow (minN H.low H'.low))) .fail r
def putArgs (ps : List VP) : List AV → BT AV → Option (BT AV) :=
 List.rec (motive := fun _ => List AV → BT AV → Option (BT AV)) (fun args B => List.rec (motive := fun _ => Option (BT AV)) (some B) (fun _ _ _ => none) args)
  (fun p _ ih args B => List.rec (motive := fun _ => Option (BT AV)) none (fun a as _ => ih as (p.put a B)) args) ps
def KFun.run (F : Fs) (K : KFun) (args : List AV) (H : AHeap) : ORes :=
 Option.rec (motive := fun _ => ORes) .fail (fun B => finish K.rs H (K.body.den F ⟨.nil, B⟩ (H.withLow H.nxt))) (putArgs K.ps args K.T0)
theorem putArgs_cons (p : VP) (ps : List VP) (a : AV) (as : List AV) (B : BT AV) : putArgs (p :: ps) (a :: as) B = putArgs ps as (p.put a B) := rfl
theorem putArgs_nil (B : BT AV) : putArgs [] [] B = some B := rfl
def psOk (S : BT Nat) : List VP → Nat → Bool
 | [], _ => true
 | p :: ps, i => (match p.at S with | some k => Nat.beq k i | none => false) && Nat.ble (countB i S) 1 && psOk S ps (i + 1)
theorem putArgs_rel {e : Emb} {tmps : Array Value} : ∀ (ps : List VP) (args : List AV) (args' : List Value) (i : Nat) (B B' : BT AV), psOk S ps i = true → putArgs ps args B = some B' → VRels e args args' →
  (∀ j v, args'[j]? = some v → tmps.getD (i + j) undef = v) → (∀ p t, VP.at p S = some t → VRel e (p.get B) (tmps.getD t undef)) → args.length = ps.length ∧ ∀ p t, VP.at p S = some t → VRel e (p.get B') (tmps.getD t undef)
 | [], [], args', i, B, B', _, h, _, _, hB => by cases h; exact ⟨rfl, hB⟩
 | [], _ :: _, args', i, B, B', _, h, _, _, _ => by cases h
 | _ :: _, [], args', i, B, B', _, h, _, _, _ => by cases h
 | p :: ps, a :: as, args', i, B, B', hok, h, hr, hg, hB => by
  cases hr with
  | cons hv ht =>
   rename_i v' l'
   simp only [psOk, Bool.and_eq_true, ble_tt] at hok
   obtain ⟨⟨h1, h2⟩, h3⟩ := hok
   rw [putArgs_cons] at h
   have hi : tmps.getD i undef = v' := by have := hg 0 v' (by simp); simpa using this
   have hp : p.at S = some i := by
    cases hp : p.at S with
    | none => rw [hp] at h1; cases h1
    | some k => rw [hp] at h1; rw [Nat.eq_of_beq_eq_true h1]
   have hB2 : ∀ q t, VP.at q S = some t → VRel e (q.get (p.put a B)) (tmps.getD t undef) := by
    intro q t hq
    by_cases ht' : t = i
    · subst ht'
      have := VP.uniq h2 hq hp
      subst this
      rcases VP.get_put_self a q B with hq' | hq'
      · rw [hq', hi]; exact hv
      · rw [hq']; exact .bad _
    · rcases VP.get_put a p q B with hq' | ⟨rfl, hq'⟩
      · rw [hq']; exact hB q t hq
      · rw [hp] at hq; cases hq; exact absurd rfl ht'
   obtain ⟨g1, g2⟩ := putArgs_rel ps as l' (i + 1) _ B' h3 h ht (fun j v hj => by have := hg (j + 1) v (by simpa using hj); rwa [show i + 1 + j = i + (j + 1) by omega]) hB2
   exact ⟨by simp [g1], g2⟩
def badT : BT AV → Bool
 | .lf => true
 | .nd l v r => (match v with | .x .bad => true | _ => false) && badT l && badT r
theorem badT_get : ∀ {T : BT AV}, badT T = true → ∀ p : VP, p.get T = .x .bad
 | .lf, _, p => by simp
 | .nd l v r, h, p => by
  simp only [badT, Bool.and_eq_true] at h
  obtain ⟨⟨h1, h2⟩, h3⟩ := h
  cases p with
  | top =>
   show v = _
   split at h1
   · rfl
   · cases h1
  | lft p => exact badT_get h2 p
  | rgt p => exact badT_get h3 p
def KFun.ok (P : Program) (dc : DCheck) (f : FuncId) (K : KFun) : Bool :=
 match P.funcs[f]? with
 | some fn => (fn.name != "runtime.NumGoroutine") && Nat.beq fn.ntmps K.n && Nat.ble K.ps.length K.n && psOk K.S K.ps 0 && badT K.T0 && sameL (KR.ok P K.S) K.rs fn.results.toList &&
  (match fn.body with | some c => K.body.ok P K.S K.n dc c | none => false)
 | none => false
theorem run_callFunc {P : Program} {f : FuncId} {fn : Func} (hf : P.funcs[f]? = some fn) (hn : (fn.name != "runtime.NumGoroutine") = true) {c : Code} (hb : fn.body = some c) (args : Array Value) (w : World) : (callFunc f args).run P w = .ok (.enter f args) w := by
 have h1 : ¬ fn.name = "runtime.NumGoroutine" := by simpa using hn
 simp [callFunc, program, Sem.run, hf, h1, hb]
theorem KFun.run_snd {P : Program} {F : Fs} (hF : FsOk P F) {dc : DCheck} {f : Nat} {K : KFun} (hD : DOk P K.S K.n F dc) (h : K.ok P dc f = true) (args : List AV) (H : AHeap) : FSnd P f args H (K.run F args H) := by
 unfold KFun.ok at h
 cases hf : P.funcs[f]? with
 | none => rw [hf] at h; cases h
 | some fn =>
 rw [hf] at h
 simp only [Bool.and_eq_true, ble_tt, beq_tt] at h
 obtain ⟨⟨⟨⟨⟨⟨h1, h2⟩, h3⟩, h4⟩, h5⟩, h6⟩, h7⟩ := h
 cases hb : fn.body with
 | none => rw [hb] at h7; cases h7
 | some c =>
 rw [hb] at h7
 cases hB : putArgs K.ps args K.T0 with
 | none => have : K.run F args H = .fail := by unfold KFun.run; rw [hB]
           rw [this]; trivial
 | some B =>
 have hrun : K.run F args H = finish K.rs H (K.body.den F ⟨.nil, B⟩ (H.withLow H.nxt)) := by unfold KFun.run; rw [hB]
 rw [hrun]
 have hcode := code_snd hF hD K.body c h7
 have body : ∀ r, K.body.den F ⟨.nil, B⟩ (H.withLow H.nxt) = r → r ≠ .fail → ∀ e w args', Rel P.globals.size e H w → VRels e args args' → ∀ R : Ending → World → Prop,
   (∀ X a' w', Fits P K.S K.n (DF.any []) e (H.withLow H.nxt) w r X a' w' → bodyPost P fn R X a' w') → Runs P f args'.toArray w R := by
  intro r hr0 hne e w args' hr ha R hR
  refine .inl ⟨run_callFunc hf h1 hb _ w, calls_of_wp hf hb ?_⟩
  have hlen := ha.length
  have htm : ∀ j v, args'[j]? = some v → (args'.toArray ++ Array.replicate (fn.ntmps - args'.toArray.size) undef).getD j undef = v := by
   intro j v hj
   have hlt := (List.getElem?_eq_some_iff.1 hj).1
   rw [Array.getD_eq_getD_getElem?, Array.getElem?_append_left (by simpa using hlt)]
   simp [hj]
  obtain ⟨hl, hvars⟩ := putArgs_rel (tmps := args'.toArray ++ Array.replicate (fn.ntmps - args'.toArray.size) undef) K.ps args args' 0 K.T0 B h4 hB ha (fun j v hj => by simpa using htm j v hj) (fun p t _ => by rw [badT_get h5]; exact .bad _)
  have harel : ARel K.S K.n (DF.any []) e ⟨.nil, B⟩ { tmps := args'.toArray ++ Array.replicate (fn.ntmps - args'.toArray.size) undef, defers := [] } := by
   refine ⟨?_, fun _ _ => .bad _, hvars, rfl, trivial⟩
   simp; omega
  have := hcode (DF.any []) (fun p _ => DF.any_free [] p) ⟨.nil, B⟩ (H.withLow H.nxt) (by rw [hr0]; exact hne) e w _ (hr.withLow _) harel
  rw [hr0] at this
  exact wp_mono this hR
 have back : ∀ en H' (l : List AV), evalR K.rs en H' = some l → ∀ e w, Rel P.globals.size e H w → ∀ e' a' w', ARel K.S K.n (DF.any []) e' en a' → Evo P.globals.size e (H.withLow H.nxt) w e' H' w' →
   ∃ v', (results fn a'.tmps).run P w' = .ok v' w' ∧ ∃ v0 H'' e'', backV l H H' = .v v0 H'' ∧ VRel e'' v0 v' ∧ Evo P.globals.size e H w e'' H'' w' := by
  intro en H' l hl e w hr e' a' w' ha' hev
  obtain ⟨v', q1, q2⟩ := results_run hev.rel ha' h6 hl
  exact ⟨v', q1, backV_evo hr hev q2⟩
 cases hr0 : K.body.den F ⟨.nil, B⟩ (H.withLow H.nxt) with
 | fail => trivial
 | ext id en H' => trivial
 | pan v H' =>
  intro e w args' hr ha
  refine body _ hr0 (by simp) e w args' hr ha _ ?_
  rintro X a' w' ⟨e', v', rfl, ⟨en', hd⟩, hv, hev⟩
  exact ⟨hd.defers, e', v', rfl, hv, hev.back⟩
 | nrm en H' =>
  show FSnd P f args H (optL .fail (fun l => backV l H H') (evalR K.rs en H'))
  cases hl : evalR K.rs en H' with
  | none => trivial
  | some l =>
   simp only [optL]
   have key : FSnd P f args H (backV l H H') := by
    obtain ⟨v0, H'', hb2⟩ := backV_v l H H'
    rw [hb2]
    intro e w args' hr ha
    refine body _ hr0 (by simp) e w args' hr ha _ ?_
    rintro X a' w' ⟨rfl, e', ha', hev⟩
    obtain ⟨v', q1, v1, H3, e'', q2, q3, q4⟩ := back en H' l hl e w hr e' a' w' ha' hev
    rw [hb2] at q2; cases q2
    exact ⟨ha'.defers, v', q1, e'', v', rfl, q3, q4⟩
   exact key
 | ret en H' =>
  show FSnd P f args H (optL .fail (fun l => backV l H H') (evalR K.rs en H'))
  cases hl : evalR K.rs en H' with
  | none => trivial
  | some l =>
   simp only [optL]
   have key : FSnd P f args H (backV l H H') := by
    obtain ⟨v0, H'', hb2⟩ := backV_v l H H'
    rw [hb2]
    intro e w args' hr ha
    refine body _ hr0 (by simp) e w args' hr ha _ ?_
    rintro X a' w' ⟨rfl, e', ha', hev⟩
    obtain ⟨v', q1, v1, H3, e'', q2, q3, q4⟩ := back en H' l hl e w hr e' a' w' ha' hev
    rw [hb2] at q2; cases q2
    exact ⟨ha'.defers, v', q1, e'', v', rfl, q3, q4⟩
   exact key
def rgBs (x : AX) (f : Nat → Nat → Nat → Bool) : Bool := AX.casesOn (motive_1 := fun _ => Bool) x false false false false false false (fun _ => false) (fun _ _ _ => false) (fun _ _ => false) (fun _ => false) (fun _ => false) (fun _ => false) (fun _ _ => false) f (fun _ _ _ => false)
def eqRg (x y : AX) : Bool := rgBs x fun k lo hi => rgBs y fun k2 lo2 hi2 => bif' false (bif' false (Nat.beq hi hi2) (Nat.beq lo lo2)) (Nat.beq k k2)
def eqA (v u : AV) : Bool :=
 AVp.rec (motive := fun _ => Bool) (fun k n => avI false (fun k2 n2 => bif' false (Nat.beq n n2) (Nat.beq k k2)) u) (fun b => avB false (fun c => bEq b c) u) (fun l c => avS false (fun l2 c2 => bif' false (Nat.beq c c2) (Nat.beq l l2)) u)
  (fun _ _ => false) (fun _ _ _ _ => false) (fun x => avX false (fun y => eqRg x y) u) v
theorem bif_tt {a b : Bool} (h : bif' false a b = true) : a = true ∧ b = true := by
 cases b with
 | true => exact ⟨h, rfl⟩
 | false => cases h
theorem eqA_eq {v u : AV} (h : eqA v u = true) : v = u := by
 cases v with
 | i k n =>
  cases u with
  | i k2 n2 =>
   obtain ⟨h1, h2⟩ := bif_tt (show bif' false (Nat.beq n n2) (Nat.beq k k2) = true from h)
   rw [Nat.eq_of_beq_eq_true h1, Nat.eq_of_beq_eq_true h2]
  | _ => cases h
 | b t =>
  cases u with
  | b t2 =>
   have h1 : bEq t t2 = true := h
   rw [bEq_eq] at h1
   rw [eq_of_beq h1]
  | _ => cases h
 | s l c =>
  cases u with
  | s l2 c2 =>
   obtain ⟨h1, h2⟩ := bif_tt (show bif' false (Nat.beq c c2) (Nat.beq l l2) = true from h)
   rw [Nat.eq_of_beq_eq_true h1, Nat.eq_of_beq_eq_true h2]
  | _ => cases h
 | x x =>
  cases u with
  | x y =>
   cases x with
   | rg k lo hi =>
    cases y with
    | rg k2 lo2 hi2 =>
     obtain ⟨h1, h2⟩ := bif_tt (show bif' false (bif' false (Nat.beq hi hi2) (Nat.beq lo lo2)) (Nat.beq k k2) = true from h)
     obtain ⟨h3, h4⟩ := bif_tt h1
     rw [Nat.eq_of_beq_eq_true h2, Nat.eq_of_beq_eq_true h3, Nat.eq_of_beq_eq_true h4]
    | _ => cases h
   | _ => cases h
  | _ => cases h
 | _ => cases h
def eqAs (l : List AV) : List AV → Bool :=
 List.rec (motive := fun _ => List AV → Bool) (fun m => List.rec (motive := fun _ => Bool) true (fun _ _ _ => false) m) (fun v _ ih m => List.rec (motive := fun _ => Bool) false (fun u m _ => bif' false (ih m) (eqA v u)) m) l
theorem eqAs_eq : ∀ {l m : List AV}, eqAs l m = true → l = m
 | [], [], _ => rfl
 | [], _ :: _, h => by cases h
 | _ :: _, [], h => by cases h
 | v :: l, u :: m, h => by
  obtain ⟨h1, h2⟩ := bif_tt (show bif' false (eqAs l m) (eqA v u) = true from h)
  rw [eqA_eq h2, eqAs_eq h1]
def lookM (rows : List (List AV × AV)) (args : List AV) : Option AV :=
 List.rec (motive := fun _ => Option AV) none (fun r _ ih => Bool.rec (motive := fun _ => Option AV) ih (some r.2) (eqAs r.1 args)) rows
theorem lookM_spec : ∀ {rows : List (List AV × AV)} {args : List AV} {v : AV}, lookM rows args = some v → (args, v) ∈ rows
 | [], _, _, h => by cases h
 | r :: rows, args, v, h => by
  have he : lookM (r :: rows) args = Bool.rec (motive := fun _ => Option AV) (lookM rows args) (some r.2) (eqAs r.1 args) := rfl
  rw [he] at h
  cases hc : eqAs r.1 args with
  | true =>
   rw [hc] at h
   have h1 := eqAs_eq hc
   cases h
   rw [← h1]
   exact List.mem_cons_self
  | false => rw [hc] at h; exact List.mem_cons_of_mem _ (lookM_spec h)
def E0 : Env := ⟨.nil, .lf⟩
def gN (_ _ _ _ : Nat) : Option AV := none
abbrev CE := Fs → Env → AHeap → Res
abbrev C0 := Fs → Loc → BT AV → AHeap → Res
abbrev C1 := Fs → Loc → BT AV → AHeap → AV → Res
abbrev C2 := Fs → Loc → BT AV → AHeap → AV → AV → Res
abbrev C3 := Fs → Loc → BT AV → AHeap → AV → AV → AV → Res
abbrev C4 := Fs → Loc → BT AV → AHeap → AV → AV → AV → AV → Res
abbrev C5 := Fs → Loc → BT AV → AHeap → AV → AV → AV → AV → AV → Res
abbrev C6 := Fs → Loc → BT AV → AHeap → AV → AV → AV → AV → AV → AV → Res
abbrev C7 := Fs → Loc → BT AV → AHeap → AV → AV → AV → AV → AV → AV → AV → Res
abbrev C8 := Fs → Loc → BT AV → AHeap → AV → AV → AV → AV → AV → AV → AV → AV → Res
def cSeq (a b : CE) : CE := fun F en H => rSeq (a F en H) (b F)
def cCond (c : Env → AV) (a b : CE) : CE := fun F en H => avB .fail (fun t => Bool.rec (motive := fun _ => Res) (b F en H) (a F en H) t) (c en)
def cBlock (id : Nat) (a : CE) : CE := fun F en H => rBlock id (a F en H)
def cLoop (a : CE) : CE := fun F => loopN (a F) 1000000
def cReg (a : C0) : CE := fun F en H => a F .nil en.B H
def cDreg (l : List KD) : CE := fun F en H => runDG F l (guessD F l ⟨.nil, en.B⟩ H) ⟨.nil, en.B⟩ H
def cRun (l : List KE) : CE := fun F en H => runE F l ⟨.nil, en.B⟩ H
def cSkip : CE := fun _ => Res.nrm
def cRet : CE := fun _ => Res.ret
def cExit (id : Nat) : CE := fun _ => Res.ext id
def cEnd : C0 := fun _ L B H => Res.nrm ⟨L, B⟩ H
def oB (p : VP) (B : BT AV) (_ : Env) : AV := p.get B
def gK (H : AHeap) (r : ORes) (b : Bool) (c : AV) (K : AV → AHeap → Res) : Res := gRun (K undefA H) (oRes r K) b c
def jAdd := opBinG 3 (iAdd 3 18446744073709551616) (gAdd 3 18446744073709551616)
def jSub := opBinG 3 (iSub 3 18446744073709551616) (gSub 3 18446744073709551616)
def jEq := opBinG 3 iEq (gEq false)
def jNe := opBinG 3 iNe (gEq true)
def jLt := opBinG 3 (iLt 18446744073709551616 9223372036854775808) (gLt 18446744073709551616 9223372036854775808)
def jLe := opBinG 3 (iLe 18446744073709551616 9223372036854775808) (gLe 18446744073709551616 9223372036854775808)
def jGt := opBinG 3 (fun n m => iLt 18446744073709551616 9223372036854775808 m n) (fun a b c d => gLt 18446744073709551616 9223372036854775808 c d a b)
def jGe := opBinG 3 (fun n m => iLe 18446744073709551616 9223372036854775808 m n) (fun a b c d => gLe 18446744073709551616 9223372036854775808 c d a b)
def nC (a : AV) (H : AHeap) : ORes := opNilCheck (oC a) E0 H
def l1 (a : AV) (H : AHeap) : ORes := opLoad1 (oC a) E0 H
def bX (a : AV) (H : AHeap) : ORes := opBox (oC a) E0 H
def fA (n : Nat) (a : AV) (H : AHeap) : ORes := opFieldAddr n (oC a) E0 H
def lN (n : Nat) (a : AV) (H : AHeap) : ORes := opLoadN n (oC a) E0 H
def eX (n : Nat) (a : AV) (H : AHeap) : ORes := opExtract n (oC a) E0 H
def f1 (n : Nat) (a : AV) (H : AHeap) : ORes := opField1 n (oC a) E0 H
def lE (n : Nat) (a : AV) (H : AHeap) : ORes := opLen n (oC a) E0 H
def iA (n : Nat) (a b : AV) (H : AHeap) : ORes := opIndexAddr n (oC a) (oC b) E0 H
def sT (n : Nat) (a b : AV) (H : AHeap) : ORes := opStore n (oC a) (oC b) E0 H
def aP (n m : Nat) (a b : AV) (H : AHeap) : ORes := opAppendF n m (oC a) (oC b) E0 H
def aAdd (a b : AV) (H : AHeap) : ORes := jAdd (oC a) (oC b) E0 H
def aSub (a b : AV) (H : AHeap) : ORes := jSub (oC a) (oC b) E0 H
def aEq (a b : AV) (H : AHeap) : ORes := jEq (oC a) (oC b) E0 H
def aNe (a b : AV) (H : AHeap) : ORes := jNe (oC a) (oC b) E0 H
def aLt (a b : AV) (H : AHeap) : ORes := jLt (oC a) (oC b) E0 H
def aLe (a b : AV) (H : AHeap) : ORes := jLe (oC a) (oC b) E0 H
def aGt (a b : AV) (H : AHeap) : ORes := jGt (oC a) (oC b) E0 H
def aGe (a b : AV) (H : AHeap) : ORes := jGe (oC a) (oC b) E0 H
def uN (f : AV → Option AV) (a : AV) (H : AHeap) : ORes := opUn f (oC a) E0 H
def n1 (K : C1) (d : Nat) (F : Fs) (L : Loc) (B : BT AV) (v : AV) (H : AHeap) : Res := K F (.cons d v L) B H v
def m0 (K : C0) (d : Nat) (F : Fs) (L : Loc) (B : BT AV) (v : AV) (H : AHeap) : Res := K F (.cons d v L) B H 
def p0 (K : C0) (p : VP) (F : Fs) (L : Loc) (B : BT AV) (v : AV) (H : AHeap) : Res := K F L (VP.put p v B) H 
def z0 (K : C0) (F : Fs) (L : Loc) (B : BT AV) (_ : AV) (H : AHeap) : Res := K F L B H 
def n2 (K : C2) (d : Nat) (x0 : AV) (F : Fs) (L : Loc) (B : BT AV) (v : AV) (H : AHeap) : Res := K F (.cons d v L) B H x0 v
def m1 (K : C1) (d : Nat) (x0 : AV) (F : Fs) (L : Loc) (B : BT AV) (v : AV) (H : AHeap) : Res := K F (.cons d v L) B H x0
def p1 (K : C1) (p : VP) (x0 : AV) (F : Fs) (L : Loc) (B : BT AV) (v : AV) (H : AHeap) : Res := K F L (VP.put p v B) H x0
def z1 (K : C1) (x0 : AV) (F : Fs) (L : Loc) (B : BT AV) (_ : AV) (H : AHeap) : Res := K F L B H x0
def n3 (K : C3) (d : Nat) (x0 x1 : AV) (F : Fs) (L : Loc) (B : BT AV) (v : AV) (H : AHeap) : Res := K F (.cons d v L) B H x0 x1 v
def m2 (K : C2) (d : Nat) (x0 x1 : AV) (F : Fs) (L : Loc) (B : BT AV) (v : AV) (H : AHeap) : Res := K F (.cons d v L) B H x0 x1
def p2 (K : C2) (p : VP) (x0 x1 : AV) (F : Fs) (L : Loc) (B : BT AV) (v : AV) (H : AHeap) : Res := K F L (VP.put p v B) H x0 x1
def z2 (K : C2) (x0 x1 : AV) (F : Fs) (L : Loc) (B : BT AV) (_ : AV) (H : AHeap) : Res := K F L B H x0 x1
def n4 (K : C4) (d : Nat) (x0 x1 x2 : AV) (F : Fs) (L : Loc) (B : BT AV) (v : AV) (H : AHeap) : Res := K F (.cons d v L) B H x0 x1 x2 v
def m3 (K : C3) (d : Nat) (x0 x1 x2 : AV) (F : Fs) (L : Loc) (B : BT AV) (v : AV) (H : AHeap) : Res := K F (.cons d v L) B H x0 x1 x2
def p3 (K : C3) (p : VP) (x0 x1 x2 : AV) (F : Fs) (L : Loc) (B : BT AV) (v : AV) (H : AHeap) : Res := K F L (VP.put p v B) H x0 x1 x2
def z3 (K : C3) (x0 x1 x2 : AV) (F : Fs) (L : Loc) (B : BT AV) (_ : AV) (H : AHeap) : Res := K F L B H x0 x1 x2
def n5 (K : C5) (d : Nat) (x0 x1 x2 x3 : AV) (F : Fs) (L : Loc) (B : BT AV) (v : AV) (H : AHeap) : Res := K F (.cons d v L) B H x0 x1 x2 x3 v
def m4 (K : C4) (d : Nat) (x0 x1 x2 x3 : AV) (F : Fs) (L : Loc) (B : BT AV) (v : AV) (H : AHeap) : Res := K F (.cons d v L) B H x0 x1 x2 x3
def p4 (K : C4) (p : VP) (x0 x1 x2 x3 : AV) (F : Fs) (L : Loc) (B : BT AV) (v : AV) (H : AHeap) : Res := K F L (VP.put p v B) H x0 x1 x2 x3
def z4 (K : C4) (x0 x1 x2 x3 : AV) (F : Fs) (L : Loc) (B : BT AV) (_ : AV) (H : AHeap) : Res := K F L B H x0 x1 x2 x3
def e1 (d : Nat) (F : Fs) (L : Loc) (B : BT AV) (v : AV) (H : AHeap) : Res := cEnd F (.cons d v L) B H
def eP (p : VP) (F : Fs) (L : Loc) (B : BT AV) (v : AV) (H : AHeap) : Res := cEnd F L (VP.put p v B) H
def e0 (F : Fs) (L : Loc) (B : BT AV) (_ : AV) (H : AHeap) : Res := cEnd F L B H
def eqBT (t : BT AV) : BT AV → Bool :=
 BT.rec (motive := fun _ => BT AV → Bool) (fun u => BT.rec (motive := fun _ => Bool) true (fun _ _ _ _ _ => false) u)
  (fun _ v _ il ir u => BT.rec (motive := fun _ => Bool) false (fun l2 v2 r2 _ _ => bif' false (bif' false (ir r2) (il l2)) (eqA v v2)) u) t
theorem eqBT_eq : ∀ {t u : BT AV}, eqBT t u = true → t = u
 | .lf, .lf, _ => rfl
 | .lf, .nd _ _ _, h => by cases h
 | .nd _ _ _, .lf, h => by cases h
 | .nd l v r, .nd l2 v2 r2, h => by
  obtain ⟨h1, h2⟩ := bif_tt (show bif' false (bif' false (eqBT r r2) (eqBT l l2)) (eqA v v2) = true from h)
  obtain ⟨h3, h4⟩ := bif_tt h1
  rw [eqA_eq h2, eqBT_eq h3, eqBT_eq h4]
def eqBlk (x : ABlk) (y : Option ABlk) : Bool :=
 Option.rec (motive := fun _ => Bool) false (fun y => ABlk.rec (motive := fun _ => ABlk → Bool)
  (fun n t w sp y => ABlk.rec (motive := fun _ => Bool) (fun n2 t2 w2 sp2 => bif' false (bif' false (bif' false (eqBT t t2) (Nat.beq sp sp2)) (bEq w w2)) (Nat.beq n n2)) (fun _ => false) false y) (fun _ _ => false)
  (fun y => ABlk.rec (motive := fun _ => Bool) (fun _ _ _ _ => false) (fun _ => false) true y) x y) y
theorem eqBlk_eq {x : ABlk} {y : Option ABlk} (h : eqBlk x y = true) : y = some x := by
 cases y with
 | none => cases h
 | some y =>
  cases x with
  | c n t w sp =>
   cases y with
   | c n2 t2 w2 sp2 =>
    obtain ⟨h1, h2⟩ := bif_tt (show bif' false (bif' false (bif' false (eqBT t t2) (Nat.beq sp sp2)) (bEq w w2)) (Nat.beq n n2) = true from h)
    obtain ⟨h3, h4⟩ := bif_tt h1
    obtain ⟨h5, h6⟩ := bif_tt h3
    rw [bEq_eq] at h4
    rw [Nat.eq_of_beq_eq_true h2, eq_of_beq h4, eqBT_eq h5, Nat.eq_of_beq_eq_true h6]
   | _ => cases h
  | m es => cases h
  | dead => cases y <;> first | rfl | cases h
def sameG (bs : List ABlk) (H : AHeap) : Nat → Bool := List.rec (motive := fun _ => Nat → Bool) (fun _ => true) (fun x _ ih i => bif' false (ih (Nat.add i 1)) (eqBlk x (H.get i))) bs
theorem sameG_spec {H : AHeap} : ∀ {bs : List ABlk} {i : Nat}, sameG bs H i = true → ∀ b x, bs[b]? = some x → H.get (i + b) = some x
 | [], _, _, b, x, h => by simp at h
 | y :: bs, i, hs, b, x, h => by
  obtain ⟨h1, h2⟩ := bif_tt (show bif' false (sameG bs H (i + 1)) (eqBlk y (H.get i)) = true from hs)
  cases b with
  | zero => simp at h; subst h; exact eqBlk_eq h2
  | succ b =>
   have := sameG_spec h1 b x (by simpa using h)
   rwa [show i + (b + 1) = i + 1 + b by omega]
inductive NRes where
 | plain (l : List AV)
 | sli (len cap n : Nat) (t : BT AV) (w : Bool) (sp : Nat)
def plainBT (t : BT AV) : Bool := BT.rec (motive := fun _ => Bool) true (fun _ v _ il ir => bif' false (bif' false ir il) (plainA v)) t
theorem plainBT_get : ∀ {t : BT AV} {k : Nat} {v : AV}, plainBT t = true → t.get k = some v → plainA v = true
 | .lf, k, v, _, h => by simp at h
 | .nd l u r, k, v, hp, h => by
  obtain ⟨h1, h2⟩ := bif_tt (show bif' false (bif' false (plainBT r) (plainBT l)) (plainA u) = true from hp)
  obtain ⟨h3, h4⟩ := bif_tt h1
  rw [BT.get_nd] at h
  split at h
  · cases h; exact h2
  · split at h
    · exact plainBT_get h4 h
    · exact plainBT_get h3 h
def keepB (v : AV) (H H' : AHeap) : Option NRes :=
 avSl none (fun b o len cap => blkC none (fun n t w sp => Bool.rec (motive := fun _ => Option NRes) none (some (.sli len cap n t w sp)) (bif' false (bif' false (bif' false (bif' false (okBT H t) (plainBT t)) (Nat.ble 1 len)) (Nat.ble H.nxt b)) (Nat.beq o 0))) (H'.get b)) v
def keepR (l : List AV) (H H' : AHeap) : Option NRes :=
 Bool.rec (motive := fun _ => Option NRes) none (Bool.rec (motive := fun _ => Option NRes) (List.rec (motive := fun _ => Option NRes) none (fun v m _ => List.rec (motive := fun _ => Option NRes) (keepB v H H') (fun _ _ _ => none) m) l) (some (.plain l)) (plainL l)) (Nat.ble H.nxt H'.low)
def NRes.out (r : NRes) (H : AHeap) : AV × AHeap := NRes.rec (motive := fun _ => AV × AHeap) (fun l => (packA l, H)) (fun len cap n t w sp => (.sl H.nxt 0 len cap, H.alloc (.c n t w sp))) r
theorem keepR_evo {G : Nat} {e e' : Emb} {H H' : AHeap} {w w' : World} {l : List AV} {r : NRes} {v' : Value} (hk : keepR l H H' = some r) (hr : Rel G e H w) (h : Evo G e (H.withLow H.nxt) w e' H' w') (hv : VRel e' (packA l) v') :
  ∃ e'', VRel e'' (r.out H).1 v' ∧ Evo G e H w e'' (r.out H).2 w' := by
 unfold keepR at hk
 cases hl : Nat.ble H.nxt H'.low with
 | false => rw [hl] at hk; cases hk
 | true =>
  rw [hl] at hk
  have hl' : H.nxt ≤ H'.low := Nat.le_of_ble_eq_true hl
  cases hp : plainL l with
  | true =>
   rw [hp] at hk
   cases hk
   exact ⟨e, packA_plain hv hp, h.forget hr hl'⟩
  | false =>
   rw [hp] at hk
   cases l with
   | nil => cases hk
   | cons v m =>
    cases m with
    | cons => cases hk
    | nil =>
     have hk' : keepB v H H' = some r := hk
     unfold keepB at hk'
     cases v with
     | sl b o len cap =>
      simp only [avSl] at hk'
      cases hb : H'.get b with
      | none => rw [hb] at hk'; cases hk'
      | some x =>
       rw [hb] at hk'
       cases x with
       | c n t wr sp =>
        simp only [blkC] at hk'
        cases hc : bif' false (bif' false (bif' false (bif' false (okBT H t) (plainBT t)) (Nat.ble 1 len)) (Nat.ble H.nxt b)) (Nat.beq o 0) with
        | false => rw [hc] at hk'; cases hk'
        | true =>
         rw [hc] at hk'
         cases hk'
         obtain ⟨c1, c2⟩ := bif_tt hc
         obtain ⟨c3, c4⟩ := bif_tt c1
         obtain ⟨c55, c6⟩ := bif_tt c3
         obtain ⟨c5, c77⟩ := bif_tt c55
         have := Nat.eq_of_beq_eq_true c2
         subst this
         have hlen : 1 ≤ len := Nat.le_of_ble_eq_true c6
         have hv' : VRel e' (.sl b 0 len cap) v' := hv
         cases hv' with
         | sl _ _ _ _ cap' i hi hcap => exact ⟨_, .sl H.nxt 0 len cap cap' i (Emb.put_self _ _ _) hcap, Evo.keep1 hr h hl' (Nat.le_of_ble_eq_true c4) hi hb c5⟩
         | slq => omega
       | _ => cases hk'
     | _ => cases hk'
def NRes.same (x y : NRes) : Bool :=
 NRes.rec (motive := fun _ => NRes → Bool) (fun l y => NRes.rec (motive := fun _ => Bool) (fun m => eqAs l m) (fun _ _ _ _ _ _ => false) y)
  (fun len cap n t w sp y => NRes.rec (motive := fun _ => Bool) (fun _ => false) (fun len2 cap2 n2 t2 w2 sp2 => bif' false (bif' false (eqBlk (.c n t w sp) (some (.c n2 t2 w2 sp2))) (Nat.beq cap cap2)) (Nat.beq len len2)) y) x y
theorem NRes.same_eq {x y : NRes} (h : x.same y = true) : x = y := by
 cases x with
 | plain l =>
  cases y with
  | plain m => have h' : eqAs l m = true := h; rw [eqAs_eq h']
  | sli => cases h
 | sli len cap n t w sp =>
  cases y with
  | plain => cases h
  | sli len2 cap2 n2 t2 w2 sp2 =>
   obtain ⟨h1, h2⟩ := bif_tt (show bif' false (bif' false (eqBlk (.c n t w sp) (some (.c n2 t2 w2 sp2))) (Nat.beq cap cap2)) (Nat.beq len len2) = true from h)
   obtain ⟨h3, h4⟩ := bif_tt h1
   have h5 := eqBlk_eq h3
   cases h5
   rw [Nat.eq_of_beq_eq_true h2, Nat.eq_of_beq_eq_true h4]
def finN (rs : List KR) (H : AHeap) (r : Res) : Option NRes :=
 Res.rec (motive := fun _ => Option NRes) (fun en H' => optL none (fun l => keepR l H H') (evalR rs en H')) (fun _ _ _ => none) (fun en H' => optL none (fun l => keepR l H H') (evalR rs en H')) (fun _ _ => none) none r
def sameN (rs : List KR) (H : AHeap) (a : NRes) (l : List Res) : Bool := List.rec (motive := fun _ => Bool) true (fun r _ ih => bif' false ih (Option.rec (motive := fun _ => Bool) false (fun b => a.same b) (finN rs H r))) l
def uniteN (rs : List KR) (H : AHeap) (l : List Res) : Option NRes :=
 List.rec (motive := fun _ => Option NRes) none (fun r m _ => Option.rec (motive := fun _ => Option NRes) none (fun a => Bool.rec (motive := fun _ => Option NRes) none (some a) (sameN rs H a m)) (finN rs H r)) l
theorem sameN_spec {rs : List KR} {H : AHeap} {a : NRes} : ∀ {l : List Res}, sameN rs H a l = true → ∀ r ∈ l, finN rs H r = some a
 | q :: l, h, r, hr => by
  obtain ⟨h1, h2⟩ := bif_tt (show bif' false (sameN rs H a l) (Option.rec (motive := fun _ => Bool) false (fun b => a.same b) (finN rs H q)) = true from h)
  rcases List.mem_cons.1 hr with rfl | hr
  · cases hf : finN rs H r with
    | none => rw [hf] at h2; cases h2
    | some b => rw [hf] at h2; rw [NRes.same_eq h2]
  · exact sameN_spec h1 r hr
theorem uniteN_spec {rs : List KR} {H : AHeap} {a : NRes} {l : List Res} (h : uniteN rs H l = some a) : ∀ r ∈ l, finN rs H r = some a := by
 cases l with
 | nil => cases h
 | cons q l =>
  have h' : Option.rec (motive := fun _ => Option NRes) none (fun a => Bool.rec (motive := fun _ => Option NRes) none (some a) (sameN rs H a l)) (finN rs H q) = some a := h
  cases hf : finN rs H q with
  | none => rw [hf] at h'; cases h'
  | some b =>
   rw [hf] at h'
   cases hs : sameN rs H b l with
   | false => simp only [hs] at h'; cases h'
   | true =>
    simp only [hs] at h'
    cases h'
    intro r hr
    rcases List.mem_cons.1 hr with rfl | hr
    · exact hf
    · exact sameN_spec hs r hr
def KFun.runN (F : Fs) (K : KFun) (N : NCode) (args : List AV) (H : AHeap) : ORes :=
 Option.rec (motive := fun _ => ORes) .fail (fun B => Option.rec (motive := fun _ => ORes) .fail (fun r => .v (r.out H).1 (r.out H).2) (uniteN K.rs H (N.den F ⟨.nil, B⟩ (H.withLow H.nxt)))) (putArgs K.ps args K.T0)
def KFun.okN (P : Program) (dc : DCheck) (f : FuncId) (K : KFun) (N : NCode) : Bool :=
 match P.funcs[f]? with
 | some fn => (fn.name != "runtime.NumGoroutine") && Nat.beq fn.ntmps K.n && Nat.ble K.ps.length K.n && psOk K.S K.ps 0 && badT K.T0 && sameL (KR.ok P K.S) K.rs fn.results.toList &&
  (match fn.body with | some c => N.ok P K.S K.n dc c | none => false)
 | none => false
theorem KFun.runN_snd {P : Program} {F : Fs} (hF : FsOk P F) {dc : DCheck} {f : Nat} {K : KFun} {N : NCode} (hD : DOk P K.S K.n F dc) (h : K.okN P dc f N = true) (args : List AV) (H : AHeap) : FSnd P f args H (K.runN F N args H) := by
 unfold KFun.okN at h
 cases hf : P.funcs[f]? with
 | none => rw [hf] at h; cases h
 | some fn =>
 rw [hf] at h
 simp only [Bool.and_eq_true, ble_tt, beq_tt] at h
 obtain ⟨⟨⟨⟨⟨⟨h1, h2⟩, h3⟩, h4⟩, h5⟩, h6⟩, h7⟩ := h
 cases hb : fn.body with
 | none => rw [hb] at h7; cases h7
 | some c =>
 rw [hb] at h7
 cases hB : putArgs K.ps args K.T0 with
 | none => have : K.runN F N args H = .fail := by unfold KFun.runN; rw [hB]
           rw [this]; trivial
 | some B =>
 cases hu : uniteN K.rs H (N.den F ⟨.nil, B⟩ (H.withLow H.nxt)) with
 | none => have : K.runN F N args H = .fail := by unfold KFun.runN; rw [hB]; simp only [hu]
           rw [this]; trivial
 | some r0 =>
 have hrun : K.runN F N args H = .v (r0.out H).1 (r0.out H).2 := by unfold KFun.runN; rw [hB]; simp only [hu]
 rw [hrun]
 have hall := uniteN_spec hu
 intro e w args' hr ha
 refine .inl ⟨run_callFunc hf h1 hb _ w, calls_of_wp hf hb ?_⟩
 have hlen := ha.length
 have htm : ∀ j v, args'[j]? = some v → (args'.toArray ++ Array.replicate (fn.ntmps - args'.toArray.size) undef).getD j undef = v := by
  intro j v hj
  have hlt := (List.getElem?_eq_some_iff.1 hj).1
  rw [Array.getD_eq_getD_getElem?, Array.getElem?_append_left (by simpa using hlt)]
  simp [hj]
 obtain ⟨hl, hvars⟩ := putArgs_rel (tmps := args'.toArray ++ Array.replicate (fn.ntmps - args'.toArray.size) undef) K.ps args args' 0 K.T0 B h4 hB ha (fun j v hj => by simpa using htm j v hj) (fun p t _ => by rw [badT_get h5]; exact .bad _)
 have harel : ARel K.S K.n (DF.any []) e ⟨.nil, B⟩ { tmps := args'.toArray ++ Array.replicate (fn.ntmps - args'.toArray.size) undef, defers := [] } := by
  refine ⟨?_, fun _ _ => .bad _, hvars, rfl, trivial⟩
  simp; omega
 have hno : ∀ r ∈ N.den F ⟨.nil, B⟩ (H.withLow H.nxt), r ≠ .fail := by
  rintro r hr rfl
  have := hall _ hr
  cases this
 refine wp_mono (ncode_snd hF hD N c h7 (DF.any []) (DF.any_free _) ⟨.nil, B⟩ (H.withLow H.nxt) hno e w _ (hr.withLow _) harel) ?_
 rintro X a' w' ⟨r, hrm, hfit⟩
 have hfin := hall r hrm
 have fin : ∀ en H' (hq : optL none (fun l => keepR l H H') (evalR K.rs en H') = some r0), (∃ e', ARel K.S K.n (DF.any []) e' en a' ∧ Evo P.globals.size e (H.withLow H.nxt) w e' H' w') →
   a'.defers = [] ∧ ∃ v, (results fn a'.tmps).run P w' = .ok v w' ∧ ∃ e' v', Ending.returned v = .returned v' ∧ VRel e' (r0.out H).1 v' ∧ Evo P.globals.size e H w e' (r0.out H).2 w' := by
  rintro en H' hq ⟨e', ha', hev⟩
  cases hl : evalR K.rs en H' with
  | none => rw [hl] at hq; cases hq
  | some l =>
   rw [hl] at hq
   obtain ⟨v', q1, q2⟩ := results_run hev.rel ha' h6 hl
   obtain ⟨e'', q3, q4⟩ := keepR_evo hq hr hev q2
   exact ⟨ha'.defers, v', q1, e'', v', rfl, q3, q4⟩
 cases r with
 | nrm en H' =>
  obtain ⟨rfl, hx⟩ := hfit
  exact fin en H' hfin hx
 | ret en H' =>
  obtain ⟨rfl, hx⟩ := hfit
  exact fin en H' hfin hx
 | _ => cases hfin
end
end Go.Ab
namespace Go.Ab
open Go
theorem Oper.wp_mono3 {P : Program} {o : Oper} {a : Act} {w : World} {K K' : Act → World → Prop} {Q Q' : Exit → Act → World → Prop} (h : ∀ a w, K a w → K' a w) (hq : ∀ c a w, Q (.panic c) a w → Q' (.panic c) a w) (ho : LetsOut Q → LetsOut Q')
  (hw : o.wp P a w K Q) : o.wp P a w K' Q' := by
 unfold Oper.wp at hw ⊢
 revert hw
 generalize (execOp a.eval o).run P w = R
 intro hw
 cases R with
 | ok nx w' =>
  cases nx <;> simp only [Oper.upon] at hw ⊢ <;> first
   | exact h _ _ hw
   | exact Calls.mono hw fun E w'' hE => by
      cases E with
      | returned u => exact h _ _ hE
      | panicked c => exact hq _ _ _ hE
      | outgrown => exact ho hE
   | exact Rows.mono hw fun _ _ hE => h _ _ hE
 | halt x w' =>
  cases x <;> simp only [Oper.upon] at hw ⊢
  exact hq _ _ _ hw
theorem wpOps_append {P : Program} {ops : Array Oper} {Q : Exit → Act → World → Prop} {l2 : List Nat} : ∀ (l1 : List Nat) (a : Act) (w : World), wpOps P ops (Exit.then (wpOps P ops Q l2) Q) l1 a w → wpOps P ops Q (l1 ++ l2) a w
 | [], a, w, h => h
 | i :: l1, a, w, h => by
  simp only [wpOps, List.cons_append] at h ⊢
  cases ho : ops[i]? with
  | none => rw [ho] at h; exact wpOps_append l1 a w h
  | some o =>
   rw [ho] at h
   simp only at h ⊢
   split
   · rename_i hw
     rw [if_pos hw] at h
     rcases h with h | ⟨h1, a1, w1, h2⟩
     · exact .inl (Oper.wp_mono3 (fun a w h => wpOps_append l1 a w h) (fun _ _ _ h => h) (fun ⟨a, w, h⟩ => ⟨a, w, h⟩) h)
     · exact .inr ⟨h1, a1, w1, h2⟩
   · rename_i hw
     rw [if_neg hw] at h
     exact wpOps_append l1 _ w h
variable {S : BT Nat}
theorem ARel.putE {P : Program} {n : Nat} {ops : Array Oper} {x : KE} {o : Oper} (h : x.ok P S n ops o = true) {D : DF} (hfree : ∀ p, D.free p) {e e' : Emb} {en : Env} {a : Act} (ha : ARel S n D e en a) (hext : ∀ b i, e b = some i → e' b = some i) {v : AV} {v' : Value} (hv : VRel e' v v') :
  ARel S n D e' (x.put v en) (a.put o.dst v') := by
 refine arel_slot ?_ ?_ (KE.put_K (fun q _ => hfree q) ha.kept v) fun y t hy => ?_
 · rw [← ha.size]; cases o.dst <;> simp [Act.put]
 · rw [← ha.defers]; cases o.dst <;> rfl
 · by_cases hd : o.dst = some t
   · obtain ⟨q1, q2⟩ := KE.put_hit h hy hd hv en
     rw [hd, getD_put_self ha.size q2]; exact q1
   · have : (a.put o.dst v').tmps.getD t undef = a.tmps.getD t undef := by
       cases hod : o.dst with
       | none => rfl
       | some u => exact getD_put_ne (fun h => hd (by rw [hod, h])) v'
     rw [this, KE.put_same h hy hd]
     exact (slot_arel ha hy).mono hext
theorem wpOpsS_of {P : Program} {ops : Array Oper} {cs : List Frame} {Q' : Exit → Act → World → Prop} {Q : Exit → Act → List Frame → World → Prop} (hno : ∀ a w, ¬ Q' .outgrown a w) (hq : ∀ e a w, Q' e a w → Q e a cs w) :
  ∀ (l : List Nat) (a : Act) (w : World), wpOps P ops Q' l a w → wpOpsS P ops Q l a cs w
 | [], a, w, h => hq _ _ _ h
 | i :: l, a, w, h => by
  simp only [wpOps, wpOpsS] at h ⊢
  cases ho : ops[i]? with
  | none => rw [ho] at h; exact wpOpsS_of hno hq l a w h
  | some o =>
   rw [ho] at h
   simp only at h ⊢
   by_cases hw : Region.wanted o (yielded ops a.tmps) = true
   · rw [if_pos hw] at h
     rw [if_pos hw]
     rcases h with h | ⟨_, a1, w1, h2⟩
     · unfold Oper.wp at h
       split
       · rename_i w' hr
         rw [hr] at h
         simp only [Oper.upon] at h
       · have h3 : o.wp P a w (fun a' w' => wpOpsS P ops Q l a' cs w') (fun e a' w' => Q e a' cs w') :=
           Oper.wp_mono3 (fun a w h => wpOpsS_of hno hq l a w h) (fun _ _ _ h => hq _ _ _ h) (fun ⟨a, w, h⟩ => (hno a w h).elim) h
         exact h3
     · exact (hno a1 w1 h2).elim
   · rw [if_neg hw] at h
     rw [if_neg hw]
     exact wpOpsS_of hno hq l _ w h
end Go.Ab
namespace Go.Ab
open Go
structure KRec where
 x0 : KE
 K : KFun
structure KDefn where
 c0 : List KCode
 t : Nat
 g : Nat
 caps : List KO
 K : KFun
 R : KRec
noncomputable section
def resH (r : Res) : Option AHeap := Res.rec (motive := fun _ => Option AHeap) (fun _ H => some H) (fun _ _ _ => none) (fun _ H => some H) (fun _ _ => none) none r
def recRun (F : Fs) (R : KRec) (cap : List AV) (v : AV) (H : AHeap) : Option AHeap :=
 Option.rec (motive := fun _ => Option AHeap) none (fun B => resH (R.K.body.den F (R.x0.put v ⟨.nil, B⟩) H)) (putArgs R.K.ps cap R.K.T0)
def optHp (o : Option AHeap) (f : AHeap → ORes) : ORes := Option.rec (motive := fun _ => ORes) .fail f o
def finD (F : Fs) (Dn : KDefn) (H : AHeap) (en1 : Env) (cap : List AV) (r : Res) : ORes :=
 Res.rec (motive := fun _ => ORes) (fun en2 H2 => optHp (recRun F Dn.R cap (.x .nili) H2) fun H3 => optL .fail (fun l => backV l H H3) (evalR Dn.K.rs en2 H3))
  (fun _ _ _ => .fail)
  (fun en2 H2 => optHp (recRun F Dn.R cap (.x .nili) H2) fun H3 => optL .fail (fun l => backV l H H3) (evalR Dn.K.rs en2 H3))
  (fun v H2 => optHp (recRun F Dn.R cap v H2) fun H3 => optL .fail (fun l => backV l H H3) (evalR Dn.K.rs en1 H3))
  .fail r
def denL (F : Fs) (l : List KCode) : Env → AHeap → Res := List.rec (motive := fun _ => Env → AHeap → Res) .nrm (fun k _ ih en H => rSeq (k.den F en H) ih) l
def KDefn.run (F : Fs) (Dn : KDefn) (args : List AV) (H : AHeap) : ORes :=
 Option.rec (motive := fun _ => ORes) .fail (fun B =>
  Res.rec (motive := fun _ => ORes) (fun en1 H1 => finD F Dn H ⟨.nil, en1.B⟩ (evalL (KO.dens Dn.caps) ⟨.nil, en1.B⟩) (Dn.K.body.den F ⟨.nil, en1.B⟩ H1)) (fun _ _ _ => .fail) (fun en1 H1 => optL .fail (fun l => backV l H H1) (evalR Dn.K.rs en1 H1)) (fun _ _ => .fail) .fail
   (denL F Dn.c0 ⟨.nil, B⟩ (H.withLow H.nxt))) (putArgs Dn.K.ps args Dn.K.T0)
def vpEq : VP → VP → Bool
 | .top, .top => true
 | .lft p, .lft q => vpEq p q
 | .rgt p, .rgt q => vpEq p q
 | _, _ => false
theorem vpEq_refl : ∀ p : VP, vpEq p p = true
 | .top => rfl
 | .lft p => vpEq_refl p
 | .rgt p => vpEq_refl p
def kpOf : List KR → Option (List VP)
 | [] => some []
 | .c1 (.va p) :: l | .cN _ (.va p) :: l => (kpOf l).map (p :: ·)
 | _ :: _ => none
def KE.noW (kp : List VP) (x : KE) : Bool := match x with | .p d _ | .gp _ _ d _ => kp.all fun q => !vpEq d q | _ => true
def KCode.noW (kp : List VP) : KCode → Bool
 | .reg l => l.all (KE.noW kp)
 | .dreg l => l.all fun d => d.x.noW kp
 | .seq a b | .cond _ a b => KCode.noW kp a && KCode.noW kp b
 | .block _ a | .loop a => KCode.noW kp a
 | _ => true
theorem KE.noW_spec {kp : List VP} {x : KE} (h : x.noW kp = true) {q : VP} (hq : x.wr q) : q ∉ kp := by
 intro hm
 cases x with
 | p d k =>
  have hq : d = q := hq
  subst hq
  have := List.all_eq_true.1 h d hm
  rw [vpEq_refl] at this; cases this
 | gp c b d k =>
  have hq : d = q := hq
  subst hq
  have := List.all_eq_true.1 h d hm
  rw [vpEq_refl] at this; cases this
 | _ => exact hq.elim
theorem KCode.noW_spec {kp : List VP} : ∀ {c : KCode}, c.noW kp = true → ∀ {q : VP}, c.wr q → q ∉ kp
 | .reg l, h, q, ⟨x, hx, hq⟩ => KE.noW_spec (List.all_eq_true.1 h x hx) hq
 | .dreg l, h, q, ⟨d, hd, hq⟩ => KE.noW_spec (List.all_eq_true.1 h d hd) hq
 | .seq a b, h, q, hq => by
  simp only [KCode.noW, Bool.and_eq_true] at h
  rcases hq with hq | hq
  · exact KCode.noW_spec h.1 hq
  · exact KCode.noW_spec h.2 hq
 | .cond _ a b, h, q, hq => by
  simp only [KCode.noW, Bool.and_eq_true] at h
  rcases hq with hq | hq
  · exact KCode.noW_spec h.1 hq
  · exact KCode.noW_spec h.2 hq
 | .block _ a, h, q, hq => KCode.noW_spec (c := a) h hq
 | .loop a, h, q, hq => KCode.noW_spec (c := a) h hq
 | .skip, _, _, hq | .exit _, _, _, hq | .ret, _, _, hq | .unk, _, _, hq => hq.elim
def KRec.ok (P : Program) (dc : DCheck) (R : KRec) (g : FuncId) : Bool :=
 match P.funcs[g]? with
 | some fn => (fn.name != "runtime.NumGoroutine") && Nat.beq fn.ntmps R.K.n && Nat.ble R.K.ps.length R.K.n && psOk R.K.S R.K.ps 0 && badT R.K.T0 && fn.results.toList.isEmpty &&
  (match fn.body with
   | some (.seq (.region _ ⟨[o0]⟩ false) y) => (match o0.op with | .call { callee := .builtin .recover, args := _, argTypes := _ } => true | _ => false) && o0.guard.isNone && R.x0.ok P R.K.S R.K.n ⟨[o0]⟩ o0 && R.K.body.ok P R.K.S R.K.n dc y
   | _ => false)
 | none => false
def okPre (P : Program) (S : BT Nat) (n : Nat) (dc : DCheck) : List KCode → Code → Option Code
 | [], c => some c
 | k :: l, .seq a b => if k.ok P S n dc a = true then okPre P S n dc l b else none
 | _ :: _, _ => none
def KDefn.ok (P : Program) (dc : DCheck) (f : FuncId) (Dn : KDefn) : Bool :=
 match P.funcs[f]? with
 | some fn => (fn.name != "runtime.NumGoroutine") && Nat.beq fn.ntmps Dn.K.n && Nat.ble Dn.K.ps.length Dn.K.n && psOk Dn.K.S Dn.K.ps 0 && badT Dn.K.T0 && sameL (KR.ok P Dn.K.S) Dn.K.rs fn.results.toList &&
  (match kpOf Dn.K.rs with | some kp => Dn.K.body.noW kp | none => false) && Dn.R.ok P dc Dn.g &&
  (match fn.body.bind (okPre P Dn.K.S Dn.K.n dc Dn.c0) with
   | some (.seq (.region _ ⟨[mf, df]⟩ false) y) => KE.ok P Dn.K.S Dn.K.n ⟨[mf, df]⟩ (.l Dn.t (.mkf Dn.g [] Dn.caps)) mf && df.dst.isNone && df.guard.isNone &&
    (match df.op with | .defer { callee := .value (.tmp t'), args := ⟨[]⟩, argTypes := _ } => Nat.beq t' Dn.t | _ => false) && Dn.K.body.ok P Dn.K.S Dn.K.n dc y
   | _ => false)
 | none => false
theorem KR.den_kept {rs : List KR} {kp : List VP} (h : kpOf rs = some kp) {en en2 : Env} (he : ∀ p ∈ kp, p.get en2.B = p.get en.B) (H : AHeap) : evalR rs en2 H = evalR rs en H := by
 induction rs generalizing kp with
 | nil => rfl
 | cons r rs ih =>
  have step : ∀ (p : VP) (k : List VP), kpOf rs = some k → kp = p :: k → r.den en2 H = r.den en H → evalR (r :: rs) en2 H = evalR (r :: rs) en H := by
   intro p k hk hkp hr
   have h1 := ih hk fun q hq => he q (by rw [hkp]; exact List.mem_cons_of_mem _ hq)
   show optE none (fun v => optL none (fun l => some (v :: l)) (evalR rs en2 H)) (r.den en2 H) = optE none (fun v => optL none (fun l => some (v :: l)) (evalR rs en H)) (r.den en H)
   rw [h1, hr]
  cases r with
  | one x => cases h
  | c1 x =>
   cases x with
   | va p =>
    simp only [kpOf] at h
    cases hk : kpOf rs with
    | none => rw [hk] at h; cases h
    | some k =>
     rw [hk] at h
     cases h
     have hp : (KO.va p).den en2 = (KO.va p).den en := he p (by simp)
     refine step p k hk rfl ?_
     show avP none _ ((KO.va p).den en2) = avP none _ ((KO.va p).den en)
     rw [hp]
   | _ => cases h
  | cN n x =>
   cases x with
   | va p =>
    simp only [kpOf] at h
    cases hk : kpOf rs with
    | none => rw [hk] at h; cases h
    | some k =>
     rw [hk] at h
     cases h
     have hp : (KO.va p).den en2 = (KO.va p).den en := he p (by simp)
     refine step p k hk rfl ?_
     show avP none _ ((KO.va p).den en2) = avP none _ ((KO.va p).den en)
     rw [hp]
   | _ => cases h
theorem args_rel {K : KFun} {D : List Deferred} {fn : Func} (h2 : fn.ntmps = K.n) (h3 : K.ps.length ≤ K.n) (h4 : psOk K.S K.ps 0 = true) (h5 : badT K.T0 = true) {args : List AV} {args' : List Value} {B : BT AV} (hB : putArgs K.ps args K.T0 = some B) {e : Emb} (ha : VRels e args args') :
  ARel K.S K.n (DF.any D) e ⟨.nil, B⟩ { tmps := args'.toArray ++ Array.replicate (fn.ntmps - args'.toArray.size) undef, defers := D } := by
 have hlen := ha.length
 have htm : ∀ j v, args'[j]? = some v → (args'.toArray ++ Array.replicate (fn.ntmps - args'.toArray.size) undef).getD j undef = v := by
  intro j v hj
  have hlt := (List.getElem?_eq_some_iff.1 hj).1
  rw [Array.getD_eq_getD_getElem?, Array.getElem?_append_left (by simpa using hlt)]
  simp [hj]
 obtain ⟨hl, hvars⟩ := putArgs_rel (tmps := args'.toArray ++ Array.replicate (fn.ntmps - args'.toArray.size) undef) K.ps args args' 0 K.T0 B h4 hB ha (fun j v hj => by simpa using htm j v hj) (fun p t _ => by rw [badT_get h5]; exact .bad _)
 refine ⟨?_, fun _ _ => .bad _, hvars, rfl, trivial⟩
 simp; omega
inductive ModeOk (e : Emb) : FrameMode → AV → Prop
 | ret : ModeOk e .returning (.x .nili)
 | pan {v : AV} {v' : Value} (h : VRel e v v') : ModeOk e (.panicking [⟨v', false, false⟩]) v
theorem rec_snd {P : Program} {F : Fs} (hF : FsOk P F) {dc : DCheck} {R : KRec} {g : Nat} (hD : DOk P R.K.S R.K.n F dc) (h : R.ok P dc g = true) {cap : List AV} {v : AV} {H H' : AHeap} (hrun : recRun F R cap v H = some H') {e : Emb} {w : World} {cap' : List Value} (hr : Rel P.globals.size e H w) (hc : VRels e cap cap')
  {u : FrameMode} (hu : ModeOk e u v) : (∀ w, (callFunc g cap'.toArray).run P w = .ok (.enter g cap'.toArray) w) ∧ CallsD P g cap'.toArray u w (fun E u' w' => ∃ e' v', E = .returned v' ∧ settle u' = .returning ∧ Evo P.globals.size e H w e' H' w') := by
 unfold KRec.ok at h
 cases hf : P.funcs[g]? with
 | none => rw [hf] at h; cases h
 | some fn =>
 rw [hf] at h
 simp only [Bool.and_eq_true, ble_tt, beq_tt] at h
 obtain ⟨⟨⟨⟨⟨⟨h1, h2⟩, h3⟩, h4⟩, h5⟩, h6⟩, h7⟩ := h
 split at h7
 · rename_i id o0 y hb
   simp only [Bool.and_eq_true] at h7
   obtain ⟨⟨⟨g1, g2⟩, g3⟩, g4⟩ := h7
   refine ⟨fun w => run_callFunc hf h1 hb _ w, ?_⟩
   have hexec : ∀ ρ w, (execOp ρ o0).run P w = .ok .recover w := by
    intro ρ w
    split at g1
    · rename_i xs ts ho
      simp [execOp, ho, resolve, invoke, builtin]
    · cases g1
   unfold recRun at hrun
   cases hB : putArgs R.K.ps cap R.K.T0 with
   | none => rw [hB] at hrun; cases hrun
   | some B =>
   rw [hB] at hrun
   simp only at hrun
   have harel := args_rel (D := []) h2 h3 h4 h5 hB hc
   have hcode := code_snd hF hD R.K.body y g4
   have hres : fn.results = #[] := by
    have : fn.results.toList = [] := by simpa using h6
    exact Array.toList_eq_nil_iff.1 this
   refine callsD_of_wpS hf hb fun c0 cs hcu => ?_
   have go : ∀ (u' : FrameMode) (v' : Value), VRel e v v' → settle u' = .returning →
     y.wpS P (bodyPostS P fn c0 cs (fun E u' w' => ∃ e' v', E = .returned v' ∧ settle u' = .returning ∧ Evo P.globals.size e H w e' H' w')) (({ tmps := cap'.toArray ++ Array.replicate (fn.ntmps - cap'.toArray.size) undef, defers := [] } : Act).put o0.dst v') ({ c0 with mode := u' } :: cs) w := by
    intro u' v' hv hset
    have ha1 := ARel.putE g3 (DF.any_free []) harel (fun _ _ h => h) hv
    have hwp : y.wp P (Fits P R.K.S R.K.n (DF.any []) e H w (R.K.body.den F (R.x0.put v ⟨.nil, B⟩) H)) _ w :=
     hcode (DF.any []) (fun p _ => DF.any_free [] p) (R.x0.put v ⟨.nil, B⟩) H (fun hf => by rw [hf] at hrun; cases hrun) e w _ hr ha1
    refine wpS_of_wp (wp_mono hwp ?_)
    intro X a' w' hfit
    have fin : ∀ en3, (∃ e', ARel R.K.S R.K.n (DF.any []) e' en3 a' ∧ Evo P.globals.size e H w e' H' w') → a'.defers = [] ∧ ∃ u'', ({ c0 with mode := u' } :: cs : List Frame) = { c0 with mode := u'' } :: cs ∧ ∃ v, (results fn a'.tmps).run P w' = .ok v w' ∧
      (∃ e' v', Ending.returned v = .returned v' ∧ settle u'' = .returning ∧ Evo P.globals.size e H w e' H' w') := by
     rintro en3 ⟨e', ha', hev⟩
     have hrs : (results fn a'.tmps).run P w' = .ok (.tuple #[]) w' := by simp [results, hres]
     exact ⟨ha'.defers, u', rfl, _, hrs, e', _, rfl, hset, hev⟩
    cases hr0 : R.K.body.den F (R.x0.put v ⟨.nil, B⟩) H with
    | nrm en3 H3 =>
     rw [hr0] at hrun hfit
     cases hrun
     obtain ⟨rfl, hx⟩ := hfit
     exact fin en3 hx
    | ret en3 H3 =>
     rw [hr0] at hrun hfit
     cases hrun
     obtain ⟨rfl, hx⟩ := hfit
     exact fin en3 hx
    | ext id en3 H3 => rw [hr0] at hrun; cases hrun
    | pan v H3 => rw [hr0] at hrun; cases hrun
    | fail => rw [hr0] at hrun; cases hrun
   refine wpS_seq (wpS_region ?_)
   show wpOpsS P #[o0] _ [0] _ _ _
   have hwant : ∀ y, Region.wanted o0 y = true := wanted_none g2
   simp only [wpOpsS, List.getElem?_toArray, List.getElem?_cons_zero, hwant, if_true, hexec]
   cases hu with
   | ret =>
    have hrec : recoverD (c0 :: cs) = none := by simp [recoverD, hcu]
    rw [hrec]
    have := go .returning .nilIface .nili rfl
    have hc0 : ({ c0 with mode := .returning } : Frame) = c0 := by rw [← hcu]
    rw [hc0] at this
    exact this
   | @pan _ v' hv =>
    have hrec : recoverD (c0 :: cs) = some (v', { c0 with mode := .panicking [⟨v', true, false⟩] } :: cs) := by simp [recoverD, hcu]
    rw [hrec]
    exact go (.panicking [⟨v', true, false⟩]) v' hv rfl
 · cases h7
theorem preL_wp {P : Program} {F : Fs} (hF : FsOk P F) {S : BT Nat} {n : Nat} {dc : DCheck} (hD : DOk P S n F dc) {D : DF} (hfree : ∀ q, D.free q) : ∀ (l : List KCode) (c y : Code), okPre P S n dc l c = some y → ∀ (en : Env) (H : AHeap), denL F l en H ≠ .fail →
  ∀ e w a, Rel P.globals.size e H w → ARel S n D e en a → ∀ Q : Exit → Act → World → Prop, (∀ X a' w', Fits P S n D e H w (denL F l en H) X a' w' → Exit.then (y.wp P Q) Q X a' w') → c.wp P Q a w
 | [], c, y, h, en, H, _, e, w, a, hr, ha, Q, hQ => by
  cases h
  exact hQ .normal a w ⟨rfl, e, ha, Evo.refl hr⟩
 | k :: l, c, y, h, en, H, hne, e, w, a, hr, ha, Q, hQ => by
  cases c with
  | seq c1 c2 =>
   simp only [okPre] at h
   split at h
   · rename_i hk
     have hden : denL F (k :: l) en H = rSeq (k.den F en H) (denL F l) := rfl
     rw [hden] at hne hQ
     have hk1 := code_snd hF hD k c1 hk D (fun p _ => hfree p) en H (fun hx => by rw [hx] at hne; exact hne rfl) e w a hr ha
     refine wp_seq (wp_mono hk1 ?_)
     intro X a1 w1 hfit
     cases hr1 : k.den F en H with
     | nrm en1 H1 =>
      rw [hr1] at hfit hne hQ
      obtain ⟨rfl, e1, ha1, hev⟩ := hfit
      exact preL_wp hF hD hfree l c2 y h en1 H1 hne e1 w1 a1 hev.rel ha1 Q (fun X a' w' hf => hQ X a' w' (Fits.trans hev hf))
     | fail => rw [hr1] at hfit; exact hfit.elim
     | ret en1 H1 =>
      rw [hr1] at hfit hQ
      obtain ⟨rfl, hx⟩ := hfit
      exact hQ .ret a1 w1 ⟨rfl, hx⟩
     | ext id en1 H1 =>
      rw [hr1] at hfit hQ
      obtain ⟨rfl, hx⟩ := hfit
      exact hQ (.exit id) a1 w1 ⟨rfl, hx⟩
     | pan v H1 =>
      rw [hr1] at hfit hQ
      obtain ⟨e', v', rfl, hx⟩ := hfit
      exact hQ (.panic _) a1 w1 ⟨e', v', rfl, hx⟩
   · cases h
  | _ => cases h
theorem KDefn.run_snd {P : Program} {F : Fs} (hF : FsOk P F) {dc : DCheck} {f : Nat} {Dn : KDefn} (hD : ∀ S n, DOk P S n F dc) (h : Dn.ok P dc f = true) (args : List AV) (H : AHeap) : FSnd P f args H (Dn.run F args H) := by
 unfold KDefn.ok at h
 cases hf : P.funcs[f]? with
 | none => rw [hf] at h; cases h
 | some fn =>
 rw [hf] at h
 simp only [Bool.and_eq_true, ble_tt, beq_tt] at h
 obtain ⟨⟨⟨⟨⟨⟨⟨⟨h1, h2⟩, h3⟩, h4⟩, h5⟩, h6⟩, hkp⟩, hR⟩, h7⟩ := h
 cases hk : kpOf Dn.K.rs with
 | none => rw [hk] at hkp; cases hkp
 | some kp =>
 rw [hk] at hkp
 cases hb : fn.body with
 | none => rw [hb] at h7; simp at h7
 | some c =>
 rw [hb] at h7
 simp only [Option.bind_some] at h7
 split at h7
 · rename_i id mf df y hpre
   simp only [Bool.and_eq_true] at h7
   obtain ⟨⟨⟨⟨g2, g3⟩, g4⟩, g5⟩, g6⟩ := h7
   cases hB : putArgs Dn.K.ps args Dn.K.T0 with
   | none => have : Dn.run F args H = .fail := by unfold KDefn.run; rw [hB]
             rw [this]; trivial
   | some B =>
   have hrun : Dn.run F args H = Res.rec (motive := fun _ => ORes) (fun en1 H1 => finD F Dn H ⟨.nil, en1.B⟩ (evalL (KO.dens Dn.caps) ⟨.nil, en1.B⟩) (Dn.K.body.den F ⟨.nil, en1.B⟩ H1)) (fun _ _ _ => .fail) (fun en1 H1 => optL .fail (fun l => backV l H H1) (evalR Dn.K.rs en1 H1)) (fun _ _ => .fail) .fail
    (denL F Dn.c0 ⟨.nil, B⟩ (H.withLow H.nxt)) := by unfold KDefn.run; rw [hB]
   rw [hrun]
   have hc1 := code_snd hF (hD _ _) Dn.K.body y g6
   cases hr0 : denL F Dn.c0 ⟨.nil, B⟩ (H.withLow H.nxt) with
   | nrm en1 H1 =>
    simp only
    generalize hcap : evalL (KO.dens Dn.caps) ⟨.nil, en1.B⟩ = cap
    have body : ∀ (r : Res), Dn.K.body.den F ⟨.nil, en1.B⟩ H1 = r → r ≠ .fail → ∀ e w args', Rel P.globals.size e H w → VRels e args args' → ∀ R : Ending → World → Prop,
      (∀ e1 w1 (cap' : List Value), Evo P.globals.size e (H.withLow H.nxt) w e1 H1 w1 → VRels e1 cap cap' → ∀ X a' w', Fits P Dn.K.S Dn.K.n ⟨[{ target := .fn (.func Dn.g) cap'.toArray, args := #[] }], fun B => ∀ p ∈ kp, p.get B = p.get en1.B⟩ e1 H1 w1 r X a' w' → bodyPostD P fn R X a' w') →
      Runs P f args'.toArray w R := by
     intro r hr1 hne e w args' hr ha R hR'
     refine .inl ⟨run_callFunc hf h1 hb _ w, calls_of_wp_defers hf hb ?_⟩
     have harel := args_rel (D := []) h2 h3 h4 h5 hB ha
     refine preL_wp hF (hD _ _) (DF.any_free []) Dn.c0 c _ hpre ⟨.nil, B⟩ (H.withLow H.nxt) (by rw [hr0]; simp) e w _ (hr.withLow _) harel _ ?_
     rw [hr0]
     rintro X a1 w1 ⟨rfl, e1, ha1, hev1⟩
     refine wp_seq (wp_region ?_)
     show wpOps P #[mf, df] _ [0, 1] a1 w1
     have g2' := g2
     simp only [KE.ok, Bool.and_eq_true] at g2'
     rw [wpOps_some (o := mf) rfl, wanted_none g2'.1.2, if_pos rfl]
     refine .inl ?_
     have hmk := KOp.ok_snd hF g2'.2 ⟨.nil, en1.B⟩ H1
     have hden : (KOp.mkf Dn.g [] Dn.caps).den F ⟨.nil, en1.B⟩ H1 = .v (.x (.fn Dn.g [] cap)) H1 := by
      rw [← hcap]; rfl
     rw [hden] at hmk
     refine Oper.wp_mono2 ?_ ?_ (hmk Dn.K.n (DF.any []) e1 w1 a1 hev1.rel ha1.clear)
     · rintro a2 w2 ⟨e2, v2, rfl, hv2, hev2⟩
       cases hv2
       rename_i a0' cap' hv1 hvc
       cases hv1
       have ha2 := ARel.putE g2 (DF.any_free []) ha1.clear hev2.ext (VRel.fn Dn.g [] cap [] cap' .nil hvc)
       rw [wpOps_some (o := df) rfl, wanted_none g4, if_pos rfl]
       refine .inl ?_
       have hdst : mf.dst = some Dn.t ∧ Dn.t < Dn.K.n := by
        have h8 := g2'.1.1
        cases hm : mf.dst with
        | none => rw [hm] at h8; simp at h8
        | some d' =>
         rw [hm] at h8
         simp only [Bool.and_eq_true, beq_tt, ble_tt] at h8
         exact ⟨by rw [h8.1.1], by omega⟩
       have hev : (a1.put mf.dst (.func (.func Dn.g) #[] cap'.toArray)).eval (.tmp Dn.t) = .func (.func Dn.g) #[] cap'.toArray := by
        rw [hdst.1]; exact getD_put_self ha1.size hdst.2 _
       have hex : (execOp (a1.put mf.dst (.func (.func Dn.g) #[] cap'.toArray)).eval df).run P w2 = .ok (.defer { target := .fn (.func Dn.g) cap'.toArray, args := #[] }) w2 := by
        split at g5
        · rename_i t' ts hop
          have ht := Nat.eq_of_beq_eq_true g5
          subst ht
          simp [execOp, hop, resolve, hev, Deferred.ofValue]
        · cases g5
       unfold Oper.wp
       have hex' : (execOp (a1.put mf.dst (.func (.func Dn.g) [].toArray cap'.toArray)).eval df).run P w2 = .ok (.defer { target := .fn (.func Dn.g) cap'.toArray, args := #[] }) w2 := hex
       rw [hex', Oper.upon_defer]
       have hdd : df.dst = none := by simpa using g3
       rw [hdd]
       have ha3 : ARel Dn.K.S Dn.K.n ⟨[{ target := .fn (.func Dn.g) cap'.toArray, args := #[] }], fun B => ∀ p ∈ kp, p.get B = p.get en1.B⟩ e2 ⟨.nil, en1.B⟩
         { (a1.put mf.dst (.func (.func Dn.g) [].toArray cap'.toArray)) with defers := { target := .fn (.func Dn.g) cap'.toArray, args := #[] } :: (a1.put mf.dst (.func (.func Dn.g) [].toArray cap'.toArray)).defers } := by
        refine ⟨ha2.size, fun _ _ => .bad _, ha2.vars, ?_, fun _ _ => rfl⟩
        have := ha2.defers
        show _ :: _ = _
        rw [this]; rfl
       have hne1 : Dn.K.body.den F ⟨.nil, en1.B⟩ H1 ≠ .fail := by rw [hr1]; exact hne
       have hfree : ∀ q, Dn.K.body.wr q → DF.free ⟨[{ target := .fn (.func Dn.g) cap'.toArray, args := #[] }], fun B => ∀ p ∈ kp, p.get B = p.get en1.B⟩ q := by
        intro q hq B' v' hB' p hp
        have hnot := KCode.noW_spec hkp hq
        rcases VP.get_put v' q p B' with h9 | ⟨h9, _⟩
        · rw [h9]; exact hB' p hp
        · subst h9; exact absurd hp hnot
       have hw1 := hc1 _ hfree ⟨.nil, en1.B⟩ H1 hne1 e2 w2 _ hev2.rel ha3
       rw [hr1] at hw1
       have hev12 : Evo P.globals.size e (H.withLow H.nxt) w e2 H1 w2 := hev1.trans hev2
       exact wp_mono hw1 fun X a' w' hfit => hR' e2 w2 cap' hev12 hvc X a' w' hfit
     · intro _ _ _ h; exact h.elim
    have back : ∀ (en : Env) (H3 : AHeap) (l : List AV), evalR Dn.K.rs en H3 = some l → ∀ e w, Rel P.globals.size e H w → ∀ (D : DF) e3 a' w', ARel Dn.K.S Dn.K.n D e3 en a' → Evo P.globals.size e (H.withLow H.nxt) w e3 H3 w' →
      ∃ v' v0 H'', backV l H H3 = .v v0 H'' ∧ (results fn a'.tmps).run P w' = .ok v' w' ∧ ∃ e'', VRel e'' v0 v' ∧ Evo P.globals.size e H w e'' H'' w' := by
     intro en H3 l hl e w hr D e3 a' w' ha' hev
     obtain ⟨v', q1, q2⟩ := results_run hev.rel ha' h6 hl
     obtain ⟨v0, H'', e'', p1, p2, p3⟩ := backV_evo hr hev q2
     exact ⟨v', v0, H'', p1, q1, e'', p2, p3⟩
    have fin : ∀ (u : FrameMode) (v : AV) (H2 H3 : AHeap) (en : Env) (l : List AV) (a' : Act) (w' : World) (e e1 e' : Emb) (w : World) (D : DF) (cap' : List Value) (R : Ending → World → Prop), recRun F Dn.R cap v H2 = some H3 → evalR Dn.K.rs en H3 = some l → Rel P.globals.size e H w → VRels e1 cap cap' → (∀ b i, e1 b = some i → e' b = some i) →
      ModeOk e' u v → u ≠ .run → Evo P.globals.size e (H.withLow H.nxt) w e' H2 w' → ARel Dn.K.S Dn.K.n D e' en a' → a'.defers = [{ target := .fn (.func Dn.g) cap'.toArray, args := #[] }] →
      (∀ v' v0 H'' e'' w'', backV l H H3 = .v v0 H'' → VRel e'' v0 v' → Evo P.globals.size e H w e'' H'' w'' → R (.returned v') w'') → Leaves P fn a'.tmps R a'.defers u w' := by
     intro u v H2 H3 en l a' w' e e1 e' w D cap' R hrec hl hr hcap1 hext hmode hu hev ha' hds hfin
     obtain ⟨q1, q2⟩ := rec_snd hF (hD _ _) hR hrec hev.rel (hcap1.mono hext) hmode
     rw [hds]
     refine leaves_cons hu (f := Dn.g) (args := cap'.toArray) (by simp [invoke, q1]) (CallsD.mono q2 ?_)
     rintro E u' w'' ⟨e3, v3, rfl, hset, hev3⟩
     show Leaves P fn a'.tmps R [] (settle u') w''
     rw [hset]
     obtain ⟨v', v0, H'', b1, b2, e'', b3, b4⟩ := back en H3 l hl e w hr D e3 a' w'' (ha'.mono hev3.ext) (hev.trans hev3)
     exact ⟨v', b2, hfin v' v0 H'' e'' w'' b1 b3 b4⟩
    cases hr1 : Dn.K.body.den F ⟨.nil, en1.B⟩ H1 with
    | fail => trivial
    | ext id en H' => trivial
    | pan v H2 =>
     show FSnd P f args H (optHp (recRun F Dn.R cap v H2) fun H3 => optL .fail (fun l => backV l H H3) (evalR Dn.K.rs ⟨.nil, en1.B⟩ H3))
     cases hrec : recRun F Dn.R cap v H2 with
     | none => trivial
     | some H3 =>
      show FSnd P f args H (optL .fail (fun l => backV l H H3) (evalR Dn.K.rs ⟨.nil, en1.B⟩ H3))
      cases hl : evalR Dn.K.rs ⟨.nil, en1.B⟩ H3 with
      | none => trivial
      | some l =>
       have key : FSnd P f args H (backV l H H3) := by
        obtain ⟨v0, H'', hb2⟩ := backV_v l H H3
        rw [hb2]
        intro e w args' hr ha
        refine body _ hr1 (by simp) e w args' hr ha _ ?_
        rintro e1 w1 cap' hev1 hvc X a' w' ⟨e', v', rfl, ⟨en', ha'⟩, hv, hev⟩
        have hl' : evalR Dn.K.rs en' H3 = some l := by rw [KR.den_kept hk (en := ⟨.nil, en1.B⟩) ha'.kept]; exact hl
        exact fin _ v H2 H3 en' l a' w' e e1 e' w _ cap' _ hrec hl' hr hvc hev.ext (.pan hv) (by simp) (hev1.trans hev) ha' ha'.defers fun v'' v4 H4 e'' w'' q1 q2 q3 => by
         rw [hb2] at q1; cases q1
         exact ⟨e'', v'', rfl, q2, q3⟩
       exact key
    | nrm en2 H2 =>
     show FSnd P f args H (optHp (recRun F Dn.R cap (.x .nili) H2) fun H3 => optL .fail (fun l => backV l H H3) (evalR Dn.K.rs en2 H3))
     cases hrec : recRun F Dn.R cap (.x .nili) H2 with
     | none => trivial
     | some H3 =>
      show FSnd P f args H (optL .fail (fun l => backV l H H3) (evalR Dn.K.rs en2 H3))
      cases hl : evalR Dn.K.rs en2 H3 with
      | none => trivial
      | some l =>
       have key : FSnd P f args H (backV l H H3) := by
        obtain ⟨v0, H'', hb2⟩ := backV_v l H H3
        rw [hb2]
        intro e w args' hr ha
        refine body _ hr1 (by simp) e w args' hr ha _ ?_
        rintro e1 w1 cap' hev1 hvc X a' w' ⟨rfl, e', ha', hev⟩
        exact fin .returning (.x .nili) H2 H3 en2 l a' w' e e1 e' w _ cap' _ hrec hl hr hvc hev.ext .ret (by simp) (hev1.trans hev) ha' ha'.defers fun v'' v4 H4 e'' w'' q1 q2 q3 => by
         rw [hb2] at q1; cases q1
         exact ⟨e'', v'', rfl, q2, q3⟩
       exact key
    | ret en2 H2 =>
     show FSnd P f args H (optHp (recRun F Dn.R cap (.x .nili) H2) fun H3 => optL .fail (fun l => backV l H H3) (evalR Dn.K.rs en2 H3))
     cases hrec : recRun F Dn.R cap (.x .nili) H2 with
     | none => trivial
     | some H3 =>
      show FSnd P f args H (optL .fail (fun l => backV l H H3) (evalR Dn.K.rs en2 H3))
      cases hl : evalR Dn.K.rs en2 H3 with
      | none => trivial
      | some l =>
       have key : FSnd P f args H (backV l H H3) := by
        obtain ⟨v0, H'', hb2⟩ := backV_v l H H3
        rw [hb2]
        intro e w args' hr ha
        refine body _ hr1 (by simp) e w args' hr ha _ ?_
        rintro e1 w1 cap' hev1 hvc X a' w' ⟨rfl, e', ha', hev⟩
        exact fin .returning (.x .nili) H2 H3 en2 l a' w' e e1 e' w _ cap' _ hrec hl hr hvc hev.ext .ret (by simp) (hev1.trans hev) ha' ha'.defers fun v'' v4 H4 e'' w'' q1 q2 q3 => by
         rw [hb2] at q1; cases q1
         exact ⟨e'', v'', rfl, q2, q3⟩
       exact key
   | ret en1 H1 =>
    show FSnd P f args H (optL .fail (fun l => backV l H H1) (evalR Dn.K.rs en1 H1))
    cases hl1 : evalR Dn.K.rs en1 H1 with
    | none => trivial
    | some l =>
     have key : FSnd P f args H (backV l H H1) := by
      obtain ⟨v0, H'', hb2⟩ := backV_v l H H1
      rw [hb2]
      intro e w args' hr ha
      refine .inl ⟨run_callFunc hf h1 hb _ w, calls_of_wp_defers hf hb ?_⟩
      have harel := args_rel (D := []) h2 h3 h4 h5 hB ha
      refine preL_wp hF (hD _ _) (DF.any_free []) Dn.c0 c _ hpre ⟨.nil, B⟩ (H.withLow H.nxt) (by rw [hr0]; simp) e w _ (hr.withLow _) harel _ ?_
      rw [hr0]
      rintro X a1 w1 ⟨rfl, e1, ha1, hev1⟩
      show Leaves P fn a1.tmps _ a1.defers .returning w1
      rw [ha1.defers]
      obtain ⟨v', q1, q2⟩ := results_run hev1.rel ha1 h6 hl1
      obtain ⟨v1, H3, e'', p1, p2, p3⟩ := backV_evo hr hev1 q2
      rw [hb2] at p1; cases p1
      exact ⟨v', q1, e'', v', rfl, p2, p3⟩
     exact key
   | _ => trivial
 · cases h7
end
end Go.Ab
namespace Go.Ab
open Go
noncomputable section
def zK (r : ORes) (K : AV → AHeap → Res) (H : AHeap) : Res := vRes r (fun v _ => K v H)
def rK (op : AHeap → ORes) (K : AV → AHeap → Res) (H : AHeap) : Res := pRes (op (H.withLow H.nxt)) (fun v X => rIf (bAnd (Nat.ble H.nxt X.low) true) (K v (growN X H)))
def kK (r : ORes) (K : AV → AHeap → Res) (H : AHeap) : Res := pRes r (fun v X => rIf (Nat.ble H.nxt X.nxt) (K v (X.withLow (minL H.low X.low))))
def wK (w : Option Bool) (run : (AV → AHeap → Res) → AHeap → Res) (K : AV → AHeap → Res) (H : AHeap) : Res :=
 Option.rec (motive := fun _ => Res) .fail (fun t => Bool.rec (motive := fun _ => Res) (K undefA H) (run K H) t) w
def KE.den1 (x : KE) : Fs → (Env → AHeap → Res) → Env → AHeap → Res :=
 KE.rec (motive := fun _ => Fs → (Env → AHeap → Res) → Env → AHeap → Res)
  (fun d k F ih en H => oRes (k.den F en H) (fun v H' => ih ⟨.cons d v en.loc, en.B⟩ H'))
  (fun d k F ih en H => oRes (k.den F en H) (fun v H' => ih ⟨en.loc, d.put v en.B⟩ H'))
  (fun k F ih en H => oRes (k.den F en H) (fun _ H' => ih en H'))
  (fun c b d k F ih en H => gK H (k.den F en H) b (c.den en) (fun v H' => ih ⟨.cons d v en.loc, en.B⟩ H'))
  (fun c b d k F ih en H => gK H (k.den F en H) b (c.den en) (fun v H' => ih ⟨en.loc, d.put v en.B⟩ H'))
  (fun c b k F ih en H => gK H (k.den F en H) b (c.den en) (fun _ H' => ih en H')) x
theorem KE.den1_eq (x : KE) (F : Fs) (ih : Env → AHeap → Res) : x.den1 F ih = x.den F ih := by cases x <;> rfl
def runE1 (F : Fs) (l : List KE) : Env → AHeap → Res := List.rec (motive := fun _ => Env → AHeap → Res) .nrm (fun x _ ih => x.den1 F ih) l
theorem runE1_eq (F : Fs) : ∀ l, runE1 F l = runE F l
 | [] => rfl
 | x :: l => by
  show x.den1 F (runE1 F l) = x.den F (runE F l)
  rw [runE1_eq F l, KE.den1_eq]
def RO (f : AHeap → ORes) : Prop := ∀ H : AHeap, (∃ v, ∀ L, f (H.withLow L) = .v v (H.withLow L)) ∨ ∀ L, f (H.withLow L) = .fail
def KOp.ro : KOp → Bool
 | .load1 _ | .loadN .. => true
 | _ => false
theorem KOp.ro_spec {F : Fs} (en : Env) : ∀ (k : KOp), k.ro = true → RO (fun H => k.den F en H) := by
 intro k h H
 cases k with
 | load1 x =>
  have hd : ∀ L, (KOp.load1 x).den F en (H.withLow L) = opLoad1 x.den en (H.withLow L) := fun _ => rfl
  simp only [hd]
  unfold opLoad1
  cases x.den en with
  | p b o =>
   have hg : ∀ L, (H.withLow L).get b = H.get b := fun _ => rfl
   simp only [avP, hg]
   cases H.get b with
   | none => exact .inr fun _ => rfl
   | some y =>
    cases y with
    | c n t w sp =>
     simp only [blkC]
     cases Nat.ble (Nat.add o 1) n with
     | false => exact .inr fun _ => rfl
     | true =>
      simp only [bif']
      cases t.get o with
      | none => exact .inr fun _ => rfl
      | some v => exact .inl ⟨v, fun _ => rfl⟩
    | _ => exact .inr fun _ => rfl
  | _ => exact .inr fun _ => rfl
 | loadN n x =>
  have hd : ∀ L, (KOp.loadN n x).den F en (H.withLow L) = opLoadN n x.den en (H.withLow L) := fun _ => rfl
  simp only [hd]
  unfold opLoadN
  cases x.den en with
  | p b o =>
   have hg : ∀ L, readN (H.withLow L) b o n = readN H b o n := fun _ => rfl
   simp only [avP, hg]
   cases readN H b o n with
   | none => exact .inr fun _ => rfl
   | some l => exact .inl ⟨_, fun _ => rfl⟩
  | _ => exact .inr fun _ => rfl
 | _ => cases h
def KD.cls1 (F : Fs) (d : KD) (en : Env) (K : AV → AHeap → Res) (H : AHeap) : Res :=
 KCls.rec (motive := fun _ => Res) (zK (d.x.op.den F en H) K H) (Bool.rec (motive := fun _ => Res) (rK (fun H => d.x.op.den F en H) K H) (zK (d.x.op.den F en H) K H) d.x.op.ro) .fail
  (Bool.rec (motive := fun _ => Res) (kK (d.x.op.den F en H) K H) (zK (d.x.op.den F en H) K H) d.x.op.ro) d.cls
def KD.run1 (F : Fs) (d : KD) (ih : Env → AHeap → Res) (en : Env) (H : AHeap) : Res :=
 wK (d.x.want en) (fun K H => d.cls1 F en K H) (fun v H' => ih (d.x.put v en) H') H
def KD.plain (d : KD) : Bool := d.us.isEmpty && (match d.cls with | .w => false | _ => true)
def runD1 (F : Fs) (l : List KD) : Env → AHeap → Res := List.rec (motive := fun _ => Env → AHeap → Res) .nrm (fun d _ ih => d.run1 F ih) l
theorem growN_self (H : AHeap) (L : Nat) : growN (H.withLow L) H = H := by
 unfold growN
 have h : Nat.sub (H.withLow L).nxt H.nxt = 0 := Nat.sub_self _
 rw [h]; rfl
theorem minL_self (a : Nat) : minL a a = a := by unfold minL; cases Nat.ble a a <;> rfl
theorem KD.run1_eq {F : Fs} {d : KD} (hp : d.plain = true) (gs : List (List Nat)) (g : List Nat) (en : Env) (H : AHeap) (next : Env → AHeap → Res) : d.run F (deadsOf gs d.us) g en H next = d.run1 F next en H := by
 obtain ⟨cls, us, cl, x, gg⟩ := d
 simp only [KD.plain, Bool.and_eq_true, List.isEmpty_iff] at hp
 obtain ⟨rfl, hc⟩ := hp
 unfold KD.run KD.run1 wK
 dsimp only
 cases x.want en with
 | none => rfl
 | some t =>
  cases t with
  | false => rfl
  | true =>
   cases cls with
   | z => rfl
   | w => cases hc
   | r =>
    show runR F x [] en H next = Bool.rec (rK (fun H => x.op.den F en H) (fun v H' => next (x.put v en) H') H) (zK (x.op.den F en H) (fun v H' => next (x.put v en) H') H) x.op.ro
    cases ho : x.op.ro with
    | false => rfl
    | true =>
     have := KOp.ro_spec (F := F) en x.op ho H
     show pRes (x.op.den F en (H.withLow H.nxt)) (fun v X => rIf (bAnd (Nat.ble H.nxt X.low) true) (next (x.put v en) (growN X H))) = vRes (x.op.den F en (H.withLow H.low)) (fun v _ => next (x.put v en) H)
     rcases this with ⟨v, hv⟩ | hv
     · have h1 := hv H.nxt
       have h2 := hv H.low
       simp only at h1 h2
       rw [h1, h2]
       show rIf (bAnd (Nat.ble H.nxt H.nxt) true) (next (x.put v en) (growN (H.withLow H.nxt) H)) = next (x.put v en) H
       rw [growN_self, Nat.ble_eq_true_of_le (Nat.le_refl _)]
       rfl
     · have h1 := hv H.nxt
       have h2 := hv H.low
       simp only at h1 h2
       rw [h1, h2]; rfl
   | k =>
    show runK F x en H next = Bool.rec (kK (x.op.den F en H) (fun v H' => next (x.put v en) H') H) (zK (x.op.den F en H) (fun v H' => next (x.put v en) H') H) x.op.ro
    cases ho : x.op.ro with
    | false => rfl
    | true =>
     have := KOp.ro_spec (F := F) en x.op ho H
     show pRes (x.op.den F en (H.withLow H.low)) (fun v X => rIf (Nat.ble H.nxt X.nxt) (next (x.put v en) (X.withLow (minL H.low X.low)))) = vRes (x.op.den F en (H.withLow H.low)) (fun v _ => next (x.put v en) H)
     rcases this with ⟨v, hv⟩ | hv
     · have h2 := hv H.low
       simp only at h2
       rw [h2]
       show rIf (Nat.ble H.nxt H.nxt) (next (x.put v en) (H.withLow (minL H.low H.low))) = next (x.put v en) H
       rw [minL_self, Nat.ble_eq_true_of_le (Nat.le_refl _)]
       rfl
     · have h2 := hv H.low
       simp only at h2
       rw [h2]; rfl
theorem runD1_eq {F : Fs} {gs : List (List Nat)} : ∀ {l : List KD}, l.all KD.plain = true → ∀ gr, runD F gs l gr = runD1 F l
 | [], _, gr => rfl
 | d :: l, h, gr => by
  rw [List.all_cons, Bool.and_eq_true] at h
  funext en H
  rw [runD_cons, KD.run1_eq h.1, runD1_eq h.2]
  rfl
def cDr (a : C0) : CE := fun F en H => postD H (a F .nil en.B H)
def KCode.den1 (F : Fs) (c : KCode) : Env → AHeap → Res :=
 KCode.rec (motive := fun _ => Env → AHeap → Res) .nrm (fun l en H => runE1 F l ⟨.nil, en.B⟩ H)
  (fun l en H => Bool.rec (motive := fun _ => Res) (runDG F l (guessD F l ⟨.nil, en.B⟩ H) ⟨.nil, en.B⟩ H) (postD H (runD1 F l ⟨.nil, en.B⟩ H)) (l.all KD.plain))
  (fun _ _ x y en H => rSeq (x en H) y) (fun c _ _ x y en H => avB .fail (fun t => Bool.rec (motive := fun _ => Res) (y en H) (x en H) t) (c.den en))
  (fun id _ x en H => rBlock id (x en H)) (fun _ x => loopN x 1000000) (fun id => .ext id) .ret (fun _ _ => .fail) c
theorem KCode.den1_eq (F : Fs) (c : KCode) : c.den1 F = c.den F := by
 induction c with
 | reg l =>
  show (fun (en : Env) (H : AHeap) => runE1 F l ⟨.nil, en.B⟩ H) = fun (en : Env) (H : AHeap) => runE F l ⟨.nil, en.B⟩ H
  rw [runE1_eq]
 | dreg l =>
  show (fun (en : Env) (H : AHeap) => Bool.rec (motive := fun _ => Res) (runDG F l (guessD F l ⟨.nil, en.B⟩ H) ⟨.nil, en.B⟩ H) (postD H (runD1 F l ⟨.nil, en.B⟩ H)) (l.all KD.plain)) = fun (en : Env) (H : AHeap) => runDG F l (guessD F l ⟨.nil, en.B⟩ H) ⟨.nil, en.B⟩ H
  funext en H
  cases h : l.all KD.plain with
  | false => rfl
  | true => exact (congrArg (postD H) (congrFun (congrFun (runD1_eq h _) _) _)).symm
 | seq a b iha ihb =>
  show (fun (en : Env) (H : AHeap) => rSeq (a.den1 F en H) (b.den1 F)) = fun (en : Env) (H : AHeap) => rSeq (a.den F en H) (b.den F)
  rw [iha, ihb]
 | cond x a b iha ihb =>
  show (fun (en : Env) (H : AHeap) => avB .fail (fun t => Bool.rec (motive := fun _ => Res) (b.den1 F en H) (a.den1 F en H) t) (x.den en)) = fun (en : Env) (H : AHeap) => avB .fail (fun t => Bool.rec (motive := fun _ => Res) (b.den F en H) (a.den F en H) t) (x.den en)
  rw [iha, ihb]
 | block id a ih =>
  show (fun (en : Env) (H : AHeap) => rBlock id (a.den1 F en H)) = fun (en : Env) (H : AHeap) => rBlock id (a.den F en H)
  rw [ih]
 | loop a ih =>
  obtain ⟨N, hN⟩ : ∃ N, N = 1000000 := ⟨_, rfl⟩
  have h1 : (KCode.loop a).den1 F = loopN (a.den1 F) N := by rw [hN]; rfl
  have h2 : (KCode.loop a).den F = loopN (a.den F) N := by rw [hN]; rfl
  rw [h1, h2, ih]
 | _ => rfl
theorem cod_of {c : KCode} {φ : Fs → Env → AHeap → Res} (h : (fun F => c.den1 F) = φ) : (fun F => c.den F) = φ := by
 rw [← h]; funext F; exact (c.den1_eq F).symm
end
end Go.Ab
namespace Go.Ab
open Go
noncomputable section
def q_bad (y : AX) : Bool := AX.casesOn (motive_1 := fun _ => Bool) y true false false false false false (fun _ => false) (fun _ _ _ => false) (fun _ _ => false) (fun _ => false) (fun _ => false) (fun _ => false) (fun _ _ => false) (fun _ _ _ => false) (fun _ _ _ => false)
def q_nilp (y : AX) : Bool := AX.casesOn (motive_1 := fun _ => Bool) y false true false false false false (fun _ => false) (fun _ _ _ => false) (fun _ _ => false) (fun _ => false) (fun _ => false) (fun _ => false) (fun _ _ => false) (fun _ _ _ => false) (fun _ _ _ => false)
def q_nils (y : AX) : Bool := AX.casesOn (motive_1 := fun _ => Bool) y false false true false false false (fun _ => false) (fun _ _ _ => false) (fun _ _ => false) (fun _ => false) (fun _ => false) (fun _ => false) (fun _ _ => false) (fun _ _ _ => false) (fun _ _ _ => false)
def q_nilm (y : AX) : Bool := AX.casesOn (motive_1 := fun _ => Bool) y false false false true false false (fun _ => false) (fun _ _ _ => false) (fun _ _ => false) (fun _ => false) (fun _ => false) (fun _ => false) (fun _ _ => false) (fun _ _ _ => false) (fun _ _ _ => false)
def q_nilf (y : AX) : Bool := AX.casesOn (motive_1 := fun _ => Bool) y false false false false true false (fun _ => false) (fun _ _ _ => false) (fun _ _ => false) (fun _ => false) (fun _ => false) (fun _ => false) (fun _ _ => false) (fun _ _ _ => false) (fun _ _ _ => false)
def q_nili (y : AX) : Bool := AX.casesOn (motive_1 := fun _ => Bool) y false false false false false true (fun _ => false) (fun _ _ _ => false) (fun _ _ => false) (fun _ => false) (fun _ => false) (fun _ => false) (fun _ _ => false) (fun _ _ _ => false) (fun _ _ _ => false)
def q_m (r : Nat) (y : AX) : Bool := AX.casesOn (motive_1 := fun _ => Bool) y false false false false false false (fun r2 => Nat.beq r r2) (fun _ _ _ => false) (fun _ _ => false) (fun _ => false) (fun _ => false) (fun _ => false) (fun _ _ => false) (fun _ _ _ => false) (fun _ _ _ => false)
def q_fn (f : Nat) (_ : List AV) (_ : List AV) (ia : List AV → Bool) (ic : List AV → Bool) (y : AX) : Bool := AX.casesOn (motive_1 := fun _ => Bool) y false false false false false false (fun _ => false) (fun f2 a2 c2 => bif' false (ic c2) (bif' false (ia a2) (Nat.beq f f2))) (fun _ _ => false) (fun _ => false) (fun _ => false) (fun _ => false) (fun _ _ => false) (fun _ _ _ => false) (fun _ _ _ => false)
def q_ifc (t : Nat) (_ : AV) (iv : AV → Bool) (y : AX) : Bool := AX.casesOn (motive_1 := fun _ => Bool) y false false false false false false (fun _ => false) (fun _ _ _ => false) (fun t2 v2 => bif' false (iv v2) (Nat.beq t t2)) (fun _ => false) (fun _ => false) (fun _ => false) (fun _ _ => false) (fun _ _ _ => false) (fun _ _ _ => false)
def q_agg (_ : List AV) (il : List AV → Bool) (y : AX) : Bool := AX.casesOn (motive_1 := fun _ => Bool) y false false false false false false (fun _ => false) (fun _ _ _ => false) (fun _ _ => false) (fun l2 => il l2) (fun _ => false) (fun _ => false) (fun _ _ => false) (fun _ _ _ => false) (fun _ _ _ => false)
def q_tup (_ : List AV) (il : List AV → Bool) (y : AX) : Bool := AX.casesOn (motive_1 := fun _ => Bool) y false false false false false false (fun _ => false) (fun _ _ _ => false) (fun _ _ => false) (fun _ => false) (fun l2 => il l2) (fun _ => false) (fun _ _ => false) (fun _ _ _ => false) (fun _ _ _ => false)
def q_fl (n : Nat) (y : AX) : Bool := AX.casesOn (motive_1 := fun _ => Bool) y false false false false false false (fun _ => false) (fun _ _ _ => false) (fun _ _ => false) (fun _ => false) (fun _ => false) (fun n2 => Nat.beq n n2) (fun _ _ => false) (fun _ _ _ => false) (fun _ _ _ => false)
def q_sy (m : Nat) (r : Nat) (y : AX) : Bool := AX.casesOn (motive_1 := fun _ => Bool) y false false false false false false (fun _ => false) (fun _ _ _ => false) (fun _ _ => false) (fun _ => false) (fun _ => false) (fun _ => false) (fun m2 r2 => bif' false (Nat.beq r r2) (Nat.beq m m2)) (fun _ _ _ => false) (fun _ _ _ => false)
def q_rg (k : Nat) (lo : Nat) (hi : Nat) (y : AX) : Bool := AX.casesOn (motive_1 := fun _ => Bool) y false false false false false false (fun _ => false) (fun _ _ _ => false) (fun _ _ => false) (fun _ => false) (fun _ => false) (fun _ => false) (fun _ _ => false) (fun k2 lo2 hi2 => bif' false (Nat.beq hi hi2) (bif' false (Nat.beq lo lo2) (Nat.beq k k2))) (fun _ _ _ => false)
def q_xs (b : Nat) (o : Nat) (n : Nat) (y : AX) : Bool := AX.casesOn (motive_1 := fun _ => Bool) y false false false false false false (fun _ => false) (fun _ _ _ => false) (fun _ _ => false) (fun _ => false) (fun _ => false) (fun _ => false) (fun _ _ => false) (fun _ _ _ => false) (fun b2 o2 n2 => bif' false (Nat.beq n n2) (bif' false (Nat.beq o o2) (Nat.beq b b2)))
def qv_i (k n : Nat) (u : AV) : Bool := avI false (fun k2 n2 => bif' false (Nat.beq n n2) (Nat.beq k k2)) u
def qv_b (b : Bool) (u : AV) : Bool := avB false (fun c => bEq b c) u
def qv_s (l c : Nat) (u : AV) : Bool := avS false (fun l2 c2 => bif' false (Nat.beq c c2) (Nat.beq l l2)) u
def qv_p (b o : Nat) (u : AV) : Bool := avP false (fun b2 o2 => bif' false (Nat.beq o o2) (Nat.beq b b2)) u
def qv_sl (b o n c : Nat) (u : AV) : Bool := avSl false (fun b2 o2 n2 c2 => bif' false (Nat.beq c c2) (bif' false (Nat.beq n n2) (bif' false (Nat.beq o o2) (Nat.beq b b2)))) u
def qv_x (_ : AX) (ix : AX → Bool) (u : AV) : Bool := avX false ix u
def ql_nil (m : List AV) : Bool := List.rec (motive := fun _ => Bool) true (fun _ _ _ => false) m
def ql_cons (_ : AV) (_ : List AV) (iv : AV → Bool) (il : List AV → Bool) (m : List AV) : Bool := List.rec (motive := fun _ => Bool) false (fun u m _ => bif' false (il m) (iv u)) m
def eqX (x : AX) : AX → Bool := AX.rec (motive_1 := fun _ => AX → Bool) (motive_2 := fun _ => List AV → Bool) (motive_3 := fun _ => AV → Bool) q_bad q_nilp q_nils q_nilm q_nilf q_nili q_m q_fn q_ifc q_agg q_tup q_fl q_sy q_rg q_xs ql_nil ql_cons qv_i qv_b qv_s qv_p qv_sl qv_x x
def eqV (v : AV) : AV → Bool := AX.rec_2 (motive_1 := fun _ => AX → Bool) (motive_2 := fun _ => List AV → Bool) (motive_3 := fun _ => AV → Bool) q_bad q_nilp q_nils q_nilm q_nilf q_nili q_m q_fn q_ifc q_agg q_tup q_fl q_sy q_rg q_xs ql_nil ql_cons qv_i qv_b qv_s qv_p qv_sl qv_x v
def eqVs (l : List AV) : List AV → Bool := AX.rec_1 (motive_1 := fun _ => AX → Bool) (motive_2 := fun _ => List AV → Bool) (motive_3 := fun _ => AV → Bool) q_bad q_nilp q_nils q_nilm q_nilf q_nili q_m q_fn q_ifc q_agg q_tup q_fl q_sy q_rg q_xs ql_nil ql_cons qv_i qv_b qv_s qv_p qv_sl qv_x l
mutual
theorem eqX_eq : ∀ (x y : AX), eqX x y = true → x = y
 | .bad, y, h => by cases y <;> first | rfl | cases h
 | .nilp, y, h => by cases y <;> first | rfl | cases h
 | .nils, y, h => by cases y <;> first | rfl | cases h
 | .nilm, y, h => by cases y <;> first | rfl | cases h
 | .nilf, y, h => by cases y <;> first | rfl | cases h
 | .nili, y, h => by cases y <;> first | rfl | cases h
 | .m r, y, h => by
  cases y with
  | m r2 =>
   have h0 : Nat.beq r r2 = true := h
   rw [Nat.eq_of_beq_eq_true h0]
  | _ => cases h
 | .fn f a c, y, h => by
  cases y with
  | fn f2 a2 c2 =>
   have h0 : bif' false (eqVs c c2) (bif' false (eqVs a a2) (Nat.beq f f2)) = true := h
   obtain ⟨g2, k2⟩ := bif_tt h0
   obtain ⟨g1, k1⟩ := bif_tt k2
   rw [Nat.eq_of_beq_eq_true k1, eqVs_eq _ _ g1, eqVs_eq _ _ g2]
  | _ => cases h
 | .ifc t v, y, h => by
  cases y with
  | ifc t2 v2 =>
   have h0 : bif' false (eqV v v2) (Nat.beq t t2) = true := h
   obtain ⟨g1, k1⟩ := bif_tt h0
   rw [Nat.eq_of_beq_eq_true k1, eqV_eq _ _ g1]
  | _ => cases h
 | .agg l, y, h => by
  cases y with
  | agg l2 =>
   have h0 : eqVs l l2 = true := h
   rw [eqVs_eq _ _ h0]
  | _ => cases h
 | .tup l, y, h => by
  cases y with
  | tup l2 =>
   have h0 : eqVs l l2 = true := h
   rw [eqVs_eq _ _ h0]
  | _ => cases h
 | .fl n, y, h => by
  cases y with
  | fl n2 =>
   have h0 : Nat.beq n n2 = true := h
   rw [Nat.eq_of_beq_eq_true h0]
  | _ => cases h
 | .sy m r, y, h => by
  cases y with
  | sy m2 r2 =>
   have h0 : bif' false (Nat.beq r r2) (Nat.beq m m2) = true := h
   obtain ⟨g1, k1⟩ := bif_tt h0
   rw [Nat.eq_of_beq_eq_true k1, Nat.eq_of_beq_eq_true g1]
  | _ => cases h
 | .rg k lo hi, y, h => by
  cases y with
  | rg k2 lo2 hi2 =>
   have h0 : bif' false (Nat.beq hi hi2) (bif' false (Nat.beq lo lo2) (Nat.beq k k2)) = true := h
   obtain ⟨g2, k2⟩ := bif_tt h0
   obtain ⟨g1, k1⟩ := bif_tt k2
   rw [Nat.eq_of_beq_eq_true k1, Nat.eq_of_beq_eq_true g1, Nat.eq_of_beq_eq_true g2]
  | _ => cases h
 | .xs b o n, y, h => by
  cases y with
  | xs b2 o2 n2 =>
   have h0 : bif' false (Nat.beq n n2) (bif' false (Nat.beq o o2) (Nat.beq b b2)) = true := h
   obtain ⟨g2, k2⟩ := bif_tt h0
   obtain ⟨g1, k1⟩ := bif_tt k2
   rw [Nat.eq_of_beq_eq_true k1, Nat.eq_of_beq_eq_true g1, Nat.eq_of_beq_eq_true g2]
  | _ => cases h
theorem eqV_eq : ∀ (x y : AV), eqV x y = true → x = y
 | .i k n, y, h => by
  cases y with
  | i k2 n2 =>
   have h0 : bif' false (Nat.beq n n2) (Nat.beq k k2) = true := h
   obtain ⟨g1, k1⟩ := bif_tt h0
   rw [Nat.eq_of_beq_eq_true k1, Nat.eq_of_beq_eq_true g1]
  | _ => cases h
 | .b b, y, h => by
  cases y with
  | b b2 =>
   have h0 : bEq b b2 = true := h
   rw [bEq_eq] at h0
   rw [eq_of_beq h0]
  | _ => cases h
 | .s l c, y, h => by
  cases y with
  | s l2 c2 =>
   have h0 : bif' false (Nat.beq c c2) (Nat.beq l l2) = true := h
   obtain ⟨g1, k1⟩ := bif_tt h0
   rw [Nat.eq_of_beq_eq_true k1, Nat.eq_of_beq_eq_true g1]
  | _ => cases h
 | .p b o, y, h => by
  cases y with
  | p b2 o2 =>
   have h0 : bif' false (Nat.beq o o2) (Nat.beq b b2) = true := h
   obtain ⟨g1, k1⟩ := bif_tt h0
   rw [Nat.eq_of_beq_eq_true k1, Nat.eq_of_beq_eq_true g1]
  | _ => cases h
 | .sl b o n c, y, h => by
  cases y with
  | sl b2 o2 n2 c2 =>
   have h0 : bif' false (Nat.beq c c2) (bif' false (Nat.beq n n2) (bif' false (Nat.beq o o2) (Nat.beq b b2))) = true := h
   obtain ⟨g3, k3⟩ := bif_tt h0
   obtain ⟨g2, k2⟩ := bif_tt k3
   obtain ⟨g1, k1⟩ := bif_tt k2
   rw [Nat.eq_of_beq_eq_true k1, Nat.eq_of_beq_eq_true g1, Nat.eq_of_beq_eq_true g2, Nat.eq_of_beq_eq_true g3]
  | _ => cases h
 | .x x, y, h => by
  cases y with
  | x x2 =>
   have h0 : eqX x x2 = true := h
   rw [eqX_eq _ _ h0]
  | _ => cases h
theorem eqVs_eq : ∀ (x y : List AV), eqVs x y = true → x = y
 | [], [], _ => rfl
 | [], _ :: _, h => by cases h
 | _ :: _, [], h => by cases h
 | v :: l, u :: m, h => by
  obtain ⟨h1, h2⟩ := bif_tt (show bif' false (eqVs l m) (eqV v u) = true from h)
  rw [eqV_eq _ _ h2, eqVs_eq _ _ h1]
end
def eqTr {α : Type} (f : α → α → Bool) (t : BT α) : BT α → Bool :=
 BT.rec (motive := fun _ => BT α → Bool) (fun u => BT.rec (motive := fun _ => Bool) true (fun _ _ _ _ _ => false) u)
  (fun _ v _ il ir u => BT.rec (motive := fun _ => Bool) false (fun l2 v2 r2 _ _ => bif' false (bif' false (ir r2) (il l2)) (f v v2)) u) t
theorem eqTr_eq {α : Type} {f : α → α → Bool} (hf : ∀ x y, f x y = true → x = y) : ∀ (t u : BT α), eqTr f t u = true → t = u
 | .lf, .lf, _ => rfl
 | .lf, .nd _ _ _, h => by cases h
 | .nd _ _ _, .lf, h => by cases h
 | .nd l v r, .nd l2 v2 r2, h => by
  obtain ⟨h1, h2⟩ := bif_tt (show bif' false (bif' false (eqTr f r r2) (eqTr f l l2)) (f v v2) = true from h)
  obtain ⟨h3, h4⟩ := bif_tt h1
  rw [hf _ _ h2, eqTr_eq hf _ _ h3, eqTr_eq hf _ _ h4]
def eqEs (l : List (AV × AV)) : List (AV × AV) → Bool :=
 List.rec (motive := fun _ => List (AV × AV) → Bool) (fun m => List.rec (motive := fun _ => Bool) true (fun _ _ _ => false) m) (fun p _ ih m => List.rec (motive := fun _ => Bool) false (fun q m _ => bif' false (bif' false (ih m) (eqV p.2 q.2)) (eqV p.1 q.1)) m) l
theorem eqEs_eq : ∀ (l m : List (AV × AV)), eqEs l m = true → l = m
 | [], [], _ => rfl
 | [], _ :: _, h => by cases h
 | _ :: _, [], h => by cases h
 | (a, b) :: l, (c, d) :: m, h => by
  obtain ⟨h1, h2⟩ := bif_tt (show bif' false (bif' false (eqEs l m) (eqV b d)) (eqV a c) = true from h)
  obtain ⟨h3, h4⟩ := bif_tt h1
  rw [eqV_eq _ _ h2, eqEs_eq _ _ h3, eqV_eq _ _ h4]
def eqBl (x : ABlk) : ABlk → Bool := ABlk.rec (motive := fun _ => ABlk → Bool)
 (fun n t w sp y => ABlk.rec (motive := fun _ => Bool) (fun n2 t2 w2 sp2 => bif' false (bif' false (bif' false (eqTr eqV t t2) (Nat.beq sp sp2)) (bEq w w2)) (Nat.beq n n2)) (fun _ => false) false y)
 (fun es y => ABlk.rec (motive := fun _ => Bool) (fun _ _ _ _ => false) (fun es2 => eqEs es es2) false y)
 (fun y => ABlk.rec (motive := fun _ => Bool) (fun _ _ _ _ => false) (fun _ => false) true y) x
theorem eqBl_eq (x y : ABlk) (h : eqBl x y = true) : x = y := by
 cases x with
 | c n t w sp =>
  cases y with
  | c n2 t2 w2 sp2 =>
   obtain ⟨h1, h2⟩ := bif_tt (show bif' false (bif' false (bif' false (eqTr eqV t t2) (Nat.beq sp sp2)) (bEq w w2)) (Nat.beq n n2) = true from h)
   obtain ⟨h3, h4⟩ := bif_tt h1
   obtain ⟨h5, h6⟩ := bif_tt h3
   rw [bEq_eq] at h4
   rw [Nat.eq_of_beq_eq_true h2, eq_of_beq h4, eqTr_eq eqV_eq _ _ h5, Nat.eq_of_beq_eq_true h6]
  | _ => cases h
 | m es =>
  cases y with
  | m es2 => rw [eqEs_eq es es2 h]
  | _ => cases h
 | dead => cases y <;> first | rfl | cases h
def eqHp (H H2 : AHeap) : Bool := bif' false (bif' false (eqTr eqBl H.t H2.t) (Nat.beq H.low H2.low)) (Nat.beq H.nxt H2.nxt)
theorem eqHp_eq (H H2 : AHeap) (h : eqHp H H2 = true) : H = H2 := by
 obtain ⟨h1, h2⟩ := bif_tt (show bif' false (bif' false (eqTr eqBl H.t H2.t) (Nat.beq H.low H2.low)) (Nat.beq H.nxt H2.nxt) = true from h)
 obtain ⟨h3, h4⟩ := bif_tt h1
 cases H; cases H2
 dsimp only at h2 h3 h4
 rw [eqTr_eq eqBl_eq _ _ h3, Nat.eq_of_beq_eq_true h2, Nat.eq_of_beq_eq_true h4]
structure HRow where
 args : List AV
 H : AHeap
 v : AV
 H' : AHeap
def HRow.fits (r : HRow) (args : List AV) (H : AHeap) : Bool := bif' false (eqHp r.H H) (eqVs r.args args)
def lookH (rows : List HRow) (args : List AV) (H : AHeap) : Option HRow :=
 List.rec (motive := fun _ => Option HRow) none (fun r _ ih => Bool.rec (motive := fun _ => Option HRow) ih (some r) (r.fits args H)) rows
theorem lookH_spec : ∀ {rows : List HRow} {args : List AV} {H : AHeap} {r : HRow}, lookH rows args H = some r → r ∈ rows ∧ r.args = args ∧ r.H = H
 | [], _, _, _, h => by cases h
 | r :: rows, args, H, q, h => by
  have he : lookH (r :: rows) args H = Bool.rec (motive := fun _ => Option HRow) (lookH rows args H) (some r) (r.fits args H) := rfl
  rw [he] at h
  cases hc : r.fits args H with
  | true =>
   rw [hc] at h
   obtain ⟨h1, h2⟩ := bif_tt (show bif' false (eqHp r.H H) (eqVs r.args args) = true from hc)
   cases h
   exact ⟨List.mem_cons_self, eqVs_eq _ _ h2, eqHp_eq _ _ h1⟩
  | false =>
   rw [hc] at h
   obtain ⟨h1, h2⟩ := lookH_spec h
   exact ⟨List.mem_cons_of_mem _ h1, h2⟩
def isRow (v : AV) (H : AHeap) (r : ORes) : Bool := ORes.rec (motive := fun _ => Bool) (fun u X => bif' false (eqHp X H) (eqV u v)) (fun _ _ => false) false r
theorem isRow_eq {v : AV} {H : AHeap} {r : ORes} (h : isRow v H r = true) : r = .v v H := by
 cases r with
 | v u X =>
  obtain ⟨h1, h2⟩ := bif_tt (show bif' false (eqHp X H) (eqV u v) = true from h)
  rw [eqV_eq _ _ h2, eqHp_eq _ _ h1]
 | _ => cases h
def mkH (bs : List ABlk) (low : Nat) : AHeap := ⟨BT.ofList bs.reverse, bs.length, low⟩
end
end Go.Ab
