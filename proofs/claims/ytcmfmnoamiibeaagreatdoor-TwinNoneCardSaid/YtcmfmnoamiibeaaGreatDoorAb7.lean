/- A logic over an abstract memory, and that it is sound (7 of 8). -/
import Derived.Recover
import Derived.Test.YtcmfmnoamiibeaaGreatDoorAb6
namespace Go.Ab
open Go
inductive KR where
  | one (x : KO)
  | c1 (x : KO)
  | cN (n : Nat) (x : KO)
structure KFun where
  n : Nat
  S : BT Nat
  T0 : BT AV
  ps : List VP
  body : KCode
  rs : List KR
noncomputable section
def KR.den (r : KR) (en : Env) (H : AHeap) : Option AV :=
  KR.rec (motive := fun _ => Option AV) (fun x => some (x.den en))
    (fun x => avP none (fun b o => blkC none (fun n t _ _ => bif' none (t.get o) (Nat.ble (Nat.add o 1) n)) (H.get b)) (x.den en))
    (fun n x => avP none (fun b o => optL none (fun l => some (.x (.agg l))) (readN H b o n)) (x.den en)) r
def evalR (rs : List KR) (en : Env) (H : AHeap) : Option (List AV) :=
  List.rec (motive := fun _ => Option (List AV)) (some []) (fun r _ ih => optE none (fun v => optL none (fun l => some (v :: l)) ih) (r.den en H)) rs
def KR.ok (P : Program) (S : BT Nat) (r : KR) (v : ResultVar) : Bool :=
  match r, v with
  | .one x, .tmp t => x.ok P S (.tmp t)
  | .c1 x, .cell a t => x.ok P S (.tmp a) && decide (aggOf P t = some none)
  | .cN n x, .cell a t => x.ok P S (.tmp a) && decide (aggOf P t = some (some n))
  | _, _ => false
variable {S : BT Nat}
def resRun (tmps : Array Value) (v : ResultVar) : Sem Value :=
  match v with
  | .tmp t => pure (tmps.getD t undef)
  | .cell a t => do loadVar t (← asAddr (tmps.getD a undef))
theorem KR.ok_run {P : Program} {r : KR} {v : ResultVar} (h : r.ok P S v = true) {n : Nat} {D : DF} {e : Emb} {en : Env} {a : Act} {H : AHeap} {w : World} (hr : Rel P.globals.size e H w) (ha : ARel S n D e en a)
    {u : AV} (hu : r.den en H = some u) : ∃ u', (resRun a.tmps v).run P w = .ok u' w ∧ VRel e u u' := by
  cases r with
  | one x =>
    cases v with
    | tmp t =>
      cases hu
      exact ⟨_, rfl, KO.ok_spec h n D e en a H w hr ha⟩
    | cell => cases h
  | c1 x =>
    cases v with
    | tmp t => cases h
    | cell at' t =>
      simp only [KR.ok, Bool.and_eq_true, decide_eq_true_eq] at h
      obtain ⟨hx, ht⟩ := h
      have h1 := KO.ok_spec hx n D e en a H w hr ha
      have hu' : avP none (fun b o => blkC none (fun n t _ _ => bif' none (t.get o) (Nat.ble (Nat.add o 1) n)) (H.get b)) (x.den en) = some u := hu
      cases hd : x.den en with
      | p b k =>
        rw [hd] at hu' h1
        simp only [avP] at hu'
        cases hb : H.get b with
        | none => rw [hb] at hu'; cases hu'
        | some y =>
          rw [hb] at hu'
          cases y with
          | c N T wr sp =>
            simp only [blkC, bif'] at hu'
            cases hk : Nat.ble (Nat.add k 1) N with
            | false => rw [hk] at hu'; cases hu'
            | true =>
              rw [hk] at hu'
              have hk' : k < N := by rw [ble_tt] at hk; exact hk
              generalize hxv : a.eval (.tmp at') = xv at h1
              cases h1
              rename_i i hi
              obtain ⟨e1, e2, e3, C, ty, z, c1, c2, c3, c4⟩ := hr.obj b i _ hi hb
              obtain ⟨u0, v', g1, g2, g3⟩ := c4 k hk'
              have hu2 : T.get k = some u := hu'
              rw [hu2] at g1; cases g1
              refine ⟨v', ?_, g3⟩
              have hcell := cell_of c1 (i.off + k)
              rw [g2] at hcell
              have hxv' : a.tmps.getD at' undef = .pointer (some ⟨i.blk, i.off + k, none⟩) := hxv
              simp [resRun, hxv', asAddr, loadVar, run_isAgg_none ht, hcell]
          | _ => cases hu'
      | _ => rw [hd] at hu'; cases hu'
  | cN m x =>
    cases v with
    | tmp t => cases h
    | cell at' t =>
      simp only [KR.ok, Bool.and_eq_true, decide_eq_true_eq] at h
      obtain ⟨hx, ht⟩ := h
      have h1 := KO.ok_spec hx n D e en a H w hr ha
      have hu' : avP none (fun b o => optL none (fun l => some (.x (.agg l))) (readN H b o m)) (x.den en) = some u := hu
      cases hd : x.den en with
      | p b k =>
        rw [hd] at hu' h1
        simp only [avP] at hu'
        cases hl : readN H b k m with
        | none => rw [hl] at hu'; cases hu'
        | some l =>
          rw [hl] at hu'
          simp only [optL] at hu'
          cases hu'
          generalize hxv : a.eval (.tmp at') = xv at h1
          cases h1
          rename_i i hi
          obtain ⟨l', g1, g2, g3, g4⟩ := readN_spec hl hr hi
          obtain ⟨t1, t2⟩ := run_isAgg_some ht w
          refine ⟨.agg l'.toArray, ?_, .agg l l' g2⟩
          have hrun := run_loadCells_list (P := P) w _ l' g3
          rw [g1] at hrun
          have hxv' : a.tmps.getD at' undef = .pointer (some ⟨i.blk, i.off + k, none⟩) := hxv
          simp [resRun, hxv', asAddr, loadVar, t1, t2, hrun]
      | _ => rw [hd] at hu'; cases hu'
theorem evalR_run {P : Program} {n : Nat} {D : DF} {e : Emb} {en : Env} {a : Act} {H : AHeap} {w : World} (hr : Rel P.globals.size e H w) (ha : ARel S n D e en a) :
    ∀ (rs : List KR) (vs : List ResultVar) (l : List AV), sameL (KR.ok P S) rs vs = true → evalR rs en H = some l → ∃ l', (vs.mapM (resRun a.tmps)).run P w = .ok l' w ∧ VRels e l l'
  | [], [], l, _, h => by cases h; exact ⟨[], by simp, .nil⟩
  | r :: rs, v :: vs, l, hok, h => by
    simp only [sameL, Bool.and_eq_true] at hok
    have h' : optE none (fun v => optL none (fun l => some (v :: l)) (evalR rs en H)) (r.den en H) = some l := h
    cases h1 : r.den en H with
    | none => rw [h1] at h'; cases h'
    | some u =>
      rw [h1] at h'
      cases h2 : evalR rs en H with
      | none => rw [h2] at h'; cases h'
      | some m =>
        rw [h2] at h'
        cases h'
        obtain ⟨u', q1, q2⟩ := KR.ok_run hok.1 hr ha h1
        obtain ⟨m', q3, q4⟩ := evalR_run hr ha rs vs m hok.2 h2
        exact ⟨u' :: m', by simp only [List.mapM_cons, Sem.run_bind, q1, Result.andThen_ok, q3, Sem.run_pure], .cons q2 q4⟩
  | [], _ :: _, _, h, _ => by simp [sameL] at h
  | _ :: _, [], _, h, _ => by simp [sameL] at h
def packA (l : List AV) : AV := List.rec (motive := fun _ => AV) (.x (.tup [])) (fun v m _ => List.rec (motive := fun _ => AV) v (fun _ _ _ => .x (.tup (v :: m))) m) l
theorem results_run {P : Program} {fn : Func} {n : Nat} {D : DF} {e : Emb} {en : Env} {a : Act} {H : AHeap} {w : World} (hr : Rel P.globals.size e H w) (ha : ARel S n D e en a) {rs : List KR} {l : List AV}
    (hok : sameL (KR.ok P S) rs fn.results.toList = true) (h : evalR rs en H = some l) : ∃ v', (results fn a.tmps).run P w = .ok v' w ∧ VRel e (packA l) v' := by
  obtain ⟨l', h1, h2⟩ := evalR_run hr ha rs _ l hok h
  have hres : results fn a.tmps = (do let vs ← fn.results.mapM (resRun a.tmps); pure (if h : vs.size = 1 then vs[0] else .tuple vs)) := rfl
  have hm : (fn.results.mapM (resRun a.tmps)).run P w = .ok l'.toArray w := by
    rw [Array.mapM_eq_mapM_toList]
    rw [map_eq_pure_bind]
    simp only [Sem.run_bind, h1, Result.andThen_ok, Sem.run_pure]
  rw [hres]
  simp only [Sem.run_bind, hm, Result.andThen_ok, Sem.run_pure]
  cases h2 with
  | nil => exact ⟨_, rfl, .tup [] [] .nil⟩
  | cons hv ht =>
    cases ht with
    | nil => exact ⟨_, rfl, hv⟩
    | cons hv2 ht2 => exact ⟨_, rfl, .tup _ _ (.cons hv (.cons hv2 ht2))⟩
def plainA (v : AV) : Bool :=
  AVp.rec (motive := fun _ => Bool) (fun _ _ => true) (fun _ => true) (fun _ _ => true) (fun _ _ => false) (fun _ _ _ _ => false)
    (fun x => AX.casesOn (motive_1 := fun _ => Bool) x false true true true true true (fun _ => false) (fun _ _ _ => false) (fun _ _ => false) (fun _ => false) (fun _ => false) (fun _ => true) (fun _ _ => true) (fun _ _ _ => true) (fun _ _ _ => false)) v
def plainL (l : List AV) : Bool := List.rec (motive := fun _ => Bool) true (fun v _ ih => Bool.rec (motive := fun _ => Bool) false ih (plainA v)) l
theorem plainL_cons (v : AV) (l : List AV) : plainL (v :: l) = (plainA v && plainL l) := by
  have h : plainL (v :: l) = Bool.rec (motive := fun _ => Bool) false (plainL l) (plainA v) := rfl
  rw [h]; cases plainA v <;> rfl
theorem plainA_rel {e e' : Emb} {v : AV} {v' : Value} (h : VRel e v v') (hp : plainA v = true) : VRel e' v v' := by
  cases h with
  | i k n hk hn => exact .i k n hk hn
  | b v => exact .b v
  | s l c h => exact .s l c h
  | nilp => exact .nilp
  | nils => exact .nils
  | nilm => exact .nilm
  | nilf => exact .nilf
  | nili => exact .nili
  | fl b => exact .fl b
  | rg k lo hi n hk hn h1 h2 => exact .rg k lo hi n hk hn h1 h2
  | sy m r n hn hi => exact .sy m r n hn hi
  | _ => cases hp
theorem plainL_rel {e e' : Emb} : ∀ {l : List AV} {l' : List Value}, VRels e l l' → plainL l = true → VRels e' l l'
  | _, _, .nil, _ => .nil
  | _, _, .cons hv ht, hp => by
    rw [plainL_cons, Bool.and_eq_true] at hp
    exact .cons (plainA_rel hv hp.1) (plainL_rel ht hp.2)
theorem Evo.back {G : Nat} {e e' : Emb} {H H' : AHeap} {w w' : World} (h : Evo G e (H.withLow H.nxt) w e' H' w') : Evo G e H w e' (H'.withLow (minN H.low H'.low)) w' := by
  rw [minN_eq]; exact h.withLow
theorem packA_plain {e' e : Emb} {l : List AV} {v' : Value} (q2 : VRel e' (packA l) v') (hp : plainL l = true) : VRel e (packA l) v' := by
  cases l with
  | nil =>
    have : v' = .tuple #[] := by cases q2; rename_i h; cases h; rfl
    subst this
    exact .tup [] [] .nil
  | cons x m =>
    cases m with
    | nil =>
      rw [plainL_cons, Bool.and_eq_true] at hp
      exact plainA_rel q2 hp.1
    | cons y m =>
      have q3 : VRel e' (.x (.tup (x :: y :: m))) v' := q2
      cases q3
      rename_i l' hl'
      exact .tup _ _ (plainL_rel hl' hp)
def okA (H : AHeap) (v : AV) : Bool :=
  AVp.rec (motive := fun _ => Bool) (fun _ _ => true) (fun _ => true) (fun _ _ => true) (fun b _ => Nat.ble (Nat.add b 1) H.nxt) (fun b _ _ _ => Nat.ble (Nat.add b 1) H.nxt)
    (fun x => AX.casesOn (motive_1 := fun _ => Bool) x false true true true true true (fun r => Nat.ble (Nat.add r 1) H.nxt) (fun _ _ _ => false) (fun _ _ => false) (fun _ => false) (fun _ => false) (fun _ => true) (fun _ _ => true) (fun _ _ _ => true) (fun b _ _ => Nat.ble (Nat.add b 1) H.nxt)) v
def okL (H : AHeap) (l : List AV) : Bool := List.rec (motive := fun _ => Bool) true (fun v _ ih => Bool.rec (motive := fun _ => Bool) false ih (okA H v)) l
theorem okL_cons (H : AHeap) (v : AV) (l : List AV) : okL H (v :: l) = (okA H v && okL H l) := by
  have h : okL H (v :: l) = Bool.rec (motive := fun _ => Bool) false (okL H l) (okA H v) := rfl
  rw [h]; cases okA H v <;> rfl
def okBT (H : AHeap) (t : BT AV) : Bool := BT.rec (motive := fun _ => Bool) true (fun _ v _ il ir => Bool.rec (motive := fun _ => Bool) false (Bool.rec (motive := fun _ => Bool) false ir il) (okA H v)) t
theorem okA_rel {H : AHeap} {e e' : Emb} (hold : ∀ b i, b < H.nxt → e' b = some i → e b = some i) {v : AV} {v' : Value} (h : VRel e' v v') (hp : okA H v = true) : VRel e v v' := by
  have lt : ∀ b, Nat.ble (Nat.add b 1) H.nxt = true → b < H.nxt := fun b h => by rw [ble_tt] at h; exact h
  cases h with
  | i k n hk hn => exact .i k n hk hn
  | b v => exact .b v
  | s l c h => exact .s l c h
  | p b o i hi => exact .p b o i (hold b i (lt b hp) hi)
  | sl b o n c c' i hi hc => exact .sl b o n c c' i (hold b i (lt b hp) hi) hc
  | slq b o a => exact .slq b o a
  | m r i hi => exact .m r i (hold r i (lt r hp) hi)
  | xs b o n i hi => exact .xs b o n i (hold b i (lt b hp) hi)
  | nilp => exact .nilp
  | nils => exact .nils
  | nilm => exact .nilm
  | nilf => exact .nilf
  | nili => exact .nili
  | fl b => exact .fl b
  | rg k lo hi n hk hn h1 h2 => exact .rg k lo hi n hk hn h1 h2
  | sy m r n hn hi => exact .sy m r n hn hi
  | _ => cases hp
theorem okL_rel {H : AHeap} {e e' : Emb} (hold : ∀ b i, b < H.nxt → e' b = some i → e b = some i) : ∀ {l : List AV} {l' : List Value}, VRels e' l l' → okL H l = true → VRels e l l'
  | _, _, .nil, _ => .nil
  | _, _, .cons hv ht, hp => by
    rw [okL_cons, Bool.and_eq_true] at hp
    exact .cons (okA_rel hold hv hp.1) (okL_rel hold ht hp.2)
theorem okBT_get {H : AHeap} : ∀ {t : BT AV} {k : Nat} {v : AV}, okBT H t = true → t.get k = some v → okA H v = true
  | .lf, k, v, _, h => by simp at h
  | .nd l u r, k, v, hp, h => by
    have hp' : Bool.rec (motive := fun _ => Bool) false (Bool.rec (motive := fun _ => Bool) false (okBT H r) (okBT H l)) (okA H u) = true := hp
    cases c1 : okA H u with
    | false => rw [c1] at hp'; cases hp'
    | true =>
    rw [c1] at hp'
    cases c2 : okBT H l with
    | false => rw [c2] at hp'; cases hp'
    | true =>
    rw [c2] at hp'
    rw [BT.get_nd] at h
    split at h
    · cases h; exact c1
    · split at h
      · exact okBT_get c2 h
      · exact okBT_get hp' h
theorem packA_ok {H : AHeap} {e' e : Emb} (hold : ∀ b i, b < H.nxt → e' b = some i → e b = some i) {l : List AV} {v' : Value} (q2 : VRel e' (packA l) v') (hp : okL H l = true) : VRel e (packA l) v' := by
  cases l with
  | nil =>
    have : v' = .tuple #[] := by cases q2; rename_i h; cases h; rfl
    subst this
    exact .tup [] [] .nil
  | cons x m =>
    cases m with
    | nil =>
      rw [okL_cons, Bool.and_eq_true] at hp
      exact okA_rel hold q2 hp.1
    | cons y m =>
      have q3 : VRel e' (.x (.tup (x :: y :: m))) v' := q2
      cases q3
      rename_i l' hl'
      exact .tup _ _ (okL_rel hold hl' hp)
theorem Evo.holds {G : Nat} {e e' : Emb} {H H' : AHeap} {w w' : World} (h : Evo G e (H.withLow H.nxt) w e' H' w') : ∀ b i, b < H.nxt → e' b = some i → e b = some i := fun b i hb hi => by
  cases he : e b with
  | none => have := (h.fresh b i he hi).1; simp at this; omega
  | some j =>
    have := h.ext b j he
    rw [hi] at this
    exact this.symm
theorem Evo.keep1 {G : Nat} {e e' : Emb} {H H' : AHeap} {w w' : World} (hr : Rel G e H w) (h : Evo G e (H.withLow H.nxt) w e' H' w') (hl : H.nxt ≤ H'.low) {b n : Nat} {t : BT AV} {wr : Bool} {sp : Nat} {i : Info} (hb : H.nxt ≤ b) (hi : e' b = some i) (hx : H'.get b = some (.c n t wr sp))
    (hp : okBT H t = true) : Evo G e H w (e.put H.nxt i) (H.alloc (.c n t wr sp)) w' := by
  have hf : ∀ B, B < w.heap.size → w'.heap[B]? = w.heap[B]? := fun B hB => h.frame B hB fun b i hb _ => .inr (Nat.lt_of_lt_of_le (hr.lt b i hb) hl)
  have h0 := hr.none_nxt
  have hext := Emb.put_ext (i := i) h0
  have hget : ∀ c, c ≠ H.nxt → (H.alloc (.c n t wr sp)).get c = H.get c := fun c hc => by rw [AHeap.get_alloc, if_neg hc]
  have hgetn : (H.alloc (.c n t wr sp)).get H.nxt = some (.c n t wr sp) := by rw [AHeap.get_alloc, if_pos rfl]
  have hold : ∀ c j, e c = some j → c ≠ H.nxt ∧ c < H.nxt ∧ c ≠ b := fun c j hj => by have := hr.lt c j hj; omega
  have hsame : ∀ c, c < H.nxt → H'.get c = H.get c := fun c hc => h.same c hc (Nat.lt_of_lt_of_le hc hl)
  have heb : e b = none := by
    cases hq : e b with
    | none => rfl
    | some j => have := hr.lt b j hq; omega
  have hsz : w.heap.size ≤ i.blk := by
    obtain ⟨_, hc⟩ := h.fresh b i heb hi
    rcases hc with hc | ⟨b0, i0, q1, _, _, q4⟩
    · exact hc
    · have := hr.lt b0 i0 q1; omega
  refine { rel := ?_, ext := hext, size := h.size, tape := h.tape, os := h.os, out := h.out, nxt := by simp, low := Nat.le_refl _, same := ?_, dead := ?_, fresh := ?_, frame := fun B hB _ => hf B hB }
  · refine { lt := ?_, bnd := ?_, glob := ?_, obj := ?_, sep := ?_ }
    · intro c j hj
      rcases Emb.put_cases hj with ⟨rfl, _⟩ | ⟨_, hj⟩
      · simp
      · have := hr.lt c j hj; simp; omega
    · intro c j hj
      rcases Emb.put_cases hj with ⟨_, rfl⟩ | ⟨_, hj⟩
      · exact h.rel.bnd b _ hi
      · exact Nat.lt_of_lt_of_le (hr.bnd c j hj) h.size
    · intro g hg
      obtain ⟨j, hj, q1, q2⟩ := hr.glob g hg
      exact ⟨j, hext g j hj, q1, q2⟩
    · intro c j y hj hg
      rcases Emb.put_cases hj with ⟨rfl, rfl⟩ | ⟨hne, hj⟩
      · rw [hgetn] at hg
        cases hg
        obtain ⟨a1, a2, a3, C, ty, z, a4, a5, a6, a7⟩ := h.rel.obj b _ _ hi hx
        exact ⟨a1, a2, a3, C, ty, z, a4, a5, a6, fun k hk => let ⟨v, v', q1, q2, q3⟩ := a7 k hk; ⟨v, v', q1, q2, (okA_rel h.holds q3 (okBT_get hp q1)).mono hext⟩⟩
      · rw [hget c hne] at hg
        rw [hf _ (hr.bnd c j hj)]
        exact (hr.obj c j y hj hg).mono hext
    · intro b1 i1 b2 i2 h1 h2 hne ho ha
      have own : ∀ c, c < H.nxt → (H.alloc (.c n t wr sp)).owned c → H'.owned c := fun c hc ho => by
        unfold AHeap.owned at *; rwa [hget c (by omega), ← hsame c hc] at ho
      have al : ∀ c, c < H.nxt → (H.alloc (.c n t wr sp)).alive c → H'.alive c := fun c hc ho => by
        unfold AHeap.alive at *; rwa [hget c (by omega), ← hsame c hc] at ho
      have ownb : (H.alloc (.c n t wr sp)).owned H.nxt → H'.owned b := fun ho => by
        unfold AHeap.owned at *; rwa [hgetn, ← hx] at ho
      have alb : (H.alloc (.c n t wr sp)).alive H.nxt → H'.alive b := fun _ => ⟨_, hx, by simp⟩
      rcases Emb.put_cases h1 with ⟨rfl, rfl⟩ | ⟨hn1, q1⟩ <;> rcases Emb.put_cases h2 with ⟨rfl, rfl⟩ | ⟨hn2, q2⟩
      · exact absurd rfl hne
      · exact h.rel.sep b _ b2 i2 hi (h.ext _ _ q2) (Ne.symm (hold b2 i2 q2).2.2) (ownb ho) (al b2 (hold b2 i2 q2).2.1 ha)
      · exact h.rel.sep b1 i1 b _ (h.ext _ _ q1) hi (hold b1 i1 q1).2.2 (own b1 (hold b1 i1 q1).2.1 ho) (alb ha)
      · exact h.rel.sep b1 i1 b2 i2 (h.ext _ _ q1) (h.ext _ _ q2) hne (own b1 (hold b1 i1 q1).2.1 ho) (al b2 (hold b2 i2 q2).2.1 ha)
  · intro c hc _; exact hget c (by omega)
  · intro c hc
    rw [hget c (by intro he; subst he; have := AHeap.lt_of_get hc; omega)]
    exact hc
  · intro c j hc hj
    rcases Emb.put_cases hj with ⟨rfl, rfl⟩ | ⟨_, hj⟩
    · exact ⟨Nat.le_refl _, .inl hsz⟩
    · rw [hc] at hj; cases hj
def row1 (H H' : AHeap) (v : AV) (m : List AV) : Option ORes :=
  avSl none (fun b o len cap => blkC none (fun n t w sp => Bool.rec (motive := fun _ => Option ORes) none (some (.v (packA (.sl H.nxt 0 len cap :: m)) (H.alloc (.c n t w sp))))
    (Bool.rec (motive := fun _ => Bool) false (Bool.rec (motive := fun _ => Bool) false (Bool.rec (motive := fun _ => Bool) false (Bool.rec (motive := fun _ => Bool) false (okL H m) (okBT H t)) (Nat.ble 1 len)) (Nat.ble H.nxt b)) (Nat.beq o 0))) (H'.get b)) v
def backV (l : List AV) (H H' : AHeap) : ORes :=
  Bool.rec (motive := fun _ => ORes) (.v (packA l) (H'.withLow (minN H.low H'.low)))
    (Bool.rec (motive := fun _ => ORes) (Option.rec (motive := fun _ => ORes) (.v (packA l) (H'.withLow (minN H.low H'.low))) (fun r => r) (List.rec (motive := fun _ => Option ORes) none (fun v m _ => row1 H H' v m) l)) (.v (packA l) H) (okL H l)) (Nat.ble H.nxt H'.low)
theorem backV_v (l : List AV) (H H' : AHeap) : ∃ v H'', backV l H H' = .v v H'' := by
  unfold backV
  cases Nat.ble H.nxt H'.low with
  | false => exact ⟨_, _, rfl⟩
  | true =>
    cases okL H l with
    | true => exact ⟨_, _, rfl⟩
    | false =>
      cases l with
      | nil => exact ⟨_, _, rfl⟩
      | cons v m =>
        simp only
        cases hk : row1 H H' v m with
        | none => exact ⟨_, _, rfl⟩
        | some r =>
          unfold row1 at hk
          cases v with
          | sl b o len cap =>
            simp only [avSl] at hk
            cases hb : H'.get b with
            | none => rw [hb] at hk; cases hk
            | some x =>
              rw [hb] at hk
              cases x with
              | c n t wr sp =>
                simp only [blkC] at hk
                generalize (Bool.rec false (Bool.rec false (Bool.rec false (Bool.rec false (okL H m) (okBT H t)) (Nat.ble 1 len)) (Nat.ble H.nxt b)) (Nat.beq o 0) : Bool) = c at hk
                cases c with
                | false => cases hk
                | true => cases hk; exact ⟨_, _, rfl⟩
              | _ => cases hk
          | _ => cases hk
theorem backV_evo {G : Nat} {e e' : Emb} {H H' : AHeap} {w w' : World} {l : List AV} {v' : Value} (hr : Rel G e H w) (h : Evo G e (H.withLow H.nxt) w e' H' w') (hv : VRel e' (packA l) v') :
    ∃ v0 H'' e'', backV l H H' = .v v0 H'' ∧ VRel e'' v0 v' ∧ Evo G e H w e'' H'' w' := by
  unfold backV
  cases hl : Nat.ble H.nxt H'.low with
  | false => exact ⟨_, _, e', rfl, hv, h.back⟩
  | true =>
    have hl' : H.nxt ≤ H'.low := Nat.le_of_ble_eq_true hl
    cases hp : okL H l with
    | true => exact ⟨_, _, e, rfl, packA_ok h.holds hv hp, h.forget hr hl'⟩
    | false =>
      simp only
      cases l with
      | nil => exact ⟨_, _, e', rfl, hv, h.back⟩
      | cons v m =>
        simp only
        cases hk : row1 H H' v m with
        | none => exact ⟨_, _, e', rfl, hv, h.back⟩
        | some r =>
          simp only
          unfold row1 at hk
          cases v with
          | sl b o len cap =>
            simp only [avSl] at hk
            cases hb : H'.get b with
            | none => rw [hb] at hk; cases hk
            | some x =>
              rw [hb] at hk
              cases x with
              | c n t wr sp =>
                simp only [blkC] at hk
                cases c1 : Nat.beq o 0 with
                | false => rw [c1] at hk; cases hk
                | true =>
                rw [c1] at hk
                cases c2 : Nat.ble H.nxt b with
                | false => rw [c2] at hk; cases hk
                | true =>
                rw [c2] at hk
                cases c3 : Nat.ble 1 len with
                | false => rw [c3] at hk; cases hk
                | true =>
                rw [c3] at hk
                cases c4 : okBT H t with
                | false => rw [c4] at hk; cases hk
                | true =>
                rw [c4] at hk
                cases c5 : okL H m with
                | false => rw [c5] at hk; cases hk
                | true =>
                rw [c5] at hk
                cases hk
                have := Nat.eq_of_beq_eq_true c1
                subst this
                have hlen : 1 ≤ len := Nat.le_of_ble_eq_true c3
                have fin : ∀ (cap' : Nat) (i : Info), e' b = some i → CapOk i 0 cap cap' → Evo G e H w (e.put H.nxt i) (H.alloc (.c n t wr sp)) w' ∧ VRel (e.put H.nxt i) (.sl H.nxt 0 len cap) (.slice (some ⟨i.blk, i.off + 0, none⟩) len cap') := fun cap' i hi hcap =>
                  ⟨Evo.keep1 hr h hl' (Nat.le_of_ble_eq_true c2) hi hb c4, .sl H.nxt 0 len cap cap' i (Emb.put_self _ _ _) hcap⟩
                cases m with
                | nil =>
                  have hv' : VRel e' (.sl b 0 len cap) v' := hv
                  cases hv' with
                  | sl _ _ _ _ cap' i hi hcap =>
                    obtain ⟨q1, q2⟩ := fin cap' i hi hcap
                    exact ⟨_, _, _, rfl, q2, q1⟩
                  | slq => omega
                | cons y m =>
                  have hv' : VRel e' (.x (.tup (.sl b 0 len cap :: y :: m))) v' := hv
                  cases hv'
                  rename_i l' hl2
                  cases hl2 with
                  | cons hv1 hv2 =>
                    cases hv1 with
                    | sl _ _ _ _ cap' i hi hcap =>
                      obtain ⟨q1, q2⟩ := fin cap' i hi hcap
                      exact ⟨_, _, _, rfl, .tup _ _ (.cons q2 ((okL_rel h.holds hv2 c5).mono (Emb.put_ext hr.none_nxt))), q1⟩
                    | slq => omega
              | _ => cases hk
          | _ => cases hk
def finish (rs : List KR) (H : AHeap) (r : Res) : ORes :=
  Res.rec (motive := fun _ => ORes) (fun en H' => optL .fail (fun l => backV l H H') (evalR rs en H')) (fun _ _ _ => .fail) (fun en H' => optL .fail (fun l => backV l H H') (evalR rs en H')) (fun v H' => .pan v (H'.withLow (minN H.low H'.low))) .fail r
def putArgs (ps : List VP) : List AV → BT AV → Option (BT AV) :=
  List.rec (motive := fun _ => List AV → BT AV → Option (BT AV)) (fun args B => List.rec (motive := fun _ => Option (BT AV)) (some B) (fun _ _ _ => none) args)
    (fun p _ ih args B => List.rec (motive := fun _ => Option (BT AV)) none (fun a as _ => ih as (p.put a B)) args) ps
def KFun.run (F : Fs) (K : KFun) (args : List AV) (H : AHeap) : ORes :=
  Option.rec (motive := fun _ => ORes) .fail (fun B => finish K.rs H (K.body.den F ⟨.nil, B⟩ (H.withLow H.nxt))) (putArgs K.ps args K.T0)
theorem putArgs_cons (p : VP) (ps : List VP) (a : AV) (as : List AV) (B : BT AV) : putArgs (p :: ps) (a :: as) B = putArgs ps as (p.put a B) := rfl
theorem putArgs_nil (B : BT AV) : putArgs [] [] B = some B := rfl
def psOk (S : BT Nat) : List VP → Nat → Bool
  | [], _ => true
  | p :: ps, i => (match p.at S with | some k => Nat.beq k i | none => false) && Nat.ble (countB i S) 1 && psOk S ps (i + 1)
theorem putArgs_rel {e : Emb} {tmps : Array Value} : ∀ (ps : List VP) (args : List AV) (args' : List Value) (i : Nat) (B B' : BT AV), psOk S ps i = true → putArgs ps args B = some B' → VRels e args args' →
    (∀ j v, args'[j]? = some v → tmps.getD (i + j) undef = v) → (∀ p t, VP.at p S = some t → VRel e (p.get B) (tmps.getD t undef)) → args.length = ps.length ∧ ∀ p t, VP.at p S = some t → VRel e (p.get B') (tmps.getD t undef)
  | [], [], args', i, B, B', _, h, _, _, hB => by cases h; exact ⟨rfl, hB⟩
  | [], _ :: _, args', i, B, B', _, h, _, _, _ => by cases h
  | _ :: _, [], args', i, B, B', _, h, _, _, _ => by cases h
  | p :: ps, a :: as, args', i, B, B', hok, h, hr, hg, hB => by
    cases hr with
    | cons hv ht =>
      rename_i v' l'
      simp only [psOk, Bool.and_eq_true, ble_tt] at hok
      obtain ⟨⟨h1, h2⟩, h3⟩ := hok
      rw [putArgs_cons] at h
      have hi : tmps.getD i undef = v' := by have := hg 0 v' (by simp); simpa using this
      have hp : p.at S = some i := by
        cases hp : p.at S with
        | none => rw [hp] at h1; cases h1
        | some k => rw [hp] at h1; rw [Nat.eq_of_beq_eq_true h1]
      have hB2 : ∀ q t, VP.at q S = some t → VRel e (q.get (p.put a B)) (tmps.getD t undef) := by
        intro q t hq
        by_cases ht' : t = i
        · subst ht'
          have := VP.uniq h2 hq hp
          subst this
          rcases VP.get_put_self a q B with hq' | hq'
          · rw [hq', hi]; exact hv
          · rw [hq']; exact .bad _
        · rcases VP.get_put a p q B with hq' | ⟨rfl, hq'⟩
          · rw [hq']; exact hB q t hq
          · rw [hp] at hq; cases hq; exact absurd rfl ht'
      obtain ⟨g1, g2⟩ := putArgs_rel ps as l' (i + 1) _ B' h3 h ht (fun j v hj => by have := hg (j + 1) v (by simpa using hj); rwa [show i + 1 + j = i + (j + 1) by omega]) hB2
      exact ⟨by simp [g1], g2⟩
def badT : BT AV → Bool
  | .lf => true
  | .nd l v r => (match v with | .x .bad => true | _ => false) && badT l && badT r
theorem badT_get : ∀ {T : BT AV}, badT T = true → ∀ p : VP, p.get T = .x .bad
  | .lf, _, p => by simp
  | .nd l v r, h, p => by
    simp only [badT, Bool.and_eq_true] at h
    obtain ⟨⟨h1, h2⟩, h3⟩ := h
    cases p with
    | top =>
      show v = _
      split at h1
      · rfl
      · cases h1
    | lft p => exact badT_get h2 p
    | rgt p => exact badT_get h3 p
def KFun.ok (P : Program) (dc : DCheck) (f : FuncId) (K : KFun) : Bool :=
  match P.funcs[f]? with
  | some fn => (fn.name != "runtime.NumGoroutine") && Nat.beq fn.ntmps K.n && Nat.ble K.ps.length K.n && psOk K.S K.ps 0 && badT K.T0 && sameL (KR.ok P K.S) K.rs fn.results.toList &&
    (match fn.body with | some c => K.body.ok P K.S K.n dc c | none => false)
  | none => false
theorem run_callFunc {P : Program} {f : FuncId} {fn : Func} (hf : P.funcs[f]? = some fn) (hn : (fn.name != "runtime.NumGoroutine") = true) {c : Code} (hb : fn.body = some c) (args : Array Value) (w : World) : (callFunc f args).run P w = .ok (.enter f args) w := by
  have h1 : ¬ fn.name = "runtime.NumGoroutine" := by simpa using hn
  simp [callFunc, program, Sem.run, hf, h1, hb]
theorem KFun.run_snd {P : Program} {F : Fs} (hF : FsOk P F) {dc : DCheck} {f : Nat} {K : KFun} (hD : DOk P K.S K.n F dc) (h : K.ok P dc f = true) (args : List AV) (H : AHeap) : FSnd P f args H (K.run F args H) := by
  unfold KFun.ok at h
  cases hf : P.funcs[f]? with
  | none => rw [hf] at h; cases h
  | some fn =>
  rw [hf] at h
  simp only [Bool.and_eq_true, ble_tt, beq_tt] at h
  obtain ⟨⟨⟨⟨⟨⟨h1, h2⟩, h3⟩, h4⟩, h5⟩, h6⟩, h7⟩ := h
  cases hb : fn.body with
  | none => rw [hb] at h7; cases h7
  | some c =>
  rw [hb] at h7
  cases hB : putArgs K.ps args K.T0 with
  | none => have : K.run F args H = .fail := by unfold KFun.run; rw [hB]
            rw [this]; trivial
  | some B =>
  have hrun : K.run F args H = finish K.rs H (K.body.den F ⟨.nil, B⟩ (H.withLow H.nxt)) := by unfold KFun.run; rw [hB]
  rw [hrun]
  have hcode := code_snd hF hD K.body c h7
  have body : ∀ r, K.body.den F ⟨.nil, B⟩ (H.withLow H.nxt) = r → r ≠ .fail → ∀ e w args', Rel P.globals.size e H w → VRels e args args' → ∀ R : Ending → World → Prop,
      (∀ X a' w', Fits P K.S K.n (DF.any []) e (H.withLow H.nxt) w r X a' w' → bodyPost P fn R X a' w') → Runs P f args'.toArray w R := by
    intro r hr0 hne e w args' hr ha R hR
    refine .inl ⟨run_callFunc hf h1 hb _ w, calls_of_wp hf hb ?_⟩
    have hlen := ha.length
    have htm : ∀ j v, args'[j]? = some v → (args'.toArray ++ Array.replicate (fn.ntmps - args'.toArray.size) undef).getD j undef = v := by
      intro j v hj
      have hlt := (List.getElem?_eq_some_iff.1 hj).1
      rw [Array.getD_eq_getD_getElem?, Array.getElem?_append_left (by simpa using hlt)]
      simp [hj]
    obtain ⟨hl, hvars⟩ := putArgs_rel (tmps := args'.toArray ++ Array.replicate (fn.ntmps - args'.toArray.size) undef) K.ps args args' 0 K.T0 B h4 hB ha (fun j v hj => by simpa using htm j v hj) (fun p t _ => by rw [badT_get h5]; exact .bad _)
    have harel : ARel K.S K.n (DF.any []) e ⟨.nil, B⟩ { tmps := args'.toArray ++ Array.replicate (fn.ntmps - args'.toArray.size) undef, defers := [] } := by
      refine ⟨?_, fun _ _ => .bad _, hvars, rfl, trivial⟩
      simp; omega
    have := hcode (DF.any []) (fun p _ => DF.any_free [] p) ⟨.nil, B⟩ (H.withLow H.nxt) (by rw [hr0]; exact hne) e w _ (hr.withLow _) harel
    rw [hr0] at this
    exact wp_mono this hR
  have back : ∀ en H' (l : List AV), evalR K.rs en H' = some l → ∀ e w, Rel P.globals.size e H w → ∀ e' a' w', ARel K.S K.n (DF.any []) e' en a' → Evo P.globals.size e (H.withLow H.nxt) w e' H' w' →
      ∃ v', (results fn a'.tmps).run P w' = .ok v' w' ∧ ∃ v0 H'' e'', backV l H H' = .v v0 H'' ∧ VRel e'' v0 v' ∧ Evo P.globals.size e H w e'' H'' w' := by
    intro en H' l hl e w hr e' a' w' ha' hev
    obtain ⟨v', q1, q2⟩ := results_run hev.rel ha' h6 hl
    exact ⟨v', q1, backV_evo hr hev q2⟩
  cases hr0 : K.body.den F ⟨.nil, B⟩ (H.withLow H.nxt) with
  | fail => trivial
  | ext id en H' => trivial
  | pan v H' =>
    intro e w args' hr ha
    refine body _ hr0 (by simp) e w args' hr ha _ ?_
    rintro X a' w' ⟨e', v', rfl, ⟨en', hd⟩, hv, hev⟩
    exact ⟨hd.defers, e', v', rfl, hv, hev.back⟩
  | nrm en H' =>
    show FSnd P f args H (optL .fail (fun l => backV l H H') (evalR K.rs en H'))
    cases hl : evalR K.rs en H' with
    | none => trivial
    | some l =>
      simp only [optL]
      have key : FSnd P f args H (backV l H H') := by
        obtain ⟨v0, H'', hb2⟩ := backV_v l H H'
        rw [hb2]
        intro e w args' hr ha
        refine body _ hr0 (by simp) e w args' hr ha _ ?_
        rintro X a' w' ⟨rfl, e', ha', hev⟩
        obtain ⟨v', q1, v1, H3, e'', q2, q3, q4⟩ := back en H' l hl e w hr e' a' w' ha' hev
        rw [hb2] at q2; cases q2
        exact ⟨ha'.defers, v', q1, e'', v', rfl, q3, q4⟩
      exact key
  | ret en H' =>
    show FSnd P f args H (optL .fail (fun l => backV l H H') (evalR K.rs en H'))
    cases hl : evalR K.rs en H' with
    | none => trivial
    | some l =>
      simp only [optL]
      have key : FSnd P f args H (backV l H H') := by
        obtain ⟨v0, H'', hb2⟩ := backV_v l H H'
        rw [hb2]
        intro e w args' hr ha
        refine body _ hr0 (by simp) e w args' hr ha _ ?_
        rintro X a' w' ⟨rfl, e', ha', hev⟩
        obtain ⟨v', q1, v1, H3, e'', q2, q3, q4⟩ := back en H' l hl e w hr e' a' w' ha' hev
        rw [hb2] at q2; cases q2
        exact ⟨ha'.defers, v', q1, e'', v', rfl, q3, q4⟩
      exact key
def eqA (v u : AV) : Bool :=
  AVp.rec (motive := fun _ => Bool) (fun k n => avI false (fun k2 n2 => bif' false (Nat.beq n n2) (Nat.beq k k2)) u) (fun b => avB false (fun c => bEq b c) u) (fun l c => avS false (fun l2 c2 => bif' false (Nat.beq c c2) (Nat.beq l l2)) u)
    (fun _ _ => false) (fun _ _ _ _ => false) (fun _ => false) v
theorem bif_tt {a b : Bool} (h : bif' false a b = true) : a = true ∧ b = true := by
  cases b with
  | true => exact ⟨h, rfl⟩
  | false => cases h
theorem eqA_eq {v u : AV} (h : eqA v u = true) : v = u := by
  cases v with
  | i k n =>
    cases u with
    | i k2 n2 =>
      obtain ⟨h1, h2⟩ := bif_tt (show bif' false (Nat.beq n n2) (Nat.beq k k2) = true from h)
      rw [Nat.eq_of_beq_eq_true h1, Nat.eq_of_beq_eq_true h2]
    | _ => cases h
  | b t =>
    cases u with
    | b t2 =>
      have h1 : bEq t t2 = true := h
      rw [bEq_eq] at h1
      rw [eq_of_beq h1]
    | _ => cases h
  | s l c =>
    cases u with
    | s l2 c2 =>
      obtain ⟨h1, h2⟩ := bif_tt (show bif' false (Nat.beq c c2) (Nat.beq l l2) = true from h)
      rw [Nat.eq_of_beq_eq_true h1, Nat.eq_of_beq_eq_true h2]
    | _ => cases h
  | _ => cases h
def eqAs (l : List AV) : List AV → Bool :=
  List.rec (motive := fun _ => List AV → Bool) (fun m => List.rec (motive := fun _ => Bool) true (fun _ _ _ => false) m) (fun v _ ih m => List.rec (motive := fun _ => Bool) false (fun u m _ => bif' false (ih m) (eqA v u)) m) l
theorem eqAs_eq : ∀ {l m : List AV}, eqAs l m = true → l = m
  | [], [], _ => rfl
  | [], _ :: _, h => by cases h
  | _ :: _, [], h => by cases h
  | v :: l, u :: m, h => by
    obtain ⟨h1, h2⟩ := bif_tt (show bif' false (eqAs l m) (eqA v u) = true from h)
    rw [eqA_eq h2, eqAs_eq h1]
def lookM (rows : List (List AV × AV)) (args : List AV) : Option AV :=
  List.rec (motive := fun _ => Option AV) none (fun r _ ih => Bool.rec (motive := fun _ => Option AV) ih (some r.2) (eqAs r.1 args)) rows
theorem lookM_spec : ∀ {rows : List (List AV × AV)} {args : List AV} {v : AV}, lookM rows args = some v → (args, v) ∈ rows
  | [], _, _, h => by cases h
  | r :: rows, args, v, h => by
    have he : lookM (r :: rows) args = Bool.rec (motive := fun _ => Option AV) (lookM rows args) (some r.2) (eqAs r.1 args) := rfl
    rw [he] at h
    cases hc : eqAs r.1 args with
    | true =>
      rw [hc] at h
      have h1 := eqAs_eq hc
      cases h
      rw [← h1]
      exact List.mem_cons_self
    | false => rw [hc] at h; exact List.mem_cons_of_mem _ (lookM_spec h)
def E0 : Env := ⟨.nil, .lf⟩
def gN (_ _ _ _ : Nat) : Option AV := none
abbrev CE := Fs → Env → AHeap → Res
abbrev C0 := Fs → Loc → BT AV → AHeap → Res
abbrev C1 := Fs → Loc → BT AV → AHeap → AV → Res
abbrev C2 := Fs → Loc → BT AV → AHeap → AV → AV → Res
abbrev C3 := Fs → Loc → BT AV → AHeap → AV → AV → AV → Res
abbrev C4 := Fs → Loc → BT AV → AHeap → AV → AV → AV → AV → Res
abbrev C5 := Fs → Loc → BT AV → AHeap → AV → AV → AV → AV → AV → Res
abbrev C6 := Fs → Loc → BT AV → AHeap → AV → AV → AV → AV → AV → AV → Res
abbrev C7 := Fs → Loc → BT AV → AHeap → AV → AV → AV → AV → AV → AV → AV → Res
abbrev C8 := Fs → Loc → BT AV → AHeap → AV → AV → AV → AV → AV → AV → AV → AV → Res
def cSeq (a b : CE) : CE := fun F en H => rSeq (a F en H) (b F)
def cCond (c : Env → AV) (a b : CE) : CE := fun F en H => avB .fail (fun t => Bool.rec (motive := fun _ => Res) (b F en H) (a F en H) t) (c en)
def cBlock (id : Nat) (a : CE) : CE := fun F en H => rBlock id (a F en H)
def cLoop (a : CE) : CE := fun F => loopN (a F) 1000000
def cReg (a : C0) : CE := fun F en H => a F .nil en.B H
def cDreg (l : List KD) : CE := fun F en H => runDG F l (guessD F l ⟨.nil, en.B⟩ H) ⟨.nil, en.B⟩ H
def cRun (l : List KE) : CE := fun F en H => runE F l ⟨.nil, en.B⟩ H
def cSkip : CE := fun _ => Res.nrm
def cRet : CE := fun _ => Res.ret
def cExit (id : Nat) : CE := fun _ => Res.ext id
def cEnd : C0 := fun _ L B H => Res.nrm ⟨L, B⟩ H
def oB (p : VP) (B : BT AV) (_ : Env) : AV := p.get B
def gK (H : AHeap) (r : ORes) (b : Bool) (c : AV) (K : AV → AHeap → Res) : Res := gRun (K undefA H) (oRes r K) b c
def jAdd := opBinG 3 (iAdd 3 18446744073709551616) (gAdd 3 18446744073709551616)
def jSub := opBinG 3 (iSub 3 18446744073709551616) (gSub 3 18446744073709551616)
def jEq := opBinG 3 iEq (gEq false)
def jNe := opBinG 3 iNe (gEq true)
def jLt := opBinG 3 (iLt 18446744073709551616 9223372036854775808) (gLt 18446744073709551616 9223372036854775808)
def jLe := opBinG 3 (iLe 18446744073709551616 9223372036854775808) (gLe 18446744073709551616 9223372036854775808)
def jGt := opBinG 3 (fun n m => iLt 18446744073709551616 9223372036854775808 m n) (fun a b c d => gLt 18446744073709551616 9223372036854775808 c d a b)
def jGe := opBinG 3 (fun n m => iLe 18446744073709551616 9223372036854775808 m n) (fun a b c d => gLe 18446744073709551616 9223372036854775808 c d a b)
def nC (a : AV) (H : AHeap) : ORes := opNilCheck (oC a) E0 H
def l1 (a : AV) (H : AHeap) : ORes := opLoad1 (oC a) E0 H
def bX (a : AV) (H : AHeap) : ORes := opBox (oC a) E0 H
def fA (n : Nat) (a : AV) (H : AHeap) : ORes := opFieldAddr n (oC a) E0 H
def lN (n : Nat) (a : AV) (H : AHeap) : ORes := opLoadN n (oC a) E0 H
def eX (n : Nat) (a : AV) (H : AHeap) : ORes := opExtract n (oC a) E0 H
def f1 (n : Nat) (a : AV) (H : AHeap) : ORes := opField1 n (oC a) E0 H
def lE (n : Nat) (a : AV) (H : AHeap) : ORes := opLen n (oC a) E0 H
def iA (n : Nat) (a b : AV) (H : AHeap) : ORes := opIndexAddr n (oC a) (oC b) E0 H
def sT (n : Nat) (a b : AV) (H : AHeap) : ORes := opStore n (oC a) (oC b) E0 H
def aP (n m : Nat) (a b : AV) (H : AHeap) : ORes := opAppendF n m (oC a) (oC b) E0 H
def aAdd (a b : AV) (H : AHeap) : ORes := jAdd (oC a) (oC b) E0 H
def aSub (a b : AV) (H : AHeap) : ORes := jSub (oC a) (oC b) E0 H
def aEq (a b : AV) (H : AHeap) : ORes := jEq (oC a) (oC b) E0 H
def aNe (a b : AV) (H : AHeap) : ORes := jNe (oC a) (oC b) E0 H
def aLt (a b : AV) (H : AHeap) : ORes := jLt (oC a) (oC b) E0 H
def aLe (a b : AV) (H : AHeap) : ORes := jLe (oC a) (oC b) E0 H
def aGt (a b : AV) (H : AHeap) : ORes := jGt (oC a) (oC b) E0 H
def aGe (a b : AV) (H : AHeap) : ORes := jGe (oC a) (oC b) E0 H
def uN (f : AV → Option AV) (a : AV) (H : AHeap) : ORes := opUn f (oC a) E0 H
def n1 (K : C1) (d : Nat) (F : Fs) (L : Loc) (B : BT AV) (v : AV) (H : AHeap) : Res := K F (.cons d v L) B H v
def m0 (K : C0) (d : Nat) (F : Fs) (L : Loc) (B : BT AV) (v : AV) (H : AHeap) : Res := K F (.cons d v L) B H 
def p0 (K : C0) (p : VP) (F : Fs) (L : Loc) (B : BT AV) (v : AV) (H : AHeap) : Res := K F L (VP.put p v B) H 
def z0 (K : C0) (F : Fs) (L : Loc) (B : BT AV) (_ : AV) (H : AHeap) : Res := K F L B H 
def n2 (K : C2) (d : Nat) (x0 : AV) (F : Fs) (L : Loc) (B : BT AV) (v : AV) (H : AHeap) : Res := K F (.cons d v L) B H x0 v
def m1 (K : C1) (d : Nat) (x0 : AV) (F : Fs) (L : Loc) (B : BT AV) (v : AV) (H : AHeap) : Res := K F (.cons d v L) B H x0
def p1 (K : C1) (p : VP) (x0 : AV) (F : Fs) (L : Loc) (B : BT AV) (v : AV) (H : AHeap) : Res := K F L (VP.put p v B) H x0
def z1 (K : C1) (x0 : AV) (F : Fs) (L : Loc) (B : BT AV) (_ : AV) (H : AHeap) : Res := K F L B H x0
def n3 (K : C3) (d : Nat) (x0 x1 : AV) (F : Fs) (L : Loc) (B : BT AV) (v : AV) (H : AHeap) : Res := K F (.cons d v L) B H x0 x1 v
def m2 (K : C2) (d : Nat) (x0 x1 : AV) (F : Fs) (L : Loc) (B : BT AV) (v : AV) (H : AHeap) : Res := K F (.cons d v L) B H x0 x1
def p2 (K : C2) (p : VP) (x0 x1 : AV) (F : Fs) (L : Loc) (B : BT AV) (v : AV) (H : AHeap) : Res := K F L (VP.put p v B) H x0 x1
def z2 (K : C2) (x0 x1 : AV) (F : Fs) (L : Loc) (B : BT AV) (_ : AV) (H : AHeap) : Res := K F L B H x0 x1
def n4 (K : C4) (d : Nat) (x0 x1 x2 : AV) (F : Fs) (L : Loc) (B : BT AV) (v : AV) (H : AHeap) : Res := K F (.cons d v L) B H x0 x1 x2 v
def m3 (K : C3) (d : Nat) (x0 x1 x2 : AV) (F : Fs) (L : Loc) (B : BT AV) (v : AV) (H : AHeap) : Res := K F (.cons d v L) B H x0 x1 x2
def p3 (K : C3) (p : VP) (x0 x1 x2 : AV) (F : Fs) (L : Loc) (B : BT AV) (v : AV) (H : AHeap) : Res := K F L (VP.put p v B) H x0 x1 x2
def z3 (K : C3) (x0 x1 x2 : AV) (F : Fs) (L : Loc) (B : BT AV) (_ : AV) (H : AHeap) : Res := K F L B H x0 x1 x2
def n5 (K : C5) (d : Nat) (x0 x1 x2 x3 : AV) (F : Fs) (L : Loc) (B : BT AV) (v : AV) (H : AHeap) : Res := K F (.cons d v L) B H x0 x1 x2 x3 v
def m4 (K : C4) (d : Nat) (x0 x1 x2 x3 : AV) (F : Fs) (L : Loc) (B : BT AV) (v : AV) (H : AHeap) : Res := K F (.cons d v L) B H x0 x1 x2 x3
def p4 (K : C4) (p : VP) (x0 x1 x2 x3 : AV) (F : Fs) (L : Loc) (B : BT AV) (v : AV) (H : AHeap) : Res := K F L (VP.put p v B) H x0 x1 x2 x3
def z4 (K : C4) (x0 x1 x2 x3 : AV) (F : Fs) (L : Loc) (B : BT AV) (_ : AV) (H : AHeap) : Res := K F L B H x0 x1 x2 x3
def e1 (d : Nat) (F : Fs) (L : Loc) (B : BT AV) (v : AV) (H : AHeap) : Res := cEnd F (.cons d v L) B H
def eP (p : VP) (F : Fs) (L : Loc) (B : BT AV) (v : AV) (H : AHeap) : Res := cEnd F L (VP.put p v B) H
def e0 (F : Fs) (L : Loc) (B : BT AV) (_ : AV) (H : AHeap) : Res := cEnd F L B H
def eqBT (t : BT AV) : BT AV → Bool :=
  BT.rec (motive := fun _ => BT AV → Bool) (fun u => BT.rec (motive := fun _ => Bool) true (fun _ _ _ _ _ => false) u)
    (fun _ v _ il ir u => BT.rec (motive := fun _ => Bool) false (fun l2 v2 r2 _ _ => bif' false (bif' false (ir r2) (il l2)) (eqA v v2)) u) t
theorem eqBT_eq : ∀ {t u : BT AV}, eqBT t u = true → t = u
  | .lf, .lf, _ => rfl
  | .lf, .nd _ _ _, h => by cases h
  | .nd _ _ _, .lf, h => by cases h
  | .nd l v r, .nd l2 v2 r2, h => by
    obtain ⟨h1, h2⟩ := bif_tt (show bif' false (bif' false (eqBT r r2) (eqBT l l2)) (eqA v v2) = true from h)
    obtain ⟨h3, h4⟩ := bif_tt h1
    rw [eqA_eq h2, eqBT_eq h3, eqBT_eq h4]
def eqBlk (x : ABlk) (y : Option ABlk) : Bool :=
  Option.rec (motive := fun _ => Bool) false (fun y => ABlk.rec (motive := fun _ => ABlk → Bool)
    (fun n t w sp y => ABlk.rec (motive := fun _ => Bool) (fun n2 t2 w2 sp2 => bif' false (bif' false (bif' false (eqBT t t2) (Nat.beq sp sp2)) (bEq w w2)) (Nat.beq n n2)) (fun _ => false) false y) (fun _ _ => false)
    (fun y => ABlk.rec (motive := fun _ => Bool) (fun _ _ _ _ => false) (fun _ => false) true y) x y) y
theorem eqBlk_eq {x : ABlk} {y : Option ABlk} (h : eqBlk x y = true) : y = some x := by
  cases y with
  | none => cases h
  | some y =>
    cases x with
    | c n t w sp =>
      cases y with
      | c n2 t2 w2 sp2 =>
        obtain ⟨h1, h2⟩ := bif_tt (show bif' false (bif' false (bif' false (eqBT t t2) (Nat.beq sp sp2)) (bEq w w2)) (Nat.beq n n2) = true from h)
        obtain ⟨h3, h4⟩ := bif_tt h1
        obtain ⟨h5, h6⟩ := bif_tt h3
        rw [bEq_eq] at h4
        rw [Nat.eq_of_beq_eq_true h2, eq_of_beq h4, eqBT_eq h5, Nat.eq_of_beq_eq_true h6]
      | _ => cases h
    | m es => cases h
    | dead => cases y <;> first | rfl | cases h
def sameG (bs : List ABlk) (H : AHeap) : Nat → Bool := List.rec (motive := fun _ => Nat → Bool) (fun _ => true) (fun x _ ih i => bif' false (ih (Nat.add i 1)) (eqBlk x (H.get i))) bs
theorem sameG_spec {H : AHeap} : ∀ {bs : List ABlk} {i : Nat}, sameG bs H i = true → ∀ b x, bs[b]? = some x → H.get (i + b) = some x
  | [], _, _, b, x, h => by simp at h
  | y :: bs, i, hs, b, x, h => by
    obtain ⟨h1, h2⟩ := bif_tt (show bif' false (sameG bs H (i + 1)) (eqBlk y (H.get i)) = true from hs)
    cases b with
    | zero => simp at h; subst h; exact eqBlk_eq h2
    | succ b =>
      have := sameG_spec h1 b x (by simpa using h)
      rwa [show i + (b + 1) = i + 1 + b by omega]
inductive NRes where
  | plain (l : List AV)
  | sli (len cap n : Nat) (t : BT AV) (w : Bool) (sp : Nat)
def plainBT (t : BT AV) : Bool := BT.rec (motive := fun _ => Bool) true (fun _ v _ il ir => bif' false (bif' false ir il) (plainA v)) t
theorem plainBT_get : ∀ {t : BT AV} {k : Nat} {v : AV}, plainBT t = true → t.get k = some v → plainA v = true
  | .lf, k, v, _, h => by simp at h
  | .nd l u r, k, v, hp, h => by
    obtain ⟨h1, h2⟩ := bif_tt (show bif' false (bif' false (plainBT r) (plainBT l)) (plainA u) = true from hp)
    obtain ⟨h3, h4⟩ := bif_tt h1
    rw [BT.get_nd] at h
    split at h
    · cases h; exact h2
    · split at h
      · exact plainBT_get h4 h
      · exact plainBT_get h3 h
def keepB (v : AV) (H H' : AHeap) : Option NRes :=
  avSl none (fun b o len cap => blkC none (fun n t w sp => Bool.rec (motive := fun _ => Option NRes) none (some (.sli len cap n t w sp)) (bif' false (bif' false (bif' false (bif' false (okBT H t) (plainBT t)) (Nat.ble 1 len)) (Nat.ble H.nxt b)) (Nat.beq o 0))) (H'.get b)) v
def keepR (l : List AV) (H H' : AHeap) : Option NRes :=
  Bool.rec (motive := fun _ => Option NRes) none (Bool.rec (motive := fun _ => Option NRes) (List.rec (motive := fun _ => Option NRes) none (fun v m _ => List.rec (motive := fun _ => Option NRes) (keepB v H H') (fun _ _ _ => none) m) l) (some (.plain l)) (plainL l)) (Nat.ble H.nxt H'.low)
def NRes.out (r : NRes) (H : AHeap) : AV × AHeap := NRes.rec (motive := fun _ => AV × AHeap) (fun l => (packA l, H)) (fun len cap n t w sp => (.sl H.nxt 0 len cap, H.alloc (.c n t w sp))) r
theorem keepR_evo {G : Nat} {e e' : Emb} {H H' : AHeap} {w w' : World} {l : List AV} {r : NRes} {v' : Value} (hk : keepR l H H' = some r) (hr : Rel G e H w) (h : Evo G e (H.withLow H.nxt) w e' H' w') (hv : VRel e' (packA l) v') :
    ∃ e'', VRel e'' (r.out H).1 v' ∧ Evo G e H w e'' (r.out H).2 w' := by
  unfold keepR at hk
  cases hl : Nat.ble H.nxt H'.low with
  | false => rw [hl] at hk; cases hk
  | true =>
    rw [hl] at hk
    have hl' : H.nxt ≤ H'.low := Nat.le_of_ble_eq_true hl
    cases hp : plainL l with
    | true =>
      rw [hp] at hk
      cases hk
      exact ⟨e, packA_plain hv hp, h.forget hr hl'⟩
    | false =>
      rw [hp] at hk
      cases l with
      | nil => cases hk
      | cons v m =>
        cases m with
        | cons => cases hk
        | nil =>
          have hk' : keepB v H H' = some r := hk
          unfold keepB at hk'
          cases v with
          | sl b o len cap =>
            simp only [avSl] at hk'
            cases hb : H'.get b with
            | none => rw [hb] at hk'; cases hk'
            | some x =>
              rw [hb] at hk'
              cases x with
              | c n t wr sp =>
                simp only [blkC] at hk'
                cases hc : bif' false (bif' false (bif' false (bif' false (okBT H t) (plainBT t)) (Nat.ble 1 len)) (Nat.ble H.nxt b)) (Nat.beq o 0) with
                | false => rw [hc] at hk'; cases hk'
                | true =>
                  rw [hc] at hk'
                  cases hk'
                  obtain ⟨c1, c2⟩ := bif_tt hc
                  obtain ⟨c3, c4⟩ := bif_tt c1
                  obtain ⟨c55, c6⟩ := bif_tt c3
                  obtain ⟨c5, c77⟩ := bif_tt c55
                  have := Nat.eq_of_beq_eq_true c2
                  subst this
                  have hlen : 1 ≤ len := Nat.le_of_ble_eq_true c6
                  have hv' : VRel e' (.sl b 0 len cap) v' := hv
                  cases hv' with
                  | sl _ _ _ _ cap' i hi hcap => exact ⟨_, .sl H.nxt 0 len cap cap' i (Emb.put_self _ _ _) hcap, Evo.keep1 hr h hl' (Nat.le_of_ble_eq_true c4) hi hb c5⟩
                  | slq => omega
              | _ => cases hk'
          | _ => cases hk'
def NRes.same (x y : NRes) : Bool :=
  NRes.rec (motive := fun _ => NRes → Bool) (fun l y => NRes.rec (motive := fun _ => Bool) (fun m => eqAs l m) (fun _ _ _ _ _ _ => false) y)
    (fun len cap n t w sp y => NRes.rec (motive := fun _ => Bool) (fun _ => false) (fun len2 cap2 n2 t2 w2 sp2 => bif' false (bif' false (eqBlk (.c n t w sp) (some (.c n2 t2 w2 sp2))) (Nat.beq cap cap2)) (Nat.beq len len2)) y) x y
theorem NRes.same_eq {x y : NRes} (h : x.same y = true) : x = y := by
  cases x with
  | plain l =>
    cases y with
    | plain m => have h' : eqAs l m = true := h; rw [eqAs_eq h']
    | sli => cases h
  | sli len cap n t w sp =>
    cases y with
    | plain => cases h
    | sli len2 cap2 n2 t2 w2 sp2 =>
      obtain ⟨h1, h2⟩ := bif_tt (show bif' false (bif' false (eqBlk (.c n t w sp) (some (.c n2 t2 w2 sp2))) (Nat.beq cap cap2)) (Nat.beq len len2) = true from h)
      obtain ⟨h3, h4⟩ := bif_tt h1
      have h5 := eqBlk_eq h3
      cases h5
      rw [Nat.eq_of_beq_eq_true h2, Nat.eq_of_beq_eq_true h4]
def finN (rs : List KR) (H : AHeap) (r : Res) : Option NRes :=
  Res.rec (motive := fun _ => Option NRes) (fun en H' => optL none (fun l => keepR l H H') (evalR rs en H')) (fun _ _ _ => none) (fun en H' => optL none (fun l => keepR l H H') (evalR rs en H')) (fun _ _ => none) none r
def sameN (rs : List KR) (H : AHeap) (a : NRes) (l : List Res) : Bool := List.rec (motive := fun _ => Bool) true (fun r _ ih => bif' false ih (Option.rec (motive := fun _ => Bool) false (fun b => a.same b) (finN rs H r))) l
def uniteN (rs : List KR) (H : AHeap) (l : List Res) : Option NRes :=
  List.rec (motive := fun _ => Option NRes) none (fun r m _ => Option.rec (motive := fun _ => Option NRes) none (fun a => Bool.rec (motive := fun _ => Option NRes) none (some a) (sameN rs H a m)) (finN rs H r)) l
theorem sameN_spec {rs : List KR} {H : AHeap} {a : NRes} : ∀ {l : List Res}, sameN rs H a l = true → ∀ r ∈ l, finN rs H r = some a
  | q :: l, h, r, hr => by
    obtain ⟨h1, h2⟩ := bif_tt (show bif' false (sameN rs H a l) (Option.rec (motive := fun _ => Bool) false (fun b => a.same b) (finN rs H q)) = true from h)
    rcases List.mem_cons.1 hr with rfl | hr
    · cases hf : finN rs H r with
      | none => rw [hf] at h2; cases h2
      | some b => rw [hf] at h2; rw [NRes.same_eq h2]
    · exact sameN_spec h1 r hr
theorem uniteN_spec {rs : List KR} {H : AHeap} {a : NRes} {l : List Res} (h : uniteN rs H l = some a) : ∀ r ∈ l, finN rs H r = some a := by
  cases l with
  | nil => cases h
  | cons q l =>
    have h' : Option.rec (motive := fun _ => Option NRes) none (fun a => Bool.rec (motive := fun _ => Option NRes) none (some a) (sameN rs H a l)) (finN rs H q) = some a := h
    cases hf : finN rs H q with
    | none => rw [hf] at h'; cases h'
    | some b =>
      rw [hf] at h'
      cases hs : sameN rs H b l with
      | false => simp only [hs] at h'; cases h'
      | true =>
        simp only [hs] at h'
        cases h'
        intro r hr
        rcases List.mem_cons.1 hr with rfl | hr
        · exact hf
        · exact sameN_spec hs r hr
def KFun.runN (F : Fs) (K : KFun) (N : NCode) (args : List AV) (H : AHeap) : ORes :=
  Option.rec (motive := fun _ => ORes) .fail (fun B => Option.rec (motive := fun _ => ORes) .fail (fun r => .v (r.out H).1 (r.out H).2) (uniteN K.rs H (N.den F ⟨.nil, B⟩ (H.withLow H.nxt)))) (putArgs K.ps args K.T0)
def KFun.okN (P : Program) (dc : DCheck) (f : FuncId) (K : KFun) (N : NCode) : Bool :=
  match P.funcs[f]? with
  | some fn => (fn.name != "runtime.NumGoroutine") && Nat.beq fn.ntmps K.n && Nat.ble K.ps.length K.n && psOk K.S K.ps 0 && badT K.T0 && sameL (KR.ok P K.S) K.rs fn.results.toList &&
    (match fn.body with | some c => N.ok P K.S K.n dc c | none => false)
  | none => false
theorem KFun.runN_snd {P : Program} {F : Fs} (hF : FsOk P F) {dc : DCheck} {f : Nat} {K : KFun} {N : NCode} (hD : DOk P K.S K.n F dc) (h : K.okN P dc f N = true) (args : List AV) (H : AHeap) : FSnd P f args H (K.runN F N args H) := by
  unfold KFun.okN at h
  cases hf : P.funcs[f]? with
  | none => rw [hf] at h; cases h
  | some fn =>
  rw [hf] at h
  simp only [Bool.and_eq_true, ble_tt, beq_tt] at h
  obtain ⟨⟨⟨⟨⟨⟨h1, h2⟩, h3⟩, h4⟩, h5⟩, h6⟩, h7⟩ := h
  cases hb : fn.body with
  | none => rw [hb] at h7; cases h7
  | some c =>
  rw [hb] at h7
  cases hB : putArgs K.ps args K.T0 with
  | none => have : K.runN F N args H = .fail := by unfold KFun.runN; rw [hB]
            rw [this]; trivial
  | some B =>
  cases hu : uniteN K.rs H (N.den F ⟨.nil, B⟩ (H.withLow H.nxt)) with
  | none => have : K.runN F N args H = .fail := by unfold KFun.runN; rw [hB]; simp only [hu]
            rw [this]; trivial
  | some r0 =>
  have hrun : K.runN F N args H = .v (r0.out H).1 (r0.out H).2 := by unfold KFun.runN; rw [hB]; simp only [hu]
  rw [hrun]
  have hall := uniteN_spec hu
  intro e w args' hr ha
  refine .inl ⟨run_callFunc hf h1 hb _ w, calls_of_wp hf hb ?_⟩
  have hlen := ha.length
  have htm : ∀ j v, args'[j]? = some v → (args'.toArray ++ Array.replicate (fn.ntmps - args'.toArray.size) undef).getD j undef = v := by
    intro j v hj
    have hlt := (List.getElem?_eq_some_iff.1 hj).1
    rw [Array.getD_eq_getD_getElem?, Array.getElem?_append_left (by simpa using hlt)]
    simp [hj]
  obtain ⟨hl, hvars⟩ := putArgs_rel (tmps := args'.toArray ++ Array.replicate (fn.ntmps - args'.toArray.size) undef) K.ps args args' 0 K.T0 B h4 hB ha (fun j v hj => by simpa using htm j v hj) (fun p t _ => by rw [badT_get h5]; exact .bad _)
  have harel : ARel K.S K.n (DF.any []) e ⟨.nil, B⟩ { tmps := args'.toArray ++ Array.replicate (fn.ntmps - args'.toArray.size) undef, defers := [] } := by
    refine ⟨?_, fun _ _ => .bad _, hvars, rfl, trivial⟩
    simp; omega
  have hno : ∀ r ∈ N.den F ⟨.nil, B⟩ (H.withLow H.nxt), r ≠ .fail := by
    rintro r hr rfl
    have := hall _ hr
    cases this
  refine wp_mono (ncode_snd hF hD N c h7 (DF.any []) (DF.any_free _) ⟨.nil, B⟩ (H.withLow H.nxt) hno e w _ (hr.withLow _) harel) ?_
  rintro X a' w' ⟨r, hrm, hfit⟩
  have hfin := hall r hrm
  have fin : ∀ en H' (hq : optL none (fun l => keepR l H H') (evalR K.rs en H') = some r0), (∃ e', ARel K.S K.n (DF.any []) e' en a' ∧ Evo P.globals.size e (H.withLow H.nxt) w e' H' w') →
      a'.defers = [] ∧ ∃ v, (results fn a'.tmps).run P w' = .ok v w' ∧ ∃ e' v', Ending.returned v = .returned v' ∧ VRel e' (r0.out H).1 v' ∧ Evo P.globals.size e H w e' (r0.out H).2 w' := by
    rintro en H' hq ⟨e', ha', hev⟩
    cases hl : evalR K.rs en H' with
    | none => rw [hl] at hq; cases hq
    | some l =>
      rw [hl] at hq
      obtain ⟨v', q1, q2⟩ := results_run hev.rel ha' h6 hl
      obtain ⟨e'', q3, q4⟩ := keepR_evo hq hr hev q2
      exact ⟨ha'.defers, v', q1, e'', v', rfl, q3, q4⟩
  cases r with
  | nrm en H' =>
    obtain ⟨rfl, hx⟩ := hfit
    exact fin en H' hfin hx
  | ret en H' =>
    obtain ⟨rfl, hx⟩ := hfit
    exact fin en H' hfin hx
  | _ => cases hfin
end
end Go.Ab
namespace Go.Ab
open Go
theorem Oper.wp_mono3 {P : Program} {o : Oper} {a : Act} {w : World} {K K' : Act → World → Prop} {Q Q' : Exit → Act → World → Prop} (h : ∀ a w, K a w → K' a w) (hq : ∀ c a w, Q (.panic c) a w → Q' (.panic c) a w) (ho : LetsOut Q → LetsOut Q')
    (hw : o.wp P a w K Q) : o.wp P a w K' Q' := by
  unfold Oper.wp at hw ⊢
  revert hw
  generalize (execOp a.eval o).run P w = R
  intro hw
  cases R with
  | ok nx w' =>
    cases nx <;> simp only [Oper.upon] at hw ⊢ <;> first
      | exact h _ _ hw
      | exact Calls.mono hw fun E w'' hE => by
          cases E with
          | returned u => exact h _ _ hE
          | panicked c => exact hq _ _ _ hE
          | outgrown => exact ho hE
      | exact Rows.mono hw fun _ _ hE => h _ _ hE
  | halt x w' =>
    cases x <;> simp only [Oper.upon] at hw ⊢
    exact hq _ _ _ hw
theorem wpOps_append {P : Program} {ops : Array Oper} {Q : Exit → Act → World → Prop} {l2 : List Nat} : ∀ (l1 : List Nat) (a : Act) (w : World), wpOps P ops (Exit.then (wpOps P ops Q l2) Q) l1 a w → wpOps P ops Q (l1 ++ l2) a w
  | [], a, w, h => h
  | i :: l1, a, w, h => by
    simp only [wpOps, List.cons_append] at h ⊢
    cases ho : ops[i]? with
    | none => rw [ho] at h; exact wpOps_append l1 a w h
    | some o =>
      rw [ho] at h
      simp only at h ⊢
      split
      · rename_i hw
        rw [if_pos hw] at h
        rcases h with h | ⟨h1, a1, w1, h2⟩
        · exact .inl (Oper.wp_mono3 (fun a w h => wpOps_append l1 a w h) (fun _ _ _ h => h) (fun ⟨a, w, h⟩ => ⟨a, w, h⟩) h)
        · exact .inr ⟨h1, a1, w1, h2⟩
      · rename_i hw
        rw [if_neg hw] at h
        exact wpOps_append l1 _ w h
variable {S : BT Nat}
theorem ARel.putE {P : Program} {n : Nat} {ops : Array Oper} {x : KE} {o : Oper} (h : x.ok P S n ops o = true) {D : DF} (hfree : ∀ p, D.free p) {e e' : Emb} {en : Env} {a : Act} (ha : ARel S n D e en a) (hext : ∀ b i, e b = some i → e' b = some i) {v : AV} {v' : Value} (hv : VRel e' v v') :
    ARel S n D e' (x.put v en) (a.put o.dst v') := by
  refine arel_slot ?_ ?_ (KE.put_K (fun q _ => hfree q) ha.kept v) fun y t hy => ?_
  · rw [← ha.size]; cases o.dst <;> simp [Act.put]
  · rw [← ha.defers]; cases o.dst <;> rfl
  · by_cases hd : o.dst = some t
    · obtain ⟨q1, q2⟩ := KE.put_hit h hy hd hv en
      rw [hd, getD_put_self ha.size q2]; exact q1
    · have : (a.put o.dst v').tmps.getD t undef = a.tmps.getD t undef := by
        cases hod : o.dst with
        | none => rfl
        | some u => exact getD_put_ne (fun h => hd (by rw [hod, h])) v'
      rw [this, KE.put_same h hy hd]
      exact (slot_arel ha hy).mono hext
theorem wpOpsS_of {P : Program} {ops : Array Oper} {cs : List Frame} {Q' : Exit → Act → World → Prop} {Q : Exit → Act → List Frame → World → Prop} (hno : ∀ a w, ¬ Q' .outgrown a w) (hq : ∀ e a w, Q' e a w → Q e a cs w) :
    ∀ (l : List Nat) (a : Act) (w : World), wpOps P ops Q' l a w → wpOpsS P ops Q l a cs w
  | [], a, w, h => hq _ _ _ h
  | i :: l, a, w, h => by
    simp only [wpOps, wpOpsS] at h ⊢
    cases ho : ops[i]? with
    | none => rw [ho] at h; exact wpOpsS_of hno hq l a w h
    | some o =>
      rw [ho] at h
      simp only at h ⊢
      by_cases hw : Region.wanted o (yielded ops a.tmps) = true
      · rw [if_pos hw] at h
        rw [if_pos hw]
        rcases h with h | ⟨_, a1, w1, h2⟩
        · unfold Oper.wp at h
          split
          · rename_i w' hr
            rw [hr] at h
            simp only [Oper.upon] at h
          · have h3 : o.wp P a w (fun a' w' => wpOpsS P ops Q l a' cs w') (fun e a' w' => Q e a' cs w') :=
              Oper.wp_mono3 (fun a w h => wpOpsS_of hno hq l a w h) (fun _ _ _ h => hq _ _ _ h) (fun ⟨a, w, h⟩ => (hno a w h).elim) h
            exact h3
        · exact (hno a1 w1 h2).elim
      · rw [if_neg hw] at h
        rw [if_neg hw]
        exact wpOpsS_of hno hq l _ w h
end Go.Ab
namespace Go.Ab
open Go
structure KRec where
  x0 : KE
  K : KFun
structure KDefn where
  c0 : KCode
  t : Nat
  g : Nat
  caps : List KO
  K : KFun
  R : KRec
noncomputable section
def resH (r : Res) : Option AHeap := Res.rec (motive := fun _ => Option AHeap) (fun _ H => some H) (fun _ _ _ => none) (fun _ H => some H) (fun _ _ => none) none r
def recRun (F : Fs) (R : KRec) (cap : List AV) (v : AV) (H : AHeap) : Option AHeap :=
  Option.rec (motive := fun _ => Option AHeap) none (fun B => resH (R.K.body.den F (R.x0.put v ⟨.nil, B⟩) H)) (putArgs R.K.ps cap R.K.T0)
def optHp (o : Option AHeap) (f : AHeap → ORes) : ORes := Option.rec (motive := fun _ => ORes) .fail f o
def finD (F : Fs) (Dn : KDefn) (H : AHeap) (en1 : Env) (cap : List AV) (r : Res) : ORes :=
  Res.rec (motive := fun _ => ORes) (fun en2 H2 => optHp (recRun F Dn.R cap (.x .nili) H2) fun H3 => optL .fail (fun l => backV l H H3) (evalR Dn.K.rs en2 H3))
    (fun _ _ _ => .fail)
    (fun en2 H2 => optHp (recRun F Dn.R cap (.x .nili) H2) fun H3 => optL .fail (fun l => backV l H H3) (evalR Dn.K.rs en2 H3))
    (fun v H2 => optHp (recRun F Dn.R cap v H2) fun H3 => optL .fail (fun l => backV l H H3) (evalR Dn.K.rs en1 H3))
    .fail r
def KDefn.run (F : Fs) (Dn : KDefn) (args : List AV) (H : AHeap) : ORes :=
  Option.rec (motive := fun _ => ORes) .fail (fun B =>
    Res.rec (motive := fun _ => ORes) (fun en1 H1 => finD F Dn H ⟨.nil, en1.B⟩ (evalL (KO.dens Dn.caps) ⟨.nil, en1.B⟩) (Dn.K.body.den F ⟨.nil, en1.B⟩ H1)) (fun _ _ _ => .fail) (fun _ _ => .fail) (fun _ _ => .fail) .fail
      (Dn.c0.den F ⟨.nil, B⟩ (H.withLow H.nxt))) (putArgs Dn.K.ps args Dn.K.T0)
def vpEq : VP → VP → Bool
  | .top, .top => true
  | .lft p, .lft q => vpEq p q
  | .rgt p, .rgt q => vpEq p q
  | _, _ => false
theorem vpEq_refl : ∀ p : VP, vpEq p p = true
  | .top => rfl
  | .lft p => vpEq_refl p
  | .rgt p => vpEq_refl p
def kpOf : List KR → Option (List VP)
  | [] => some []
  | .c1 (.va p) :: l | .cN _ (.va p) :: l => (kpOf l).map (p :: ·)
  | _ :: _ => none
def KE.noW (kp : List VP) (x : KE) : Bool := match x with | .p d _ | .gp _ _ d _ => kp.all fun q => !vpEq d q | _ => true
def KCode.noW (kp : List VP) : KCode → Bool
  | .reg l => l.all (KE.noW kp)
  | .dreg l => l.all fun d => d.x.noW kp
  | .seq a b | .cond _ a b => KCode.noW kp a && KCode.noW kp b
  | .block _ a | .loop a => KCode.noW kp a
  | _ => true
theorem KE.noW_spec {kp : List VP} {x : KE} (h : x.noW kp = true) {q : VP} (hq : x.wr q) : q ∉ kp := by
  intro hm
  cases x with
  | p d k =>
    have hq : d = q := hq
    subst hq
    have := List.all_eq_true.1 h d hm
    rw [vpEq_refl] at this; cases this
  | gp c b d k =>
    have hq : d = q := hq
    subst hq
    have := List.all_eq_true.1 h d hm
    rw [vpEq_refl] at this; cases this
  | _ => exact hq.elim
theorem KCode.noW_spec {kp : List VP} : ∀ {c : KCode}, c.noW kp = true → ∀ {q : VP}, c.wr q → q ∉ kp
  | .reg l, h, q, ⟨x, hx, hq⟩ => KE.noW_spec (List.all_eq_true.1 h x hx) hq
  | .dreg l, h, q, ⟨d, hd, hq⟩ => KE.noW_spec (List.all_eq_true.1 h d hd) hq
  | .seq a b, h, q, hq => by
    simp only [KCode.noW, Bool.and_eq_true] at h
    rcases hq with hq | hq
    · exact KCode.noW_spec h.1 hq
    · exact KCode.noW_spec h.2 hq
  | .cond _ a b, h, q, hq => by
    simp only [KCode.noW, Bool.and_eq_true] at h
    rcases hq with hq | hq
    · exact KCode.noW_spec h.1 hq
    · exact KCode.noW_spec h.2 hq
  | .block _ a, h, q, hq => KCode.noW_spec (c := a) h hq
  | .loop a, h, q, hq => KCode.noW_spec (c := a) h hq
  | .skip, _, _, hq | .exit _, _, _, hq | .ret, _, _, hq | .unk, _, _, hq => hq.elim
def KRec.ok (P : Program) (dc : DCheck) (R : KRec) (g : FuncId) : Bool :=
  match P.funcs[g]? with
  | some fn => (fn.name != "runtime.NumGoroutine") && Nat.beq fn.ntmps R.K.n && Nat.ble R.K.ps.length R.K.n && psOk R.K.S R.K.ps 0 && badT R.K.T0 && fn.results.toList.isEmpty &&
    (match fn.body with
      | some (.seq (.region _ ⟨[o0]⟩ false) y) => (match o0.op with | .call { callee := .builtin .recover, args := _, argTypes := _ } => true | _ => false) && o0.guard.isNone && R.x0.ok P R.K.S R.K.n ⟨[o0]⟩ o0 && R.K.body.ok P R.K.S R.K.n dc y
      | _ => false)
  | none => false
def KDefn.ok (P : Program) (dc : DCheck) (f : FuncId) (Dn : KDefn) : Bool :=
  match P.funcs[f]? with
  | some fn => (fn.name != "runtime.NumGoroutine") && Nat.beq fn.ntmps Dn.K.n && Nat.ble Dn.K.ps.length Dn.K.n && psOk Dn.K.S Dn.K.ps 0 && badT Dn.K.T0 && sameL (KR.ok P Dn.K.S) Dn.K.rs fn.results.toList &&
    (match kpOf Dn.K.rs with | some kp => Dn.K.body.noW kp | none => false) && Dn.R.ok P dc Dn.g &&
    (match fn.body with
      | some (.seq x (.seq (.region _ ⟨[mf, df]⟩ false) y)) => Dn.c0.ok P Dn.K.S Dn.K.n dc x && KE.ok P Dn.K.S Dn.K.n ⟨[mf, df]⟩ (.l Dn.t (.mkf Dn.g [] Dn.caps)) mf && df.dst.isNone && df.guard.isNone &&
        (match df.op with | .defer { callee := .value (.tmp t'), args := ⟨[]⟩, argTypes := _ } => Nat.beq t' Dn.t | _ => false) && Dn.K.body.ok P Dn.K.S Dn.K.n dc y
      | _ => false)
  | none => false
theorem KR.den_kept {rs : List KR} {kp : List VP} (h : kpOf rs = some kp) {en en2 : Env} (he : ∀ p ∈ kp, p.get en2.B = p.get en.B) (H : AHeap) : evalR rs en2 H = evalR rs en H := by
  induction rs generalizing kp with
  | nil => rfl
  | cons r rs ih =>
    have step : ∀ (p : VP) (k : List VP), kpOf rs = some k → kp = p :: k → r.den en2 H = r.den en H → evalR (r :: rs) en2 H = evalR (r :: rs) en H := by
      intro p k hk hkp hr
      have h1 := ih hk fun q hq => he q (by rw [hkp]; exact List.mem_cons_of_mem _ hq)
      show optE none (fun v => optL none (fun l => some (v :: l)) (evalR rs en2 H)) (r.den en2 H) = optE none (fun v => optL none (fun l => some (v :: l)) (evalR rs en H)) (r.den en H)
      rw [h1, hr]
    cases r with
    | one x => cases h
    | c1 x =>
      cases x with
      | va p =>
        simp only [kpOf] at h
        cases hk : kpOf rs with
        | none => rw [hk] at h; cases h
        | some k =>
          rw [hk] at h
          cases h
          have hp : (KO.va p).den en2 = (KO.va p).den en := he p (by simp)
          refine step p k hk rfl ?_
          show avP none _ ((KO.va p).den en2) = avP none _ ((KO.va p).den en)
          rw [hp]
      | _ => cases h
    | cN n x =>
      cases x with
      | va p =>
        simp only [kpOf] at h
        cases hk : kpOf rs with
        | none => rw [hk] at h; cases h
        | some k =>
          rw [hk] at h
          cases h
          have hp : (KO.va p).den en2 = (KO.va p).den en := he p (by simp)
          refine step p k hk rfl ?_
          show avP none _ ((KO.va p).den en2) = avP none _ ((KO.va p).den en)
          rw [hp]
      | _ => cases h
theorem args_rel {K : KFun} {D : List Deferred} {fn : Func} (h2 : fn.ntmps = K.n) (h3 : K.ps.length ≤ K.n) (h4 : psOk K.S K.ps 0 = true) (h5 : badT K.T0 = true) {args : List AV} {args' : List Value} {B : BT AV} (hB : putArgs K.ps args K.T0 = some B) {e : Emb} (ha : VRels e args args') :
    ARel K.S K.n (DF.any D) e ⟨.nil, B⟩ { tmps := args'.toArray ++ Array.replicate (fn.ntmps - args'.toArray.size) undef, defers := D } := by
  have hlen := ha.length
  have htm : ∀ j v, args'[j]? = some v → (args'.toArray ++ Array.replicate (fn.ntmps - args'.toArray.size) undef).getD j undef = v := by
    intro j v hj
    have hlt := (List.getElem?_eq_some_iff.1 hj).1
    rw [Array.getD_eq_getD_getElem?, Array.getElem?_append_left (by simpa using hlt)]
    simp [hj]
  obtain ⟨hl, hvars⟩ := putArgs_rel (tmps := args'.toArray ++ Array.replicate (fn.ntmps - args'.toArray.size) undef) K.ps args args' 0 K.T0 B h4 hB ha (fun j v hj => by simpa using htm j v hj) (fun p t _ => by rw [badT_get h5]; exact .bad _)
  refine ⟨?_, fun _ _ => .bad _, hvars, rfl, trivial⟩
  simp; omega
inductive ModeOk (e : Emb) : FrameMode → AV → Prop
  | ret : ModeOk e .returning (.x .nili)
  | pan {v : AV} {v' : Value} (h : VRel e v v') : ModeOk e (.panicking [⟨v', false, false⟩]) v
theorem rec_snd {P : Program} {F : Fs} (hF : FsOk P F) {dc : DCheck} {R : KRec} {g : Nat} (hD : DOk P R.K.S R.K.n F dc) (h : R.ok P dc g = true) {cap : List AV} {v : AV} {H H' : AHeap} (hrun : recRun F R cap v H = some H') {e : Emb} {w : World} {cap' : List Value} (hr : Rel P.globals.size e H w) (hc : VRels e cap cap')
    {u : FrameMode} (hu : ModeOk e u v) : (∀ w, (callFunc g cap'.toArray).run P w = .ok (.enter g cap'.toArray) w) ∧ CallsD P g cap'.toArray u w (fun E u' w' => ∃ e' v', E = .returned v' ∧ settle u' = .returning ∧ Evo P.globals.size e H w e' H' w') := by
  unfold KRec.ok at h
  cases hf : P.funcs[g]? with
  | none => rw [hf] at h; cases h
  | some fn =>
  rw [hf] at h
  simp only [Bool.and_eq_true, ble_tt, beq_tt] at h
  obtain ⟨⟨⟨⟨⟨⟨h1, h2⟩, h3⟩, h4⟩, h5⟩, h6⟩, h7⟩ := h
  split at h7
  · rename_i id o0 y hb
    simp only [Bool.and_eq_true] at h7
    obtain ⟨⟨⟨g1, g2⟩, g3⟩, g4⟩ := h7
    refine ⟨fun w => run_callFunc hf h1 hb _ w, ?_⟩
    have hexec : ∀ ρ w, (execOp ρ o0).run P w = .ok .recover w := by
      intro ρ w
      split at g1
      · rename_i xs ts ho
        simp [execOp, ho, resolve, invoke, builtin]
      · cases g1
    unfold recRun at hrun
    cases hB : putArgs R.K.ps cap R.K.T0 with
    | none => rw [hB] at hrun; cases hrun
    | some B =>
    rw [hB] at hrun
    simp only at hrun
    have harel := args_rel (D := []) h2 h3 h4 h5 hB hc
    have hcode := code_snd hF hD R.K.body y g4
    have hres : fn.results = #[] := by
      have : fn.results.toList = [] := by simpa using h6
      exact Array.toList_eq_nil_iff.1 this
    refine callsD_of_wpS hf hb fun c0 cs hcu => ?_
    have go : ∀ (u' : FrameMode) (v' : Value), VRel e v v' → settle u' = .returning →
        y.wpS P (bodyPostS P fn c0 cs (fun E u' w' => ∃ e' v', E = .returned v' ∧ settle u' = .returning ∧ Evo P.globals.size e H w e' H' w')) (({ tmps := cap'.toArray ++ Array.replicate (fn.ntmps - cap'.toArray.size) undef, defers := [] } : Act).put o0.dst v') ({ c0 with mode := u' } :: cs) w := by
      intro u' v' hv hset
      have ha1 := ARel.putE g3 (DF.any_free []) harel (fun _ _ h => h) hv
      have hwp : y.wp P (Fits P R.K.S R.K.n (DF.any []) e H w (R.K.body.den F (R.x0.put v ⟨.nil, B⟩) H)) _ w :=
        hcode (DF.any []) (fun p _ => DF.any_free [] p) (R.x0.put v ⟨.nil, B⟩) H (fun hf => by rw [hf] at hrun; cases hrun) e w _ hr ha1
      refine wpS_of_wp (wp_mono hwp ?_)
      intro X a' w' hfit
      have fin : ∀ en3, (∃ e', ARel R.K.S R.K.n (DF.any []) e' en3 a' ∧ Evo P.globals.size e H w e' H' w') → a'.defers = [] ∧ ∃ u'', ({ c0 with mode := u' } :: cs : List Frame) = { c0 with mode := u'' } :: cs ∧ ∃ v, (results fn a'.tmps).run P w' = .ok v w' ∧
          (∃ e' v', Ending.returned v = .returned v' ∧ settle u'' = .returning ∧ Evo P.globals.size e H w e' H' w') := by
        rintro en3 ⟨e', ha', hev⟩
        have hrs : (results fn a'.tmps).run P w' = .ok (.tuple #[]) w' := by simp [results, hres]
        exact ⟨ha'.defers, u', rfl, _, hrs, e', _, rfl, hset, hev⟩
      cases hr0 : R.K.body.den F (R.x0.put v ⟨.nil, B⟩) H with
      | nrm en3 H3 =>
        rw [hr0] at hrun hfit
        cases hrun
        obtain ⟨rfl, hx⟩ := hfit
        exact fin en3 hx
      | ret en3 H3 =>
        rw [hr0] at hrun hfit
        cases hrun
        obtain ⟨rfl, hx⟩ := hfit
        exact fin en3 hx
      | ext id en3 H3 => rw [hr0] at hrun; cases hrun
      | pan v H3 => rw [hr0] at hrun; cases hrun
      | fail => rw [hr0] at hrun; cases hrun
    refine wpS_seq (wpS_region ?_)
    show wpOpsS P #[o0] _ [0] _ _ _
    have hwant : ∀ y, Region.wanted o0 y = true := wanted_none g2
    simp only [wpOpsS, List.getElem?_toArray, List.getElem?_cons_zero, hwant, if_true, hexec]
    cases hu with
    | ret =>
      have hrec : recoverD (c0 :: cs) = none := by simp [recoverD, hcu]
      rw [hrec]
      have := go .returning .nilIface .nili rfl
      have hc0 : ({ c0 with mode := .returning } : Frame) = c0 := by rw [← hcu]
      rw [hc0] at this
      exact this
    | @pan _ v' hv =>
      have hrec : recoverD (c0 :: cs) = some (v', { c0 with mode := .panicking [⟨v', true, false⟩] } :: cs) := by simp [recoverD, hcu]
      rw [hrec]
      exact go (.panicking [⟨v', true, false⟩]) v' hv rfl
  · cases h7
theorem KDefn.run_snd {P : Program} {F : Fs} (hF : FsOk P F) {dc : DCheck} {f : Nat} {Dn : KDefn} (hD : ∀ S n, DOk P S n F dc) (h : Dn.ok P dc f = true) (args : List AV) (H : AHeap) : FSnd P f args H (Dn.run F args H) := by
  unfold KDefn.ok at h
  cases hf : P.funcs[f]? with
  | none => rw [hf] at h; cases h
  | some fn =>
  rw [hf] at h
  simp only [Bool.and_eq_true, ble_tt, beq_tt] at h
  obtain ⟨⟨⟨⟨⟨⟨⟨⟨h1, h2⟩, h3⟩, h4⟩, h5⟩, h6⟩, hkp⟩, hR⟩, h7⟩ := h
  cases hk : kpOf Dn.K.rs with
  | none => rw [hk] at hkp; cases hkp
  | some kp =>
  rw [hk] at hkp
  split at h7
  · rename_i x id mf df y hb
    simp only [Bool.and_eq_true] at h7
    obtain ⟨⟨⟨⟨⟨g1, g2⟩, g3⟩, g4⟩, g5⟩, g6⟩ := h7
    cases hB : putArgs Dn.K.ps args Dn.K.T0 with
    | none => have : Dn.run F args H = .fail := by unfold KDefn.run; rw [hB]
              rw [this]; trivial
    | some B =>
    have hrun : Dn.run F args H = Res.rec (motive := fun _ => ORes) (fun en1 H1 => finD F Dn H ⟨.nil, en1.B⟩ (evalL (KO.dens Dn.caps) ⟨.nil, en1.B⟩) (Dn.K.body.den F ⟨.nil, en1.B⟩ H1)) (fun _ _ _ => .fail) (fun _ _ => .fail) (fun _ _ => .fail) .fail
      (Dn.c0.den F ⟨.nil, B⟩ (H.withLow H.nxt)) := by unfold KDefn.run; rw [hB]
    rw [hrun]
    have hc0 := code_snd hF (hD _ _) Dn.c0 x g1
    have hc1 := code_snd hF (hD _ _) Dn.K.body y g6
    cases hr0 : Dn.c0.den F ⟨.nil, B⟩ (H.withLow H.nxt) with
    | nrm en1 H1 =>
      simp only
      generalize hcap : evalL (KO.dens Dn.caps) ⟨.nil, en1.B⟩ = cap
      have body : ∀ (r : Res), Dn.K.body.den F ⟨.nil, en1.B⟩ H1 = r → r ≠ .fail → ∀ e w args', Rel P.globals.size e H w → VRels e args args' → ∀ R : Ending → World → Prop,
          (∀ e1 w1 (cap' : List Value), Evo P.globals.size e (H.withLow H.nxt) w e1 H1 w1 → VRels e1 cap cap' → ∀ X a' w', Fits P Dn.K.S Dn.K.n ⟨[{ target := .fn (.func Dn.g) cap'.toArray, args := #[] }], fun B => ∀ p ∈ kp, p.get B = p.get en1.B⟩ e1 H1 w1 r X a' w' → bodyPostD P fn R X a' w') →
          Runs P f args'.toArray w R := by
        intro r hr1 hne e w args' hr ha R hR'
        refine .inl ⟨run_callFunc hf h1 hb _ w, calls_of_wp_defers hf hb ?_⟩
        have harel := args_rel (D := []) h2 h3 h4 h5 hB ha
        have hw0 := hc0 (DF.any []) (fun p _ => DF.any_free [] p) ⟨.nil, B⟩ (H.withLow H.nxt) (by rw [hr0]; simp) e w _ (hr.withLow _) harel
        rw [hr0] at hw0
        refine wp_seq (wp_mono hw0 ?_)
        rintro X a1 w1 ⟨rfl, e1, ha1, hev1⟩
        refine wp_seq (wp_region ?_)
        show wpOps P #[mf, df] _ [0, 1] a1 w1
        have g2' := g2
        simp only [KE.ok, Bool.and_eq_true] at g2'
        rw [wpOps_some (o := mf) rfl, wanted_none g2'.1.2, if_pos rfl]
        refine .inl ?_
        have hmk := KOp.ok_snd hF g2'.2 ⟨.nil, en1.B⟩ H1
        have hden : (KOp.mkf Dn.g [] Dn.caps).den F ⟨.nil, en1.B⟩ H1 = .v (.x (.fn Dn.g [] cap)) H1 := by
          rw [← hcap]; rfl
        rw [hden] at hmk
        refine Oper.wp_mono2 ?_ ?_ (hmk Dn.K.n (DF.any []) e1 w1 a1 hev1.rel ha1.clear)
        · rintro a2 w2 ⟨e2, v2, rfl, hv2, hev2⟩
          cases hv2
          rename_i a0' cap' hv1 hvc
          cases hv1
          have ha2 := ARel.putE g2 (DF.any_free []) ha1.clear hev2.ext (VRel.fn Dn.g [] cap [] cap' .nil hvc)
          rw [wpOps_some (o := df) rfl, wanted_none g4, if_pos rfl]
          refine .inl ?_
          have hdst : mf.dst = some Dn.t ∧ Dn.t < Dn.K.n := by
            have h8 := g2'.1.1
            cases hm : mf.dst with
            | none => rw [hm] at h8; simp at h8
            | some d' =>
              rw [hm] at h8
              simp only [Bool.and_eq_true, beq_tt, ble_tt] at h8
              exact ⟨by rw [h8.1.1], by omega⟩
          have hev : (a1.put mf.dst (.func (.func Dn.g) #[] cap'.toArray)).eval (.tmp Dn.t) = .func (.func Dn.g) #[] cap'.toArray := by
            rw [hdst.1]; exact getD_put_self ha1.size hdst.2 _
          have hex : (execOp (a1.put mf.dst (.func (.func Dn.g) #[] cap'.toArray)).eval df).run P w2 = .ok (.defer { target := .fn (.func Dn.g) cap'.toArray, args := #[] }) w2 := by
            split at g5
            · rename_i t' ts hop
              have ht := Nat.eq_of_beq_eq_true g5
              subst ht
              simp [execOp, hop, resolve, hev, Deferred.ofValue]
            · cases g5
          unfold Oper.wp
          have hex' : (execOp (a1.put mf.dst (.func (.func Dn.g) [].toArray cap'.toArray)).eval df).run P w2 = .ok (.defer { target := .fn (.func Dn.g) cap'.toArray, args := #[] }) w2 := hex
          rw [hex', Oper.upon_defer]
          have hdd : df.dst = none := by simpa using g3
          rw [hdd]
          have ha3 : ARel Dn.K.S Dn.K.n ⟨[{ target := .fn (.func Dn.g) cap'.toArray, args := #[] }], fun B => ∀ p ∈ kp, p.get B = p.get en1.B⟩ e2 ⟨.nil, en1.B⟩
              { (a1.put mf.dst (.func (.func Dn.g) [].toArray cap'.toArray)) with defers := { target := .fn (.func Dn.g) cap'.toArray, args := #[] } :: (a1.put mf.dst (.func (.func Dn.g) [].toArray cap'.toArray)).defers } := by
            refine ⟨ha2.size, fun _ _ => .bad _, ha2.vars, ?_, fun _ _ => rfl⟩
            have := ha2.defers
            show _ :: _ = _
            rw [this]; rfl
          have hne1 : Dn.K.body.den F ⟨.nil, en1.B⟩ H1 ≠ .fail := by rw [hr1]; exact hne
          have hfree : ∀ q, Dn.K.body.wr q → DF.free ⟨[{ target := .fn (.func Dn.g) cap'.toArray, args := #[] }], fun B => ∀ p ∈ kp, p.get B = p.get en1.B⟩ q := by
            intro q hq B' v' hB' p hp
            have hnot := KCode.noW_spec hkp hq
            rcases VP.get_put v' q p B' with h9 | ⟨h9, _⟩
            · rw [h9]; exact hB' p hp
            · subst h9; exact absurd hp hnot
          have hw1 := hc1 _ hfree ⟨.nil, en1.B⟩ H1 hne1 e2 w2 _ hev2.rel ha3
          rw [hr1] at hw1
          have hev12 : Evo P.globals.size e (H.withLow H.nxt) w e2 H1 w2 := hev1.trans hev2
          exact wp_mono hw1 fun X a' w' hfit => hR' e2 w2 cap' hev12 hvc X a' w' hfit
        · intro _ _ _ h; exact h.elim
      have back : ∀ (en : Env) (H3 : AHeap) (l : List AV), evalR Dn.K.rs en H3 = some l → ∀ e w, Rel P.globals.size e H w → ∀ (D : DF) e3 a' w', ARel Dn.K.S Dn.K.n D e3 en a' → Evo P.globals.size e (H.withLow H.nxt) w e3 H3 w' →
          ∃ v' v0 H'', backV l H H3 = .v v0 H'' ∧ (results fn a'.tmps).run P w' = .ok v' w' ∧ ∃ e'', VRel e'' v0 v' ∧ Evo P.globals.size e H w e'' H'' w' := by
        intro en H3 l hl e w hr D e3 a' w' ha' hev
        obtain ⟨v', q1, q2⟩ := results_run hev.rel ha' h6 hl
        obtain ⟨v0, H'', e'', p1, p2, p3⟩ := backV_evo hr hev q2
        exact ⟨v', v0, H'', p1, q1, e'', p2, p3⟩
      have fin : ∀ (u : FrameMode) (v : AV) (H2 H3 : AHeap) (en : Env) (l : List AV) (a' : Act) (w' : World) (e e1 e' : Emb) (w : World) (D : DF) (cap' : List Value) (R : Ending → World → Prop), recRun F Dn.R cap v H2 = some H3 → evalR Dn.K.rs en H3 = some l → Rel P.globals.size e H w → VRels e1 cap cap' → (∀ b i, e1 b = some i → e' b = some i) →
          ModeOk e' u v → u ≠ .run → Evo P.globals.size e (H.withLow H.nxt) w e' H2 w' → ARel Dn.K.S Dn.K.n D e' en a' → a'.defers = [{ target := .fn (.func Dn.g) cap'.toArray, args := #[] }] →
          (∀ v' v0 H'' e'' w'', backV l H H3 = .v v0 H'' → VRel e'' v0 v' → Evo P.globals.size e H w e'' H'' w'' → R (.returned v') w'') → Leaves P fn a'.tmps R a'.defers u w' := by
        intro u v H2 H3 en l a' w' e e1 e' w D cap' R hrec hl hr hcap1 hext hmode hu hev ha' hds hfin
        obtain ⟨q1, q2⟩ := rec_snd hF (hD _ _) hR hrec hev.rel (hcap1.mono hext) hmode
        rw [hds]
        refine leaves_cons hu (f := Dn.g) (args := cap'.toArray) (by simp [invoke, q1]) (CallsD.mono q2 ?_)
        rintro E u' w'' ⟨e3, v3, rfl, hset, hev3⟩
        show Leaves P fn a'.tmps R [] (settle u') w''
        rw [hset]
        obtain ⟨v', v0, H'', b1, b2, e'', b3, b4⟩ := back en H3 l hl e w hr D e3 a' w'' (ha'.mono hev3.ext) (hev.trans hev3)
        exact ⟨v', b2, hfin v' v0 H'' e'' w'' b1 b3 b4⟩
      cases hr1 : Dn.K.body.den F ⟨.nil, en1.B⟩ H1 with
      | fail => trivial
      | ext id en H' => trivial
      | pan v H2 =>
        show FSnd P f args H (optHp (recRun F Dn.R cap v H2) fun H3 => optL .fail (fun l => backV l H H3) (evalR Dn.K.rs ⟨.nil, en1.B⟩ H3))
        cases hrec : recRun F Dn.R cap v H2 with
        | none => trivial
        | some H3 =>
          show FSnd P f args H (optL .fail (fun l => backV l H H3) (evalR Dn.K.rs ⟨.nil, en1.B⟩ H3))
          cases hl : evalR Dn.K.rs ⟨.nil, en1.B⟩ H3 with
          | none => trivial
          | some l =>
            have key : FSnd P f args H (backV l H H3) := by
              obtain ⟨v0, H'', hb2⟩ := backV_v l H H3
              rw [hb2]
              intro e w args' hr ha
              refine body _ hr1 (by simp) e w args' hr ha _ ?_
              rintro e1 w1 cap' hev1 hvc X a' w' ⟨e', v', rfl, ⟨en', ha'⟩, hv, hev⟩
              have hl' : evalR Dn.K.rs en' H3 = some l := by rw [KR.den_kept hk (en := ⟨.nil, en1.B⟩) ha'.kept]; exact hl
              exact fin _ v H2 H3 en' l a' w' e e1 e' w _ cap' _ hrec hl' hr hvc hev.ext (.pan hv) (by simp) (hev1.trans hev) ha' ha'.defers fun v'' v4 H4 e'' w'' q1 q2 q3 => by
                rw [hb2] at q1; cases q1
                exact ⟨e'', v'', rfl, q2, q3⟩
            exact key
      | nrm en2 H2 =>
        show FSnd P f args H (optHp (recRun F Dn.R cap (.x .nili) H2) fun H3 => optL .fail (fun l => backV l H H3) (evalR Dn.K.rs en2 H3))
        cases hrec : recRun F Dn.R cap (.x .nili) H2 with
        | none => trivial
        | some H3 =>
          show FSnd P f args H (optL .fail (fun l => backV l H H3) (evalR Dn.K.rs en2 H3))
          cases hl : evalR Dn.K.rs en2 H3 with
          | none => trivial
          | some l =>
            have key : FSnd P f args H (backV l H H3) := by
              obtain ⟨v0, H'', hb2⟩ := backV_v l H H3
              rw [hb2]
              intro e w args' hr ha
              refine body _ hr1 (by simp) e w args' hr ha _ ?_
              rintro e1 w1 cap' hev1 hvc X a' w' ⟨rfl, e', ha', hev⟩
              exact fin .returning (.x .nili) H2 H3 en2 l a' w' e e1 e' w _ cap' _ hrec hl hr hvc hev.ext .ret (by simp) (hev1.trans hev) ha' ha'.defers fun v'' v4 H4 e'' w'' q1 q2 q3 => by
                rw [hb2] at q1; cases q1
                exact ⟨e'', v'', rfl, q2, q3⟩
            exact key
      | ret en2 H2 =>
        show FSnd P f args H (optHp (recRun F Dn.R cap (.x .nili) H2) fun H3 => optL .fail (fun l => backV l H H3) (evalR Dn.K.rs en2 H3))
        cases hrec : recRun F Dn.R cap (.x .nili) H2 with
        | none => trivial
        | some H3 =>
          show FSnd P f args H (optL .fail (fun l => backV l H H3) (evalR Dn.K.rs en2 H3))
          cases hl : evalR Dn.K.rs en2 H3 with
          | none => trivial
          | some l =>
            have key : FSnd P f args H (backV l H H3) := by
              obtain ⟨v0, H'', hb2⟩ := backV_v l H H3
              rw [hb2]
              intro e w args' hr ha
              refine body _ hr1 (by simp) e w args' hr ha _ ?_
              rintro e1 w1 cap' hev1 hvc X a' w' ⟨rfl, e', ha', hev⟩
              exact fin .returning (.x .nili) H2 H3 en2 l a' w' e e1 e' w _ cap' _ hrec hl hr hvc hev.ext .ret (by simp) (hev1.trans hev) ha' ha'.defers fun v'' v4 H4 e'' w'' q1 q2 q3 => by
                rw [hb2] at q1; cases q1
                exact ⟨e'', v'', rfl, q2, q3⟩
            exact key
    | _ => trivial
  · cases h7
end
end Go.Ab
namespace Go.Ab
open Go
inductive KFn where
  | fn (K : KFun)
  | prim (φ : List AV → AHeap → ORes)
    | memo (rows : List (List AV × AV)) (K : KFun)
    | memoG (bs : List ABlk) (rows : List (List AV × AV)) (K : KFun)
    | ndet (K : KFun) (N : NCode)
    | cod (K : KFun) (φ : Fs → Env → AHeap → Res)
    | dfr (D : KDefn)
noncomputable section
def KFn.run (F : Fs) (k : KFn) : List AV → AHeap → ORes :=
  KFn.rec (motive := fun _ => List AV → AHeap → ORes) (fun K => K.run F) (fun φ => φ) (fun rows K args H => Option.rec (motive := fun _ => ORes) (K.run F args H) (fun v => .v v H) (lookM rows args))
    (fun bs rows K args H => Option.rec (motive := fun _ => ORes) (K.run F args H) (fun v => Bool.rec (motive := fun _ => ORes) (K.run F args H) (.v v H) (sameG bs H 0)) (lookM rows args))
    (fun K N => K.runN F N)
    (fun K φ args H => Option.rec (motive := fun _ => ORes) .fail (fun B => finish K.rs H (φ F ⟨.nil, B⟩ (H.withLow H.nxt))) (putArgs K.ps args K.T0)) (fun D => D.run F) k
def fsN (T : BT KFn) (n : Nat) : Fs :=
  Nat.rec (motive := fun _ => Fs) (fun _ _ _ => .fail) (fun _ ih f args H => Option.rec (motive := fun _ => ORes) .fail (fun k => k.run ih args H) (T.get f)) n
inductive FnOk (P : Program) (dc : DCheck) (f : Nat) : KFn → Prop
  | fn {K : KFun} (h : K.ok P dc f = true) : FnOk P dc f (.fn K)
  | prim {φ : List AV → AHeap → ORes} (h : ∀ args H, FSnd P f args H (φ args H)) : FnOk P dc f (.prim φ)
  | ndet {K : KFun} {N : NCode} (h : K.okN P dc f N = true) : FnOk P dc f (.ndet K N)
  | cod {K : KFun} {φ : Fs → Env → AHeap → Res} (h : K.ok P dc f = true) (he : (fun F => K.body.den F) = φ) : FnOk P dc f (.cod K φ)
  | dfr {D : KDefn} (h : D.ok P dc f = true) : FnOk P dc f (.dfr D)
  | memoG {bs : List ABlk} {rows : List (List AV × AV)} {K : KFun} (h : K.ok P dc f = true) (hr : ∀ r, r ∈ rows → ∀ H, sameG bs H 0 = true → FSnd P f r.1 H (.v r.2 H)) : FnOk P dc f (.memoG bs rows K)
  | memo {rows : List (List AV × AV)} {K : KFun} (h : K.ok P dc f = true) (hr : ∀ r, r ∈ rows → ∀ H, FSnd P f r.1 H (.v r.2 H)) : FnOk P dc f (.memo rows K)
def TabOk (P : Program) (dc : DCheck) (T : BT KFn) : Prop := ∀ f k, T.get f = some k → FnOk P dc f k
theorem fsN_ok {P : Program} {dc : DCheck} {T : BT KFn} (hD : ∀ F, FsOk P F → ∀ S n, DOk P S n F dc) (hT : TabOk P dc T) : ∀ n, FsOk P (fsN T n)
  | 0, f, args, H => trivial
  | n + 1, f, args, H => by
    show FSnd P f args H (Option.rec (motive := fun _ => ORes) .fail (fun k => k.run (fsN T n) args H) (T.get f))
    cases hk : T.get f with
    | none => trivial
    | some k =>
      cases hT f k hk with
      | fn hK => exact KFun.run_snd (fsN_ok hD hT n) (hD _ (fsN_ok hD hT n) _ _) hK args H
      | prim hφ => exact hφ args H
      | ndet hK => exact KFun.runN_snd (fsN_ok hD hT n) (hD _ (fsN_ok hD hT n) _ _) hK args H
      | dfr hK => exact KDefn.run_snd (fsN_ok hD hT n) (hD _ (fsN_ok hD hT n)) hK args H
      | @memoG bs rows K hK hr =>
        show FSnd P f args H (Option.rec (motive := fun _ => ORes) (K.run (fsN T n) args H) (fun v => Bool.rec (motive := fun _ => ORes) (K.run (fsN T n) args H) (.v v H) (sameG bs H 0)) (lookM rows args))
        have hrun := KFun.run_snd (fsN_ok hD hT n) (hD _ (fsN_ok hD hT n) _ _) hK args H
        cases hl : lookM rows args with
        | none => exact hrun
        | some v =>
          cases hs : sameG bs H 0 with
          | false => exact hrun
          | true => exact hr (args, v) (lookM_spec hl) H hs
      | cod hK he =>
        subst he
        exact KFun.run_snd (fsN_ok hD hT n) (hD _ (fsN_ok hD hT n) _ _) hK args H
      | @memo rows K hK hr =>
        show FSnd P f args H (Option.rec (motive := fun _ => ORes) (K.run (fsN T n) args H) (fun v => .v v H) (lookM rows args))
        cases hl : lookM rows args with
        | none => exact KFun.run_snd (fsN_ok hD hT n) (hD _ (fsN_ok hD hT n) _ _) hK args H
        | some v => exact hr (args, v) (lookM_spec hl) H
inductive AllOk (P : Program) (dc : DCheck) : Nat → List KFn → Prop
  | nil (i : Nat) : AllOk P dc i []
  | cons {i : Nat} {k : KFn} {l : List KFn} (h : FnOk P dc i k) (t : AllOk P dc (i + 1) l) : AllOk P dc i (k :: l)
theorem AllOk.get {P : Program} {dc : DCheck} : ∀ {l : List KFn} {i j : Nat} {k : KFn}, AllOk P dc i l → l[j]? = some k → FnOk P dc (i + j) k
  | _, i, 0, k, .cons h t, hj => by simp at hj; subst hj; exact h
  | _, i, j + 1, k, .cons h t, hj => by
    have := AllOk.get t (j := j) (by simpa using hj)
    rwa [show i + (j + 1) = i + 1 + j by omega]
theorem AllOk.tab {P : Program} {dc : DCheck} {l : List KFn} {T : BT KFn} (h : AllOk P dc 0 l) (hT : T = BT.ofList l) : TabOk P dc T := fun f k hk => by
  rw [hT, BT.get_ofList] at hk
  have := AllOk.get h hk
  rwa [Nat.zero_add] at this
end
end Go.Ab
namespace Go.Ab
open Go
noncomputable section
def setC (H : AHeap) (b n : Nat) (t : BT AV) (w : Bool) (sp o : Nat) (v : AV) : AHeap := (H.upd b (.c n (t.set v o) w sp)).withLow H.low
theorem setC_get {H : AHeap} {b n : Nat} {t : BT AV} {w : Bool} {sp o : Nat} {v : AV} (hb : H.get b = some (.c n t w sp)) (c : Nat) : (setC H b n t w sp o v).get c = if c = b then some (.c n (t.set v o) w sp) else H.get c := by
  unfold setC
  rw [AHeap.get_withLow, AHeap.get_upd _ _ _ (AHeap.lt_of_get hb)]
  by_cases h : c = b
  · subst h; rw [if_pos rfl, if_pos rfl, hb]; rfl
  · rw [if_neg h, if_neg h]
theorem setC_owned {H : AHeap} {b n : Nat} {t : BT AV} {w : Bool} {sp o : Nat} {v : AV} (hb : H.get b = some (.c n t w sp)) (c : Nat) : (setC H b n t w sp o v).owned c ↔ H.owned c := by
  unfold AHeap.owned
  rw [setC_get hb]
  by_cases h : c = b
  · subst h
    rw [if_pos rfl, hb]
    constructor
    · rintro (⟨a, b, d, h⟩ | ⟨es, h⟩)
      · cases h; exact .inl ⟨_, _, _, rfl⟩
      · cases h
    · rintro (⟨a, b, d, h⟩ | ⟨es, h⟩)
      · cases h; exact .inl ⟨_, _, _, rfl⟩
      · cases h
  · rw [if_neg h]
theorem setC_dead {H : AHeap} {b n : Nat} {t : BT AV} {w : Bool} {sp o : Nat} {v : AV} (hb : H.get b = some (.c n t w sp)) (c : Nat) : (setC H b n t w sp o v).get c = some .dead ↔ H.get c = some .dead := by
  rw [setC_get hb]
  by_cases h : c = b
  · subst h; rw [if_pos rfl, hb]; constructor <;> intro h <;> cases h
  · rw [if_neg h]
theorem setC_alive {H : AHeap} {b n : Nat} {t : BT AV} {w : Bool} {sp o : Nat} {v : AV} (hb : H.get b = some (.c n t w sp)) (c : Nat) : (setC H b n t w sp o v).alive c ↔ H.alive c := by
  unfold AHeap.alive
  rw [setC_get hb]
  by_cases h : c = b
  · subst h
    rw [if_pos rfl, hb]
    constructor <;> rintro ⟨x, h, _⟩ <;> cases h <;> exact ⟨_, rfl, by simp⟩
  · rw [if_neg h]
theorem rel_setC {G : Nat} {e : Emb} {H : AHeap} {w : World} (hr : Rel G e H w) {b n : Nat} {t : BT AV} {wr : Bool} {sp o : Nat} (hb : H.get b = some (.c n t wr sp)) {v : AV} (hv : ∀ i C ty z v', e b = some i → w.heap[i.blk]? = some (.cells C ty z) → C[i.off + o]? = some v' → (∀ u, t.get o = some u → VRel e u v') → VRel e v v') : Rel G e (setC H b n t wr sp o v) w where
  lt := hr.lt
  bnd := hr.bnd
  glob := hr.glob
  obj := fun c i x hc hx => by
    rw [setC_get hb] at hx
    by_cases h : c = b
    · subst h
      rw [if_pos rfl] at hx
      cases hx
      obtain ⟨a1, a2, a3, C, ty, z, a4, a5, a6, a7⟩ := hr.obj c i _ hc hb
      refine ⟨a1, a2, a3, C, ty, z, a4, a5, a6, fun k hk => ?_⟩
      obtain ⟨u, v', q1, q2, q3⟩ := a7 k hk
      rw [BT.get_set]
      by_cases hko : k = o
      · subst hko
        rw [if_pos rfl, q1]
        exact ⟨v, v', rfl, q2, hv i C ty z v' hc a4 q2 (fun u' hu' => by rw [q1] at hu'; cases hu'; exact q3)⟩
      · rw [if_neg hko]; exact ⟨u, v', q1, q2, q3⟩
    · rw [if_neg h] at hx; exact hr.obj c i x hc hx
  sep := fun b1 i1 b2 i2 h1 h2 hne ho ha => hr.sep b1 i1 b2 i2 h1 h2 hne ((setC_owned hb _).1 ho) ((setC_alive hb _).1 ha)
theorem setC_back (t : BT AV) (o : Nat) (v u : AV) : (t.set v o).set u o = t.set u o := by
  have key : ∀ (t : BT AV) (o : Nat), (t.set v o).set u o = t.set u o := by
    intro t
    induction t with
    | lf => intro o; rfl
    | nd l x r il ir =>
      intro o
      rw [BT.set_nd, BT.set_nd]
      by_cases h0 : o = 0
      · rw [if_pos h0, if_pos h0, BT.set_nd, if_pos h0]
      · rw [if_neg h0, if_neg h0]
        by_cases h1 : o % 2 = 1
        · rw [if_pos h1, if_pos h1, BT.set_nd, if_neg h0, if_pos h1, il]
        · rw [if_neg h1, if_neg h1, BT.set_nd, if_neg h0, if_neg h1, ir]
  exact key t o
theorem split_snd {P : Program} {f : Nat} {args : List AV} {H : AHeap} {b n : Nat} {t : BT AV} {wr : Bool} {sp o k lo hi : Nat} {v : AV} (hb : H.get b = some (.c n t wr sp)) (ho : o < n) (ht : t.get o = some (.x (.rg k lo hi))) (hlh : lo ≤ hi)
    (hall : ∀ c, lo ≤ c → c ≤ hi → FSnd P f args (setC H b n t wr sp o (.i k c)) (.v v (setC H b n t wr sp o (.i k c)))) : FSnd P f args H (.v v H) := by
  intro e w args' hr ha
  obtain ⟨c, hc1, hc2, hk, hcv⟩ : ∃ c, lo ≤ c ∧ c ≤ hi ∧ (∀ i, e b = some i → k < 8 ∧ c < 2 ^ (kindOf k).bits) ∧ ∀ i C ty z v', e b = some i → w.heap[i.blk]? = some (.cells C ty z) → C[i.off + o]? = some v' → (∀ u, t.get o = some u → VRel e u v') → VRel e (.i k c) v' := by
    cases he : e b with
    | none => exact ⟨lo, Nat.le_refl _, hlh, fun i hi => (by cases hi), fun i C ty z v' hi => (by cases hi)⟩
    | some i =>
      obtain ⟨a1, a2, a3, C, ty, z, a4, a5, a6, a7⟩ := hr.obj b i _ he hb
      obtain ⟨u, v', q1, q2, q3⟩ := a7 o ho
      rw [ht] at q1
      cases q1
      cases q3 with
      | rg _ _ _ m hk hm h1 h2 =>
        refine ⟨m, h1, h2, fun _ _ => ⟨hk, hm⟩, fun i' C' ty' z' v'' hi' hC' hv' _ => ?_⟩
        cases hi'
        rw [a4] at hC'
        cases hC'
        rw [q2] at hv'
        cases hv'
        exact .i k m hk hm
  have hrc := rel_setC hr hb hcv
  have hback : ∀ (e2 : Emb) (w2 : World), (∀ i, e b = some i → e2 b = some i) → (∀ i, e2 b = some i → ∃ i, e b = some i) → Rel P.globals.size e2 (setC H b n t wr sp o (.i k c)) w2 → Rel P.globals.size e2 H w2 := by
    intro e2 w2 hex hold h2
    have h3 := rel_setC h2 (by rw [setC_get hb, if_pos rfl]) (o := o) (v := .x (.rg k lo hi)) (fun i C ty z v' hi' hC hv hrel => by
      have h4 := hrel (.i k c) (by rw [BT.get_set, if_pos rfl, ht]; rfl)
      obtain ⟨i0, hi0⟩ := hold i hi'
      obtain ⟨hk8, hcb⟩ := hk i0 hi0
      cases h4
      exact .rg k lo hi c hk8 hcb hc1 hc2)
    refine ⟨h2.lt, h2.bnd, h2.glob, fun d i x hd hx => ?_, fun b1 i1 b2 i2 q1 q2 hne ho ha => h2.sep b1 i1 b2 i2 q1 q2 hne ((setC_owned hb _).2 ho) ((setC_alive hb _).2 ha)⟩
    by_cases hdb : d = b
    · subst hdb
      rw [hb] at hx
      cases hx
      obtain ⟨a1, a2, a3, C, ty, z, a4, a5, a6, a7⟩ := h3.obj d i (.c n ((t.set (.i k c) o).set (.x (.rg k lo hi)) o) wr sp) hd (by rw [setC_get (by rw [setC_get hb, if_pos rfl]), if_pos rfl])
      refine ⟨a1, a2, a3, C, ty, z, a4, a5, a6, fun q hq => ?_⟩
      obtain ⟨u, v', q1, q2, q3⟩ := a7 q hq
      rw [setC_back, BT.get_set] at q1
      by_cases hqo : q = o
      · subst hqo
        rw [if_pos rfl, ht] at q1
        cases q1
        exact ⟨_, v', ht, q2, q3⟩
      · rw [if_neg hqo] at q1; exact ⟨u, v', q1, q2, q3⟩
    · exact h2.obj d i x hd (by rw [setC_get hb, if_neg hdb]; exact hx)
  have conv : ∀ e' w', Evo P.globals.size e (setC H b n t wr sp o (.i k c)) w e' (setC H b n t wr sp o (.i k c)) w' → Evo P.globals.size e H w e' H w' := by
    intro e' w' h
    refine ⟨hback e' w' (fun i hi => h.ext b i hi) (fun i hi => ?_) h.rel, h.ext, h.size, h.tape, h.os, h.out, Nat.le_refl _, Nat.le_refl _, fun _ _ _ => rfl, fun _ hd => hd, fun d i hd hi => ?_, fun B hB hf => h.frame B hB fun d i hd hi => ?_⟩
    · cases he : e b with
      | some j => exact ⟨j, rfl⟩
      | none =>
        have := (h.fresh b i he hi).1
        have h9 : b < H.nxt := AHeap.lt_of_get hb
        have h10 : (setC H b n t wr sp o (.i k c)).nxt = H.nxt := rfl
        omega
    · obtain ⟨q1, q2⟩ := h.fresh d i hd hi
      refine ⟨q1, q2.imp id ?_⟩
      rintro ⟨b0, i0, p1, p2, p3, p4⟩
      exact ⟨b0, i0, p1, p2, fun hdd => p3 ((setC_dead hb _).2 hdd), p4⟩
    · rcases hf d i hd hi with q | q
      · exact .inl ((setC_dead hb _).2 q)
      · exact .inr q
  rcases hall c hc1 hc2 e w args' hrc ha with ⟨h1, h2⟩ | ⟨u, w', h1, h2⟩
  · exact .inl ⟨h1, Calls.mono h2 fun E w' ⟨e', v', hE, hv, hev⟩ => ⟨e', v', hE, hv, conv e' w' hev⟩⟩
  · obtain ⟨e', v', hE, hv, hev⟩ := h2
    exact .inr ⟨u, w', h1, e', v', hE, hv, conv e' w' hev⟩
def plainRun (F : Fs) (K : KFun) (args : List AV) (H : AHeap) : Option AV :=
  Option.rec (motive := fun _ => Option AV) none (fun B =>
    Res.rec (motive := fun _ => Option AV) (fun en H' => Option.rec (motive := fun _ => Option AV) none (fun l => Bool.rec (motive := fun _ => Option AV) none (some (packA l)) (bAnd (okL H l) (Nat.ble H.nxt H'.low))) (evalR K.rs en H'))
      (fun _ _ _ => none) (fun en H' => Option.rec (motive := fun _ => Option AV) none (fun l => Bool.rec (motive := fun _ => Option AV) none (some (packA l)) (bAnd (okL H l) (Nat.ble H.nxt H'.low))) (evalR K.rs en H')) (fun _ _ => none) none
      (K.body.den F ⟨.nil, B⟩ (H.withLow H.nxt))) (putArgs K.ps args K.T0)
theorem plainRun_run {F : Fs} {K : KFun} {args : List AV} {H : AHeap} {v : AV} (h : plainRun F K args H = some v) : K.run F args H = .v v H := by
  unfold plainRun at h
  unfold KFun.run
  cases hB : putArgs K.ps args K.T0 with
  | none => rw [hB] at h; cases h
  | some B =>
    rw [hB] at h
    simp only at h ⊢
    have fin : ∀ en H', Option.rec (motive := fun _ => Option AV) none (fun l => Bool.rec (motive := fun _ => Option AV) none (some (packA l)) (bAnd (okL H l) (Nat.ble H.nxt H'.low))) (evalR K.rs en H') = some v → optL .fail (fun l => backV l H H') (evalR K.rs en H') = .v v H := by
      intro en H' h
      cases hl : evalR K.rs en H' with
      | none => rw [hl] at h; cases h
      | some l =>
        rw [hl] at h
        cases hc : bAnd (okL H l) (Nat.ble H.nxt H'.low) with
        | false => simp only [hc] at h; cases h
        | true =>
          simp only [hc] at h
          cases h
          rw [bAnd_iff] at hc
          show backV l H H' = _
          unfold backV
          rw [hc.1, hc.2]
    cases hr : K.body.den F ⟨.nil, B⟩ (H.withLow H.nxt) with
    | nrm en H' => rw [hr] at h; exact fin en H' h
    | ret en H' => rw [hr] at h; exact fin en H' h
    | ext => rw [hr] at h; cases h
    | pan => rw [hr] at h; cases h
    | fail => rw [hr] at h; cases h
def rgAt (t : BT AV) (o n : Nat) : Option (Nat × Nat × Nat × Nat) :=
  Nat.rec (motive := fun _ => Nat → Option (Nat × Nat × Nat × Nat)) (fun _ => none) (fun _ ih o => Option.rec (motive := fun _ => Option (Nat × Nat × Nat × Nat)) (ih (Nat.add o 1))
    (fun v => avX (ih (Nat.add o 1)) (fun u => AX.casesOn (motive_1 := fun _ => Option (Nat × Nat × Nat × Nat)) u none none none none none none (fun _ => none) (fun _ _ _ => none) (fun _ _ => none) (fun _ => none) (fun _ => none) (fun _ => none) (fun _ _ => none) (fun k lo hi => some (o, k, lo, hi)) (fun _ _ _ => none)) v) (t.get o)) n o
def allB (f : Nat → Bool) (lo m : Nat) : Bool := Nat.rec (motive := fun _ => Bool) true (fun i ih => bAnd (f (Nat.add lo i)) ih) m
theorem allB_spec {f : Nat → Bool} {lo : Nat} : ∀ {m : Nat}, allB f lo m = true → ∀ i, i < m → f (lo + i) = true
  | m + 1, h, i, hi => by
    have h' : bAnd (f (lo + m)) (allB f lo m) = true := h
    rw [bAnd_iff] at h'
    by_cases him : i = m
    · subst him; exact h'.1
    · exact allB_spec h'.2 i (by omega)
def isNo (r : ORes) : Bool := ORes.rec (motive := fun _ => Bool) (fun _ _ => false) (fun _ _ => false) true r
def atAll (K : KFun) (args : List AV) (H : AHeap) (b n : Nat) (t : BT AV) (wr : Bool) (sp : Nat) (p : Nat × Nat × Nat × Nat) : ORes :=
  Option.rec (motive := fun _ => ORes) .fail (fun v =>
    bif' .fail (bif' .fail (bif' .fail (.v v H) (allB (fun c => Option.rec (motive := fun _ => Bool) false (fun u => eqA v u) (plainRun (fun _ _ _ => .fail) K args (setC H b n t wr sp p.1 (.i p.2.1 c)))) p.2.2.1 (Nat.add (Nat.sub p.2.2.2 p.2.2.1) 1))) (Nat.ble p.2.2.1 p.2.2.2)) (Nat.ble (Nat.add p.1 1) n))
    (plainRun (fun _ _ _ => .fail) K args (setC H b n t wr sp p.1 (.i p.2.1 p.2.2.1)))
def pSplitA (K : KFun) (args : List AV) (H : AHeap) (v : AV) (r : ORes) : ORes :=
  Bool.rec (motive := fun _ => ORes) r (avSl .fail (fun b o len _ => blkC .fail (fun n t wr sp => Option.rec (motive := fun _ => ORes) .fail (fun p => Option.rec (motive := fun _ => ORes) .fail (fun u => avX .fail (fun u => AX.casesOn (motive_1 := fun _ => ORes) u .fail .fail .fail .fail .fail .fail (fun _ => .fail) (fun _ _ _ => .fail) (fun _ _ => .fail) (fun _ => .fail) (fun _ => .fail) (fun _ => .fail) (fun _ _ => .fail)
    (fun k lo hi => atAll K args H b n t wr sp (p.1, k, lo, hi)) (fun _ _ _ => .fail)) u) (t.get p.1)) (rgAt t o len)) (H.get b)) v) (isNo r)
def pSplit (K : KFun) (args : List AV) (H : AHeap) : ORes := List.rec (motive := fun _ => ORes) (K.run (fun _ _ _ => .fail) args H) (fun v _ ih => pSplitA K args H v ih) args
theorem pSplit_snd {P : Program} (hmix : P.follows .mixedOrders = true) {K : KFun} {f : Nat} (h : K.ok P dchk f = true) (args : List AV) (H : AHeap) : FSnd P f args H (pSplit K args H) := by
  have hF : FsOk P (fun _ _ _ => .fail) := fun _ _ _ => trivial
  have hrun : ∀ H, FSnd P f args H (K.run (fun _ _ _ => .fail) args H) := fun H => KFun.run_snd hF (dok hF hmix _ _) h args H
  have step : ∀ (v : AV) (r : ORes), FSnd P f args H r → FSnd P f args H (pSplitA K args H v r) := by
    intro v r hr
    unfold pSplitA
    cases hn : isNo r with
    | false => exact hr
    | true =>
      simp only
      cases v with
      | sl b o len cap =>
        simp only [avSl]
        cases hb : H.get b with
        | none => trivial
        | some x =>
          cases x with
          | c n t wr sp =>
            simp only [blkC]
            cases hp : rgAt t o len with
            | none => trivial
            | some p =>
              simp only
              cases ht : t.get p.1 with
              | none => trivial
              | some u =>
                cases u with
                | x u =>
                  cases u with
                  | rg k lo hi =>
                    simp only [avX]
                    unfold atAll
                    cases hv : plainRun (fun _ _ _ => .fail) K args (setC H b n t wr sp p.1 (.i k lo)) with
                    | none => trivial
                    | some v =>
                      simp only
                      cases c1 : Nat.ble (Nat.add p.1 1) n with
                      | false => trivial
                      | true =>
                        simp only [bif']
                        cases c2 : Nat.ble lo hi with
                        | false => trivial
                        | true =>
                          simp only
                          cases c3 : allB (fun c => Option.rec (motive := fun _ => Bool) false (fun u => eqA v u) (plainRun (fun _ _ _ => .fail) K args (setC H b n t wr sp p.1 (.i k c)))) lo (Nat.add (Nat.sub hi lo) 1) with
                          | false => trivial
                          | true =>
                            rw [ble_tt] at c1 c2
                            refine split_snd hb (show p.1 < n from c1) ht c2 fun c h1 h2 => ?_
                            have := allB_spec c3 (c - lo) (show c - lo < hi - lo + 1 by omega)
                            rw [show lo + (c - lo) = c by omega] at this
                            cases hq : plainRun (fun _ _ _ => .fail) K args (setC H b n t wr sp p.1 (.i k c)) with
                            | none => rw [hq] at this; cases this
                            | some u =>
                              rw [hq] at this
                              have hvu : v = u := eqA_eq this
                              subst hvu
                              rw [← plainRun_run hq]
                              exact hrun _
                  | _ => trivial
                | _ => trivial
          | _ => trivial
      | _ => trivial
  have all : ∀ l : List AV, FSnd P f args H (List.rec (motive := fun _ => ORes) (K.run (fun _ _ _ => .fail) args H) (fun v _ ih => pSplitA K args H v ih) l) := by
    intro l
    induction l with
    | nil => exact hrun H
    | cons v l ih => exact step v _ ih
  exact all args
end
end Go.Ab
namespace Go.Ab
open Go
noncomputable section
theorem Evo.still {G : Nat} {e : Emb} {H : AHeap} {w w' : World} (hr : Rel G e H w) (hs : w.heap.size ≤ w'.heap.size) (ht : w'.tape = w.tape) (hos : w'.os = w.os) (hout : w'.output = w.output) (hf : ∀ B, B < w.heap.size → w'.heap[B]? = w.heap[B]?) : Evo G e H w e H w' where
  rel := {
    lt := hr.lt
    bnd := fun b i hb => Nat.lt_of_lt_of_le (hr.bnd b i hb) hs
    glob := hr.glob
    obj := fun b i x hb hg => by rw [hf _ (hr.bnd b i hb)]; exact hr.obj b i x hb hg
    sep := hr.sep }
  ext := fun _ _ h => h
  size := hs
  tape := ht
  os := hos
  out := hout
  nxt := Nat.le_refl _
  low := Nat.le_refl _
  same := fun _ _ _ => rfl
  dead := fun _ h => h
  fresh := fun b i h1 h2 => by rw [h1] at h2; cases h2
  frame := fun B hB _ => hf B hB
mutual
inductive PlainV : AV → Prop
  | i (k n : Nat) : PlainV (.i k n)
  | b (v : Bool) : PlainV (.b v)
  | s (l c : Nat) : PlainV (.s l c)
  | nilp : PlainV (.x .nilp)
  | nils : PlainV (.x .nils)
  | nilm : PlainV (.x .nilm)
  | nilf : PlainV (.x .nilf)
  | nili : PlainV (.x .nili)
  | fl (n : Nat) : PlainV (.x (.fl n))
  | agg {l : List AV} (h : PlainVs l) : PlainV (.x (.agg l))
  | tup {l : List AV} (h : PlainVs l) : PlainV (.x (.tup l))
inductive PlainVs : List AV → Prop
  | nil : PlainVs []
  | cons {v : AV} {l : List AV} (h : PlainV v) (t : PlainVs l) : PlainVs (v :: l)
end
mutual
theorem PlainV.rel {e e' : Emb} : ∀ {v : AV} {v' : Value}, VRel e v v' → PlainV v → VRel e' v v'
  | _, _, .i k n hk hn, _ => .i k n hk hn
  | _, _, .b v, _ => .b v
  | _, _, .s l c hc, _ => .s l c hc
  | _, _, .nilp, _ => .nilp
  | _, _, .nils, _ => .nils
  | _, _, .nilm, _ => .nilm
  | _, _, .nilf, _ => .nilf
  | _, _, .nili, _ => .nili
  | _, _, .fl b, _ => .fl b
  | _, _, .agg l l' hl, .agg h => .agg l l' (PlainVs.rel hl h)
  | _, _, .tup l l' hl, .tup h => .tup l l' (PlainVs.rel hl h)
theorem PlainVs.rel {e e' : Emb} : ∀ {l : List AV} {l' : List Value}, VRels e l l' → PlainVs l → VRels e' l l'
  | _, _, .nil, _ => .nil
  | _, _, .cons hv ht, .cons h t => .cons (PlainV.rel hv h) (PlainVs.rel ht t)
end
theorem FSnd.reloc {P : Program} {f : Nat} {args : List AV} {v : AV} {H' : AHeap} (h : FSnd P f args (deads P.globals.size) (.v v H')) (ha : PlainVs args) (hv : PlainV v) (H : AHeap) : FSnd P f args H (.v v H) := by
  intro e w args' hr hargs
  have hrd : Rel P.globals.size (e.cut P.globals.size) (deads P.globals.size) w := {
    lt := fun b i hb => by exact (Emb.cut_some.1 hb).1
    bnd := fun b i hb => hr.bnd b i (Emb.cut_some.1 hb).2
    glob := fun g hg => by
      obtain ⟨i, hi, q⟩ := hr.glob g hg
      exact ⟨i, Emb.cut_some.2 ⟨hg, hi⟩, q⟩
    obj := fun b i x hb hg => by
      rw [deads_get _ _ (Emb.cut_some.1 hb).1] at hg
      cases hg; trivial
    sep := fun b1 i1 b2 i2 h1 h2 hne ho ha => by
      have := deads_get _ _ (Emb.cut_some.1 h1).1
      rcases ho with ⟨n, t, sp, q⟩ | ⟨es, q⟩ <;> rw [this] at q <;> cases q }
  have := h (e.cut P.globals.size) w args' hrd (PlainVs.rel hargs ha)
  have conv : ∀ E w', (∃ e' v', E = Ending.returned v' ∧ VRel e' v v' ∧ Evo P.globals.size (e.cut P.globals.size) (deads P.globals.size) w e' H' w') → ∃ e' v', E = Ending.returned v' ∧ VRel e' v v' ∧ Evo P.globals.size e H w e' H w' := by
    rintro E w' ⟨e', v', hE, q1, q2⟩
    refine ⟨e, v', hE, PlainV.rel q1 hv, Evo.still hr q2.size q2.tape q2.os q2.out fun B hB => q2.frame B hB fun b i hb _ => .inl (deads_get _ _ (Emb.cut_some.1 hb).1)⟩
  rcases this with ⟨h1, h2⟩ | ⟨v1, w1, h1, h2⟩
  · exact .inl ⟨h1, Calls.mono h2 conv⟩
  · exact .inr ⟨v1, w1, h1, conv _ _ h2⟩
def isV (f : AV → Bool) (r : ORes) : Bool := ORes.rec (motive := fun _ => Bool) (fun v _ => f v) (fun _ _ => false) false r
theorem FSnd.row {P : Program} {F : Fs} (hF : FsOk P F) {f : Nat} {args : List AV} {v : AV} {r : ORes} (hr : F f args (deads P.globals.size) = r) (hv : ∃ H', r = .v v H') (ha : PlainVs args) (hp : PlainV v) (H : AHeap) : FSnd P f args H (.v v H) := by
  obtain ⟨H', rfl⟩ := hv
  have := hF f args (deads P.globals.size)
  rw [hr] at this
  exact this.reloc ha hp H
def outV (r : ORes) : Option AV := ORes.rec (motive := fun _ => Option AV) (fun v _ => some v) (fun _ _ => none) none r
theorem FSnd.row' {P : Program} {F : Fs} (hF : FsOk P F) {f : Nat} {args : List AV} {v : AV} (hr : outV (F f args (deads P.globals.size)) = some v) (ha : PlainVs args) (hp : PlainV v) (H : AHeap) : FSnd P f args H (.v v H) := by
  cases hx : F f args (deads P.globals.size) with
  | v u H' =>
    rw [hx] at hr
    cases hr
    exact FSnd.row hF hx ⟨H', rfl⟩ ha hp H
  | _ => rw [hx] at hr; cases hr
theorem rows_nil {P : Program} {f : Nat} : ∀ r, r ∈ ([] : List (List AV × AV)) → ∀ H, FSnd P f r.1 H (.v r.2 H) := fun _ h => by cases h
theorem rows_cons {P : Program} {f : Nat} {a : List AV} {v : AV} {l : List (List AV × AV)} (h : ∀ H, FSnd P f a H (.v v H)) (t : ∀ r, r ∈ l → ∀ H, FSnd P f r.1 H (.v r.2 H)) : ∀ r, r ∈ (a, v) :: l → ∀ H, FSnd P f r.1 H (.v r.2 H) := fun r hr => by
  rcases List.mem_cons.1 hr with rfl | hr
  · exact h
  · exact t r hr
def heapOf (bs : List ABlk) : AHeap := ⟨BT.ofList bs.reverse, bs.length, bs.length⟩
theorem heapOf_get (bs : List ABlk) (b : Nat) : (heapOf bs).get b = bs[b]? := by
  rw [AHeap.get_eq]
  show (if b < bs.length then (BT.ofList bs.reverse).get (bs.length - 1 - b) else none) = _
  by_cases h : b < bs.length
  · rw [if_pos h, BT.get_ofList, List.getElem?_reverse (by omega)]
    congr 1; omega
  · rw [if_neg h, List.getElem?_eq_none (by omega)]
def allBT (f : AV → Bool) (t : BT AV) : Bool := BT.rec (motive := fun _ => Bool) true (fun _ v _ il ir => bif' false (bif' false ir il) (f v)) t
theorem allBT_spec {f : AV → Bool} : ∀ {t : BT AV}, allBT f t = true → ∀ j v, t.get j = some v → f v = true
  | .lf, _, j, v, h => by simp at h
  | .nd l x r, h, j, v, hv => by
    obtain ⟨h1, h2⟩ := bif_tt (show bif' false (bif' false (allBT f r) (allBT f l)) (f x) = true from h)
    obtain ⟨h3, h4⟩ := bif_tt h1
    rw [BT.get_nd] at hv
    split at hv
    · cases hv; exact h2
    · split at hv
      · exact allBT_spec h4 _ v hv
      · exact allBT_spec h3 _ v hv
def tabsOk (bs : List ABlk) : Bool := bs.all fun x => match x with
  | .c _ t w _ => !w && allBT plainA t
  | .m _ => false
  | .dead => true
theorem FSnd.relocG {P : Program} {f : Nat} {args : List AV} {v : AV} {H' : AHeap} {bs : List ABlk} (h : FSnd P f args (heapOf bs) (.v v H')) (hlen : bs.length = P.globals.size) (hb : tabsOk bs = true) (hlow : P.globals.size ≤ H'.low) (ha : PlainVs args) (hv : PlainV v) (H : AHeap) (hs : sameG bs H 0 = true) : FSnd P f args H (.v v H) := by
  intro e w args' hr hargs
  have htab : ∀ (b : Nat) (x : ABlk), bs[b]? = some x → x = .dead ∨ ∃ n t sp, x = .c n t false sp ∧ allBT plainA t = true := fun b x hx => by
    have := List.all_eq_true.1 hb x (List.mem_of_getElem? hx)
    cases x with
    | c n t w sp =>
      simp only [Bool.and_eq_true, Bool.not_eq_true'] at this
      obtain ⟨rfl, q⟩ := this
      exact .inr ⟨n, t, sp, rfl, q⟩
    | m es => cases this
    | dead => exact .inl rfl
  have hrd : Rel P.globals.size (e.cut P.globals.size) (heapOf bs) w := {
    lt := fun b i hb => by
      have := (Emb.cut_some.1 hb).1
      show b < bs.length
      omega
    bnd := fun b i hb => hr.bnd b i (Emb.cut_some.1 hb).2
    glob := fun g hg => by
      obtain ⟨i, hi, q⟩ := hr.glob g hg
      exact ⟨i, Emb.cut_some.2 ⟨hg, hi⟩, q⟩
    obj := fun b i x hb hg => by
      rw [heapOf_get] at hg
      have hH := sameG_spec hs b x hg
      rw [Nat.zero_add] at hH
      have ho := hr.obj b i x (Emb.cut_some.1 hb).2 hH
      rcases htab b x hg with rfl | ⟨n, t, sp, rfl, hp⟩
      · trivial
      · obtain ⟨a, b, c, C, ty, z, d, f, g, k⟩ := ho
        refine ⟨a, b, c, C, ty, z, d, f, g, fun j hj => ?_⟩
        obtain ⟨u, u', q1, q2, q3⟩ := k j hj
        exact ⟨u, u', q1, q2, plainA_rel q3 (allBT_spec hp j u q1)⟩
    sep := fun b1 i1 b2 i2 h1 h2 hne ho ha => by
      rcases ho with ⟨n, t, sp, q⟩ | ⟨es, q⟩ <;> rw [heapOf_get] at q <;> rcases htab b1 _ q with r | ⟨_, _, _, r, _⟩ <;> cases r }
  have := h (e.cut P.globals.size) w args' hrd (PlainVs.rel hargs ha)
  have conv : ∀ E w', (∃ e' v', E = Ending.returned v' ∧ VRel e' v v' ∧ Evo P.globals.size (e.cut P.globals.size) (heapOf bs) w e' H' w') → ∃ e' v', E = Ending.returned v' ∧ VRel e' v v' ∧ Evo P.globals.size e H w e' H w' := by
    rintro E w' ⟨e', v', hE, q1, q2⟩
    refine ⟨e, v', hE, PlainV.rel q1 hv, Evo.still hr q2.size q2.tape q2.os q2.out fun B hB => q2.frame B hB fun b i hb _ => .inr ?_⟩
    have := (Emb.cut_some.1 hb).1
    omega
  rcases this with ⟨h1, h2⟩ | ⟨v1, w1, h1, h2⟩
  · exact .inl ⟨h1, Calls.mono h2 conv⟩
  · exact .inr ⟨v1, w1, h1, conv _ _ h2⟩
def outG (N : Nat) (r : ORes) : Option AV := ORes.rec (motive := fun _ => Option AV) (fun v H => Bool.rec (motive := fun _ => Option AV) none (some v) (Nat.ble N H.low)) (fun _ _ => none) none r
theorem FSnd.rowG {P : Program} {F : Fs} (hF : FsOk P F) {f : Nat} {args : List AV} {v : AV} {bs : List ABlk} (hlen : bs.length = P.globals.size) (hb : tabsOk bs = true) (hr : outG bs.length (F f args (heapOf bs)) = some v) (ha : PlainVs args) (hp : PlainV v) (H : AHeap) (hs : sameG bs H 0 = true) : FSnd P f args H (.v v H) := by
  cases hx : F f args (heapOf bs) with
  | v u H' =>
    rw [hx] at hr
    have hr' : Bool.rec (motive := fun _ => Option AV) none (some u) (Nat.ble bs.length H'.low) = some v := hr
    cases hl : Nat.ble bs.length H'.low with
    | false => rw [hl] at hr'; cases hr'
    | true =>
      rw [hl] at hr'
      cases hr'
      have h0 := hF f args (heapOf bs)
      rw [hx] at h0
      exact h0.relocG hlen hb (by rw [← hlen]; exact Nat.le_of_ble_eq_true hl) ha hp H hs
  | _ => rw [hx] at hr; cases hr
theorem rowsG_nil {P : Program} {bs : List ABlk} {f : Nat} : ∀ r, r ∈ ([] : List (List AV × AV)) → ∀ H, sameG bs H 0 = true → FSnd P f r.1 H (.v r.2 H) := fun _ h => by cases h
theorem rowsG_cons {P : Program} {bs : List ABlk} {f : Nat} {a : List AV} {v : AV} {l : List (List AV × AV)} (h : ∀ H, sameG bs H 0 = true → FSnd P f a H (.v v H)) (t : ∀ r, r ∈ l → ∀ H, sameG bs H 0 = true → FSnd P f r.1 H (.v r.2 H)) : ∀ r, r ∈ (a, v) :: l → ∀ H, sameG bs H 0 = true → FSnd P f r.1 H (.v r.2 H) := fun r hr => by
  rcases List.mem_cons.1 hr with rfl | hr
  · exact h
  · exact t r hr
end
end Go.Ab
