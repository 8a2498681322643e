/- Functions over the abstract memory. -/
import Derived.Test.YtfhaailmhaamfaaGreatDoorAbC2
namespace Go.Ab
open Go

inductive KR where
  | one (x : KO)
  | c1 (x : KO)
  | cN (n : Nat) (x : KO)

structure KFun where
  n : Nat
  S : BT Nat
  T0 : BT AV
  ps : List VP
  body : KCode
  rs : List KR

inductive KFn where
  | fn (K : KFun)
  | prim (φ : List AV → AHeap → ORes)
  /-- what it answers at some arguments, known ahead -/
  | memo (rows : List (List AV × AV)) (K : KFun)
  /-- its meaning as a plain function -/
  | cod (K : KFun) (φ : Fs → Env → AHeap → Res)

noncomputable section

/-! ### Results -/
def KR.den (r : KR) (en : Env) (H : AHeap) : Option AV :=
  KR.rec (motive := fun _ => Option AV) (fun x => some (x.den en))
    (fun x => avP none (fun b o => blkC none (fun n t _ _ => bif' none (t.get o) (Nat.ble (Nat.add o 1) n)) (H.get b)) (x.den en))
    (fun n x => avP none (fun b o => optL none (fun l => some (.x (.agg l))) (readN H b o n)) (x.den en)) r
def evalR (rs : List KR) (en : Env) (H : AHeap) : Option (List AV) :=
  List.rec (motive := fun _ => Option (List AV)) (some []) (fun r _ ih => optE none (fun v => optL none (fun l => some (v :: l)) ih) (r.den en H)) rs
def KR.ok (P : Program) (S : BT Nat) (r : KR) (v : ResultVar) : Bool :=
  match r, v with
  | .one x, .tmp t => x.ok P S (.tmp t)
  | .c1 x, .cell a t => x.ok P S (.tmp a) && decide (aggOf P t = some none)
  | .cN n x, .cell a t => x.ok P S (.tmp a) && decide (aggOf P t = some (some n))
  | _, _ => false

variable {S : BT Nat}

/-- One result, as the model takes it. -/
def resRun (tmps : Array Value) (v : ResultVar) : Sem Value :=
  match v with
  | .tmp t => pure (tmps.getD t undef)
  | .cell a t => do loadVar t (← asAddr (tmps.getD a undef))

theorem KR.ok_run {P : Program} {r : KR} {v : ResultVar} (h : r.ok P S v = true) {n : Nat} {D : List Deferred} {e : Emb} {en : Env} {a : Act} {H : AHeap} {w : World} (hr : Rel P.globals.size e H w) (ha : ARel S n D e en a)
    {u : AV} (hu : r.den en H = some u) : ∃ u', (resRun a.tmps v).run P w = .ok u' w ∧ VRel e u u' := by
  cases r with
  | one x =>
    cases v with
    | tmp t =>
      cases hu
      exact ⟨_, rfl, KO.ok_spec h n D e en a H w hr ha⟩
    | cell => cases h
  | c1 x =>
    cases v with
    | tmp t => cases h
    | cell at' t =>
      simp only [KR.ok, Bool.and_eq_true, decide_eq_true_eq] at h
      obtain ⟨hx, ht⟩ := h
      have h1 := KO.ok_spec hx n D e en a H w hr ha
      have hu' : avP none (fun b o => blkC none (fun n t _ _ => bif' none (t.get o) (Nat.ble (Nat.add o 1) n)) (H.get b)) (x.den en) = some u := hu
      cases hd : x.den en with
      | p b k =>
        rw [hd] at hu' h1
        simp only [avP] at hu'
        cases hb : H.get b with
        | none => rw [hb] at hu'; cases hu'
        | some y =>
          rw [hb] at hu'
          cases y with
          | c N T wr sp =>
            simp only [blkC, bif'] at hu'
            cases hk : Nat.ble (Nat.add k 1) N with
            | false => rw [hk] at hu'; cases hu'
            | true =>
              rw [hk] at hu'
              have hk' : k < N := by rw [ble_tt] at hk; exact hk
              generalize hxv : a.eval (.tmp at') = xv at h1
              cases h1
              rename_i i hi
              obtain ⟨e1, e2, e3, C, ty, z, c1, c2, c3, c4⟩ := hr.obj b i _ hi hb
              obtain ⟨u0, v', g1, g2, g3⟩ := c4 k hk'
              have hu2 : T.get k = some u := hu'
              rw [hu2] at g1; cases g1
              refine ⟨v', ?_, g3⟩
              have hcell := cell_of c1 (i.off + k)
              rw [g2] at hcell
              have hxv' : a.tmps.getD at' undef = .pointer (some ⟨i.blk, i.off + k, none⟩) := hxv
              simp [resRun, hxv', asAddr, loadVar, run_isAgg_none ht, hcell]
          | _ => cases hu'
      | _ => rw [hd] at hu'; cases hu'
  | cN m x =>
    cases v with
    | tmp t => cases h
    | cell at' t =>
      simp only [KR.ok, Bool.and_eq_true, decide_eq_true_eq] at h
      obtain ⟨hx, ht⟩ := h
      have h1 := KO.ok_spec hx n D e en a H w hr ha
      have hu' : avP none (fun b o => optL none (fun l => some (.x (.agg l))) (readN H b o m)) (x.den en) = some u := hu
      cases hd : x.den en with
      | p b k =>
        rw [hd] at hu' h1
        simp only [avP] at hu'
        cases hl : readN H b k m with
        | none => rw [hl] at hu'; cases hu'
        | some l =>
          rw [hl] at hu'
          simp only [optL] at hu'
          cases hu'
          generalize hxv : a.eval (.tmp at') = xv at h1
          cases h1
          rename_i i hi
          obtain ⟨l', g1, g2, g3, g4⟩ := readN_spec hl hr hi
          obtain ⟨t1, t2⟩ := run_isAgg_some ht w
          refine ⟨.agg l'.toArray, ?_, .agg l l' g2⟩
          have hrun := run_loadCells_list (P := P) w _ l' g3
          rw [g1] at hrun
          have hxv' : a.tmps.getD at' undef = .pointer (some ⟨i.blk, i.off + k, none⟩) := hxv
          simp [resRun, hxv', asAddr, loadVar, t1, t2, hrun]
      | _ => rw [hd] at hu'; cases hu'

theorem evalR_run {P : Program} {n : Nat} {D : List Deferred} {e : Emb} {en : Env} {a : Act} {H : AHeap} {w : World} (hr : Rel P.globals.size e H w) (ha : ARel S n D e en a) :
    ∀ (rs : List KR) (vs : List ResultVar) (l : List AV), sameL (KR.ok P S) rs vs = true → evalR rs en H = some l → ∃ l', (vs.mapM (resRun a.tmps)).run P w = .ok l' w ∧ VRels e l l'
  | [], [], l, _, h => by cases h; exact ⟨[], by simp, .nil⟩
  | r :: rs, v :: vs, l, hok, h => by
    simp only [sameL, Bool.and_eq_true] at hok
    have h' : optE none (fun v => optL none (fun l => some (v :: l)) (evalR rs en H)) (r.den en H) = some l := h
    cases h1 : r.den en H with
    | none => rw [h1] at h'; cases h'
    | some u =>
      rw [h1] at h'
      cases h2 : evalR rs en H with
      | none => rw [h2] at h'; cases h'
      | some m =>
        rw [h2] at h'
        cases h'
        obtain ⟨u', q1, q2⟩ := KR.ok_run hok.1 hr ha h1
        obtain ⟨m', q3, q4⟩ := evalR_run hr ha rs vs m hok.2 h2
        exact ⟨u' :: m', by simp only [List.mapM_cons, Sem.run_bind, q1, Result.andThen_ok, q3, Sem.run_pure], .cons q2 q4⟩
  | [], _ :: _, _, h, _ => by simp [sameL] at h
  | _ :: _, [], _, h, _ => by simp [sameL] at h

def packA (l : List AV) : AV := List.rec (motive := fun _ => AV) (.x (.tup [])) (fun v m _ => List.rec (motive := fun _ => AV) v (fun _ _ _ => .x (.tup (v :: m))) m) l
theorem results_run {P : Program} {fn : Func} {n : Nat} {D : List Deferred} {e : Emb} {en : Env} {a : Act} {H : AHeap} {w : World} (hr : Rel P.globals.size e H w) (ha : ARel S n D e en a) {rs : List KR} {l : List AV}
    (hok : sameL (KR.ok P S) rs fn.results.toList = true) (h : evalR rs en H = some l) : ∃ v', (results fn a.tmps).run P w = .ok v' w ∧ VRel e (packA l) v' := by
  obtain ⟨l', h1, h2⟩ := evalR_run hr ha rs _ l hok h
  have hres : results fn a.tmps = (do let vs ← fn.results.mapM (resRun a.tmps); pure (if h : vs.size = 1 then vs[0] else .tuple vs)) := rfl
  have hm : (fn.results.mapM (resRun a.tmps)).run P w = .ok l'.toArray w := by
    rw [Array.mapM_eq_mapM_toList]
    rw [map_eq_pure_bind]
    simp only [Sem.run_bind, h1, Result.andThen_ok, Sem.run_pure]
  rw [hres]
  simp only [Sem.run_bind, hm, Result.andThen_ok, Sem.run_pure]
  cases h2 with
  | nil => exact ⟨_, rfl, .tup [] [] .nil⟩
  | cons hv ht =>
    cases ht with
    | nil => exact ⟨_, rfl, hv⟩
    | cons hv2 ht2 => exact ⟨_, rfl, .tup _ _ (.cons hv (.cons hv2 ht2))⟩

/-! ### Values without addresses -/
def plainA (v : AV) : Bool :=
  AVp.rec (motive := fun _ => Bool) (fun _ _ => true) (fun _ => true) (fun _ _ => true) (fun _ _ => false) (fun _ _ _ _ => false)
    (fun x => AX.casesOn (motive_1 := fun _ => Bool) x false true true true true true (fun _ => false) (fun _ _ _ => false) (fun _ _ => false) (fun _ => false) (fun _ => false) (fun _ => true) (fun _ _ => true) (fun _ _ _ => true)) v
def plainL (l : List AV) : Bool := List.rec (motive := fun _ => Bool) true (fun v _ ih => Bool.rec (motive := fun _ => Bool) false ih (plainA v)) l
theorem plainL_cons (v : AV) (l : List AV) : plainL (v :: l) = (plainA v && plainL l) := by
  have h : plainL (v :: l) = Bool.rec (motive := fun _ => Bool) false (plainL l) (plainA v) := rfl
  rw [h]; cases plainA v <;> rfl
theorem plainA_rel {e e' : Emb} {v : AV} {v' : Value} (h : VRel e v v') (hp : plainA v = true) : VRel e' v v' := by
  cases h with
  | i k n hk hn => exact .i k n hk hn
  | b v => exact .b v
  | s l c h => exact .s l c h
  | nilp => exact .nilp
  | nils => exact .nils
  | nilm => exact .nilm
  | nilf => exact .nilf
  | nili => exact .nili
  | fl b => exact .fl b
  | rg k lo hi n hk hn h1 h2 => exact .rg k lo hi n hk hn h1 h2
  | sy m r n hn hi => exact .sy m r n hn hi
  | _ => cases hp
theorem plainL_rel {e e' : Emb} : ∀ {l : List AV} {l' : List Value}, VRels e l l' → plainL l = true → VRels e' l l'
  | _, _, .nil, _ => .nil
  | _, _, .cons hv ht, hp => by
    rw [plainL_cons, Bool.and_eq_true] at hp
    exact .cons (plainA_rel hv hp.1) (plainL_rel ht hp.2)

def minN (a b : Nat) : Nat := Bool.rec (motive := fun _ => Nat) b a (Nat.ble a b)
theorem minN_eq (a b : Nat) : minN a b = min a b := by
  unfold minN; rw [brec]; simp only [ble_tt]; split <;> omega

/-- Back to the caller: where nothing older was changed, and what is handed back holds no address, the memory is as it was. -/
def backV (l : List AV) (H H' : AHeap) : ORes :=
  .v (packA l) (Bool.rec (motive := fun _ => AHeap) (H'.withLow (minN H.low H'.low)) (Bool.rec (motive := fun _ => AHeap) (H'.withLow (minN H.low H'.low)) H (Nat.ble H.nxt H'.low)) (plainL l))
def finish (rs : List KR) (H : AHeap) (r : Res) : ORes :=
  Res.rec (motive := fun _ => ORes) (fun en H' => optL .fail (fun l => backV l H H') (evalR rs en H')) (fun _ _ _ => .fail) (fun en H' => optL .fail (fun l => backV l H H') (evalR rs en H')) (fun v H' => .pan v (H'.withLow (minN H.low H'.low))) .fail r
def putArgs (ps : List VP) : List AV → BT AV → Option (BT AV) :=
  List.rec (motive := fun _ => List AV → BT AV → Option (BT AV)) (fun args B => List.rec (motive := fun _ => Option (BT AV)) (some B) (fun _ _ _ => none) args)
    (fun p _ ih args B => List.rec (motive := fun _ => Option (BT AV)) none (fun a as _ => ih as (p.put a B)) args) ps
def KFun.run (F : Fs) (K : KFun) (args : List AV) (H : AHeap) : ORes :=
  Option.rec (motive := fun _ => ORes) .fail (fun B => finish K.rs H (K.body.den F ⟨.nil, B⟩ (H.withLow H.nxt))) (putArgs K.ps args K.T0)

theorem putArgs_cons (p : VP) (ps : List VP) (a : AV) (as : List AV) (B : BT AV) : putArgs (p :: ps) (a :: as) B = putArgs ps as (p.put a B) := rfl
theorem putArgs_nil (B : BT AV) : putArgs [] [] B = some B := rfl

/-- The places of the arguments. -/
def psOk (S : BT Nat) : List VP → Nat → Bool
  | [], _ => true
  | p :: ps, i => (match p.at S with | some k => Nat.beq k i | none => false) && Nat.ble (countB i S) 1 && psOk S ps (i + 1)

theorem putArgs_rel {e : Emb} {tmps : Array Value} : ∀ (ps : List VP) (args : List AV) (args' : List Value) (i : Nat) (B B' : BT AV), psOk S ps i = true → putArgs ps args B = some B' → VRels e args args' →
    (∀ j v, args'[j]? = some v → tmps.getD (i + j) undef = v) → (∀ p t, VP.at p S = some t → VRel e (p.get B) (tmps.getD t undef)) → args.length = ps.length ∧ ∀ p t, VP.at p S = some t → VRel e (p.get B') (tmps.getD t undef)
  | [], [], args', i, B, B', _, h, _, _, hB => by cases h; exact ⟨rfl, hB⟩
  | [], _ :: _, args', i, B, B', _, h, _, _, _ => by cases h
  | _ :: _, [], args', i, B, B', _, h, _, _, _ => by cases h
  | p :: ps, a :: as, args', i, B, B', hok, h, hr, hg, hB => by
    cases hr with
    | cons hv ht =>
      rename_i v' l'
      simp only [psOk, Bool.and_eq_true, ble_tt] at hok
      obtain ⟨⟨h1, h2⟩, h3⟩ := hok
      rw [putArgs_cons] at h
      have hi : tmps.getD i undef = v' := by have := hg 0 v' (by simp); simpa using this
      have hp : p.at S = some i := by
        cases hp : p.at S with
        | none => rw [hp] at h1; cases h1
        | some k => rw [hp] at h1; rw [Nat.eq_of_beq_eq_true h1]
      have hB2 : ∀ q t, VP.at q S = some t → VRel e (q.get (p.put a B)) (tmps.getD t undef) := by
        intro q t hq
        by_cases ht' : t = i
        · subst ht'
          have := VP.uniq h2 hq hp
          subst this
          rcases VP.get_put_self a q B with hq' | hq'
          · rw [hq', hi]; exact hv
          · rw [hq']; exact .bad _
        · rcases VP.get_put a p q B with hq' | ⟨rfl, hq'⟩
          · rw [hq']; exact hB q t hq
          · rw [hp] at hq; cases hq; exact absurd rfl ht'
      obtain ⟨g1, g2⟩ := putArgs_rel ps as l' (i + 1) _ B' h3 h ht (fun j v hj => by have := hg (j + 1) v (by simpa using hj); rwa [show i + 1 + j = i + (j + 1) by omega]) hB2
      exact ⟨by simp [g1], g2⟩

def badT : BT AV → Bool
  | .lf => true
  | .nd l v r => (match v with | .x .bad => true | _ => false) && badT l && badT r
theorem badT_get : ∀ {T : BT AV}, badT T = true → ∀ p : VP, p.get T = .x .bad
  | .lf, _, p => by simp
  | .nd l v r, h, p => by
    simp only [badT, Bool.and_eq_true] at h
    obtain ⟨⟨h1, h2⟩, h3⟩ := h
    cases p with
    | top =>
      show v = _
      split at h1
      · rfl
      · cases h1
    | lft p => exact badT_get h2 p
    | rgt p => exact badT_get h3 p

/-- The whole check of a function. -/
def KFun.ok (P : Program) (dc : DCheck) (f : FuncId) (K : KFun) : Bool :=
  match P.funcs[f]? with
  | some fn => (fn.name != "runtime.NumGoroutine") && Nat.beq fn.ntmps K.n && Nat.ble K.ps.length K.n && psOk K.S K.ps 0 && badT K.T0 && sameL (KR.ok P K.S) K.rs fn.results.toList &&
    (match fn.body with | some c => K.body.ok P K.S K.n dc c | none => false)
  | none => false

theorem run_callFunc {P : Program} {f : FuncId} {fn : Func} (hf : P.funcs[f]? = some fn) (hn : (fn.name != "runtime.NumGoroutine") = true) {c : Code} (hb : fn.body = some c) (args : Array Value) (w : World) : (callFunc f args).run P w = .ok (.enter f args) w := by
  have h1 : ¬ fn.name = "runtime.NumGoroutine" := by simpa using hn
  simp [callFunc, program, Sem.run, hf, h1, hb]

theorem Evo.back {G : Nat} {e e' : Emb} {H H' : AHeap} {w w' : World} (h : Evo G e (H.withLow H.nxt) w e' H' w') : Evo G e H w e' (H'.withLow (minN H.low H'.low)) w' := by
  rw [minN_eq]; exact h.withLow

theorem KFun.run_snd {P : Program} {F : Fs} (hF : FsOk P F) {dc : DCheck} {f : Nat} {K : KFun} (hD : DOk P K.S K.n F dc) (h : K.ok P dc f = true) (args : List AV) (H : AHeap) : FSnd P f args H (K.run F args H) := by
  unfold KFun.ok at h
  cases hf : P.funcs[f]? with
  | none => rw [hf] at h; cases h
  | some fn =>
  rw [hf] at h
  simp only [Bool.and_eq_true, ble_tt, beq_tt] at h
  obtain ⟨⟨⟨⟨⟨⟨h1, h2⟩, h3⟩, h4⟩, h5⟩, h6⟩, h7⟩ := h
  cases hb : fn.body with
  | none => rw [hb] at h7; cases h7
  | some c =>
  rw [hb] at h7
  cases hB : putArgs K.ps args K.T0 with
  | none => have : K.run F args H = .fail := by unfold KFun.run; rw [hB]
            rw [this]; trivial
  | some B =>
  have hrun : K.run F args H = finish K.rs H (K.body.den F ⟨.nil, B⟩ (H.withLow H.nxt)) := by unfold KFun.run; rw [hB]
  rw [hrun]
  have hcode := code_snd hF hD K.body c h7
  -- the call, to where the body comes
  have body : ∀ r, K.body.den F ⟨.nil, B⟩ (H.withLow H.nxt) = r → r ≠ .fail → ∀ e w args', Rel P.globals.size e H w → VRels e args args' → ∀ R : Ending → World → Prop,
      (∀ X a' w', Fits P K.S K.n [] e (H.withLow H.nxt) w r X a' w' → bodyPost P fn R X a' w') → Runs P f args'.toArray w R := by
    intro r hr0 hne e w args' hr ha R hR
    refine .inl ⟨run_callFunc hf h1 hb _ w, calls_of_wp hf hb ?_⟩
    have hlen := ha.length
    have htm : ∀ j v, args'[j]? = some v → (args'.toArray ++ Array.replicate (fn.ntmps - args'.toArray.size) undef).getD j undef = v := by
      intro j v hj
      have hlt := (List.getElem?_eq_some_iff.1 hj).1
      rw [Array.getD_eq_getD_getElem?, Array.getElem?_append_left (by simpa using hlt)]
      simp [hj]
    obtain ⟨hl, hvars⟩ := putArgs_rel (tmps := args'.toArray ++ Array.replicate (fn.ntmps - args'.toArray.size) undef) K.ps args args' 0 K.T0 B h4 hB ha (fun j v hj => by simpa using htm j v hj) (fun p t _ => by rw [badT_get h5]; exact .bad _)
    have harel : ARel K.S K.n [] e ⟨.nil, B⟩ { tmps := args'.toArray ++ Array.replicate (fn.ntmps - args'.toArray.size) undef, defers := [] } := by
      refine ⟨?_, fun _ _ => .bad _, hvars, rfl⟩
      simp; omega
    have := hcode [] ⟨.nil, B⟩ (H.withLow H.nxt) (by rw [hr0]; exact hne) e w _ (hr.withLow _) harel
    rw [hr0] at this
    exact wp_mono this hR
  -- back
  have back : ∀ en H' (l : List AV), evalR K.rs en H' = some l → ∀ e w, Rel P.globals.size e H w → ∀ e' a' w', ARel K.S K.n [] e' en a' → Evo P.globals.size e (H.withLow H.nxt) w e' H' w' →
      ∃ v', (results fn a'.tmps).run P w' = .ok v' w' ∧ ∃ e'' v'', v' = v'' ∧ ∃ H'', backV l H H' = .v (packA l) H'' ∧ VRel e'' (packA l) v'' ∧ Evo P.globals.size e H w e'' H'' w' := by
    intro en H' l hl e w hr e' a' w' ha' hev
    obtain ⟨v', q1, q2⟩ := results_run hev.rel ha' h6 hl
    refine ⟨v', q1, ?_⟩
    unfold backV
    cases hp : plainL l with
    | false => exact ⟨e', v', rfl, _, rfl, q2, hev.back⟩
    | true =>
      cases hb' : Nat.ble H.nxt H'.low with
      | false => exact ⟨e', v', rfl, _, rfl, q2, hev.back⟩
      | true =>
        refine ⟨e, v', rfl, _, rfl, ?_, hev.forget hr (by rw [ble_tt] at hb'; exact hb')⟩
        cases l with
        | nil =>
          have : v' = .tuple #[] := by cases q2; rename_i h; cases h; rfl
          subst this
          exact .tup [] [] .nil
        | cons x m =>
          cases m with
          | nil =>
            rw [plainL_cons, Bool.and_eq_true] at hp
            exact plainA_rel q2 hp.1
          | cons y m =>
            have q3 : VRel e' (.x (.tup (x :: y :: m))) v' := q2
            cases q3
            rename_i l' hl'
            exact .tup _ _ (plainL_rel hl' hp)
  cases hr0 : K.body.den F ⟨.nil, B⟩ (H.withLow H.nxt) with
  | fail => trivial
  | ext id en H' => trivial
  | pan v H' =>
    intro e w args' hr ha
    refine body _ hr0 (by simp) e w args' hr ha _ ?_
    rintro X a' w' ⟨e', v', rfl, hd, hv, hev⟩
    exact ⟨hd, e', v', rfl, hv, hev.back⟩
  | nrm en H' =>
    show FSnd P f args H (optL .fail (fun l => backV l H H') (evalR K.rs en H'))
    cases hl : evalR K.rs en H' with
    | none => trivial
    | some l =>
      simp only [optL]
      have key : ∀ H'', backV l H H' = .v (packA l) H'' → FSnd P f args H (.v (packA l) H'') := by
        intro H'' hb2 e w args' hr ha
        refine body _ hr0 (by simp) e w args' hr ha _ ?_
        rintro X a' w' ⟨rfl, e', ha', hev⟩
        obtain ⟨v', q1, e'', v'', rfl, H3, q2, q3, q4⟩ := back en H' l hl e w hr e' a' w' ha' hev
        rw [hb2] at q2; cases q2
        exact ⟨ha'.defers, v', q1, e'', v', rfl, q3, q4⟩
      exact key _ rfl
  | ret en H' =>
    show FSnd P f args H (optL .fail (fun l => backV l H H') (evalR K.rs en H'))
    cases hl : evalR K.rs en H' with
    | none => trivial
    | some l =>
      simp only [optL]
      have key : ∀ H'', backV l H H' = .v (packA l) H'' → FSnd P f args H (.v (packA l) H'') := by
        intro H'' hb2 e w args' hr ha
        refine body _ hr0 (by simp) e w args' hr ha _ ?_
        rintro X a' w' ⟨rfl, e', ha', hev⟩
        obtain ⟨v', q1, e'', v'', rfl, H3, q2, q3, q4⟩ := back en H' l hl e w hr e' a' w' ha' hev
        rw [hb2] at q2; cases q2
        exact ⟨ha'.defers, v', q1, e'', v', rfl, q3, q4⟩
      exact key _ rfl

/-! ### Arguments that were asked ahead -/
def eqA (v u : AV) : Bool :=
  AVp.rec (motive := fun _ => Bool) (fun k n => avI false (fun k2 n2 => bif' false (Nat.beq n n2) (Nat.beq k k2)) u) (fun b => avB false (fun c => bEq b c) u) (fun l c => avS false (fun l2 c2 => bif' false (Nat.beq c c2) (Nat.beq l l2)) u)
    (fun _ _ => false) (fun _ _ _ _ => false) (fun _ => false) v
theorem bif_tt {a b : Bool} (h : bif' false a b = true) : a = true ∧ b = true := by
  cases b with
  | true => exact ⟨h, rfl⟩
  | false => cases h
theorem eqA_eq {v u : AV} (h : eqA v u = true) : v = u := by
  cases v with
  | i k n =>
    cases u with
    | i k2 n2 =>
      obtain ⟨h1, h2⟩ := bif_tt (show bif' false (Nat.beq n n2) (Nat.beq k k2) = true from h)
      rw [Nat.eq_of_beq_eq_true h1, Nat.eq_of_beq_eq_true h2]
    | _ => cases h
  | b t =>
    cases u with
    | b t2 =>
      have h1 : bEq t t2 = true := h
      rw [bEq_eq] at h1
      rw [eq_of_beq h1]
    | _ => cases h
  | s l c =>
    cases u with
    | s l2 c2 =>
      obtain ⟨h1, h2⟩ := bif_tt (show bif' false (Nat.beq c c2) (Nat.beq l l2) = true from h)
      rw [Nat.eq_of_beq_eq_true h1, Nat.eq_of_beq_eq_true h2]
    | _ => cases h
  | _ => cases h
def eqAs (l : List AV) : List AV → Bool :=
  List.rec (motive := fun _ => List AV → Bool) (fun m => List.rec (motive := fun _ => Bool) true (fun _ _ _ => false) m) (fun v _ ih m => List.rec (motive := fun _ => Bool) false (fun u m _ => bif' false (ih m) (eqA v u)) m) l
theorem eqAs_eq : ∀ {l m : List AV}, eqAs l m = true → l = m
  | [], [], _ => rfl
  | [], _ :: _, h => by cases h
  | _ :: _, [], h => by cases h
  | v :: l, u :: m, h => by
    obtain ⟨h1, h2⟩ := bif_tt (show bif' false (eqAs l m) (eqA v u) = true from h)
    rw [eqA_eq h2, eqAs_eq h1]
def lookM (rows : List (List AV × AV)) (args : List AV) : Option AV :=
  List.rec (motive := fun _ => Option AV) none (fun r _ ih => Bool.rec (motive := fun _ => Option AV) ih (some r.2) (eqAs r.1 args)) rows
theorem lookM_spec : ∀ {rows : List (List AV × AV)} {args : List AV} {v : AV}, lookM rows args = some v → (args, v) ∈ rows
  | [], _, _, h => by cases h
  | r :: rows, args, v, h => by
    have he : lookM (r :: rows) args = Bool.rec (motive := fun _ => Option AV) (lookM rows args) (some r.2) (eqAs r.1 args) := rfl
    rw [he] at h
    cases hc : eqAs r.1 args with
    | true =>
      rw [hc] at h
      have h1 := eqAs_eq hc
      cases h
      rw [← h1]
      exact List.mem_cons_self
    | false => rw [hc] at h; exact List.mem_cons_of_mem _ (lookM_spec h)

def E0 : Env := ⟨.nil, .lf⟩
def gN (_ _ _ _ : Nat) : Option AV := none
abbrev CE := Fs → Env → AHeap → Res
abbrev C0 := Fs → Loc → BT AV → AHeap → Res
abbrev C1 := Fs → Loc → BT AV → AHeap → AV → Res
abbrev C2 := Fs → Loc → BT AV → AHeap → AV → AV → Res
abbrev C3 := Fs → Loc → BT AV → AHeap → AV → AV → AV → Res
abbrev C4 := Fs → Loc → BT AV → AHeap → AV → AV → AV → AV → Res
abbrev C5 := Fs → Loc → BT AV → AHeap → AV → AV → AV → AV → AV → Res
abbrev C6 := Fs → Loc → BT AV → AHeap → AV → AV → AV → AV → AV → AV → Res
abbrev C7 := Fs → Loc → BT AV → AHeap → AV → AV → AV → AV → AV → AV → AV → Res
abbrev C8 := Fs → Loc → BT AV → AHeap → AV → AV → AV → AV → AV → AV → AV → AV → Res
def cSeq (a b : CE) : CE := fun F en H => rSeq (a F en H) (b F)
def cCond (c : Env → AV) (a b : CE) : CE := fun F en H => avB .fail (fun t => Bool.rec (motive := fun _ => Res) (b F en H) (a F en H) t) (c en)
def cBlock (id : Nat) (a : CE) : CE := fun F en H => rBlock id (a F en H)
def cLoop (a : CE) : CE := fun F => loopN (a F) 1000000
def cReg (a : C0) : CE := fun F en H => a F .nil en.B H
def cDreg (l : List KD) : CE := fun F en H => runDG F l (guessD F l ⟨.nil, en.B⟩ H) ⟨.nil, en.B⟩ H
def cRun (l : List KE) : CE := fun F en H => runE F l ⟨.nil, en.B⟩ H
def cSkip : CE := fun _ => Res.nrm
def cRet : CE := fun _ => Res.ret
def cExit (id : Nat) : CE := fun _ => Res.ext id
def cEnd : C0 := fun _ L B H => Res.nrm ⟨L, B⟩ H
def oB (p : VP) (B : BT AV) (_ : Env) : AV := p.get B
def gK (H : AHeap) (r : ORes) (b : Bool) (c : AV) (K : AV → AHeap → Res) : Res := gRun (K undefA H) (oRes r K) b c
def jAdd := opBinG 3 (iAdd 3 18446744073709551616) (gAdd 3 18446744073709551616)
def jSub := opBinG 3 (iSub 3 18446744073709551616) (gSub 3 18446744073709551616)
def jEq := opBinG 3 iEq (gEq false)
def jNe := opBinG 3 iNe (gEq true)
def jLt := opBinG 3 (iLt 18446744073709551616 9223372036854775808) (gLt 18446744073709551616 9223372036854775808)
def jLe := opBinG 3 (iLe 18446744073709551616 9223372036854775808) (gLe 18446744073709551616 9223372036854775808)
def jGt := opBinG 3 (fun n m => iLt 18446744073709551616 9223372036854775808 m n) (fun a b c d => gLt 18446744073709551616 9223372036854775808 c d a b)
def jGe := opBinG 3 (fun n m => iLe 18446744073709551616 9223372036854775808 m n) (fun a b c d => gLe 18446744073709551616 9223372036854775808 c d a b)
/-! ### The whole program -/
def KFn.run (F : Fs) (k : KFn) : List AV → AHeap → ORes :=
  KFn.rec (motive := fun _ => List AV → AHeap → ORes) (fun K => K.run F) (fun φ => φ) (fun rows K args H => Option.rec (motive := fun _ => ORes) (K.run F args H) (fun v => .v v H) (lookM rows args))
    (fun K φ args H => Option.rec (motive := fun _ => ORes) .fail (fun B => finish K.rs H (φ F ⟨.nil, B⟩ (H.withLow H.nxt))) (putArgs K.ps args K.T0)) k
def fsN (T : BT KFn) (n : Nat) : Fs :=
  Nat.rec (motive := fun _ => Fs) (fun _ _ _ => .fail) (fun _ ih f args H => Option.rec (motive := fun _ => ORes) .fail (fun k => k.run ih args H) (T.get f)) n
/-- An entry of the table is the program's. -/
inductive FnOk (P : Program) (dc : DCheck) (f : Nat) : KFn → Prop
  | fn {K : KFun} (h : K.ok P dc f = true) : FnOk P dc f (.fn K)
  | prim {φ : List AV → AHeap → ORes} (h : ∀ args H, FSnd P f args H (φ args H)) : FnOk P dc f (.prim φ)
  | cod {K : KFun} {φ : Fs → Env → AHeap → Res} (h : K.ok P dc f = true) (he : (fun F => K.body.den F) = φ) : FnOk P dc f (.cod K φ)
  | memo {rows : List (List AV × AV)} {K : KFun} (h : K.ok P dc f = true) (hr : ∀ r, r ∈ rows → ∀ H, FSnd P f r.1 H (.v r.2 H)) : FnOk P dc f (.memo rows K)
def TabOk (P : Program) (dc : DCheck) (T : BT KFn) : Prop := ∀ f k, T.get f = some k → FnOk P dc f k
theorem fsN_ok {P : Program} {dc : DCheck} {T : BT KFn} (hD : ∀ F, FsOk P F → ∀ S n, DOk P S n F dc) (hT : TabOk P dc T) : ∀ n, FsOk P (fsN T n)
  | 0, f, args, H => trivial
  | n + 1, f, args, H => by
    show FSnd P f args H (Option.rec (motive := fun _ => ORes) .fail (fun k => k.run (fsN T n) args H) (T.get f))
    cases hk : T.get f with
    | none => trivial
    | some k =>
      cases hT f k hk with
      | fn hK => exact KFun.run_snd (fsN_ok hD hT n) (hD _ (fsN_ok hD hT n) _ _) hK args H
      | prim hφ => exact hφ args H
      | cod hK he =>
        subst he
        exact KFun.run_snd (fsN_ok hD hT n) (hD _ (fsN_ok hD hT n) _ _) hK args H
      | @memo rows K hK hr =>
        show FSnd P f args H (Option.rec (motive := fun _ => ORes) (K.run (fsN T n) args H) (fun v => .v v H) (lookM rows args))
        cases hl : lookM rows args with
        | none => exact KFun.run_snd (fsN_ok hD hT n) (hD _ (fsN_ok hD hT n) _ _) hK args H
        | some v => exact hr (args, v) (lookM_spec hl) H
/-- A list of entries, one after the other. -/
inductive AllOk (P : Program) (dc : DCheck) : Nat → List KFn → Prop
  | nil (i : Nat) : AllOk P dc i []
  | cons {i : Nat} {k : KFn} {l : List KFn} (h : FnOk P dc i k) (t : AllOk P dc (i + 1) l) : AllOk P dc i (k :: l)
theorem AllOk.get {P : Program} {dc : DCheck} : ∀ {l : List KFn} {i j : Nat} {k : KFn}, AllOk P dc i l → l[j]? = some k → FnOk P dc (i + j) k
  | _, i, 0, k, .cons h t, hj => by simp at hj; subst hj; exact h
  | _, i, j + 1, k, .cons h t, hj => by
    have := AllOk.get t (j := j) (by simpa using hj)
    rwa [show i + (j + 1) = i + 1 + j by omega]
theorem AllOk.tab {P : Program} {dc : DCheck} {l : List KFn} {T : BT KFn} (h : AllOk P dc 0 l) (hT : T = BT.ofList l) : TabOk P dc T := fun f k hk => by
  rw [hT, BT.get_ofList] at hk
  have := AllOk.get h hk
  rwa [Nat.zero_add] at this
end
end Go.Ab
