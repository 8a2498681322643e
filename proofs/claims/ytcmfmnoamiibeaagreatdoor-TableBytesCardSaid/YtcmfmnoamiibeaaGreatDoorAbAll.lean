/- A logic over an abstract memory, and that it is sound (8 of 8). -/
import Derived.Test.YtcmfmnoamiibeaaGreatDoorAb7
/- A law's code, asked at all values of what it takes from a small range: one run, parted where it must be. -/
namespace Go.Ab
open Go
noncomputable section
variable {S : BT Nat}

/-! ### Parting -/
def rgOf (v : AV) : Option (Nat × Nat × Nat) :=
  avX none (fun u => AX.casesOn (motive_1 := fun _ => Option (Nat × Nat × Nat)) u none none none none none none (fun _ => none) (fun _ _ _ => none) (fun _ _ => none) (fun _ => none) (fun _ => none) (fun _ => none) (fun _ _ => none) (fun k lo hi => some (k, lo, hi)) (fun _ _ _ => none)) v
def forkR (f : Nat → Bool) (lo m : Nat) : Bool := Nat.rec (motive := fun _ => Bool) true (fun i ih => bAnd (f (Nat.add lo i)) ih) m
def forkV (L : Nat) (f : AV → Bool) (v : AV) : Bool :=
  Option.rec (motive := fun _ => Bool) (f v) (fun p => Bool.rec (motive := fun _ => Bool) (f v) (forkR (fun n => f (.i p.1 n)) p.2.1 (Nat.add (Nat.sub p.2.2 p.2.1) 1)) (Nat.ble (Nat.sub p.2.2 p.2.1) L)) (rgOf v)
theorem forkR_spec {f : Nat → Bool} {lo : Nat} : ∀ {m}, forkR f lo m = true → ∀ i, i < m → f (lo + i) = true
  | 0, _, i, h => by omega
  | m + 1, h, i, hi => by
    have h' : bAnd (f (Nat.add lo m)) (forkR f lo m) = true := h
    rw [bAnd_iff] at h'
    by_cases him : i = m
    · subst him; exact h'.1
    · exact forkR_spec h'.2 i (by omega)
theorem forkV_spec {L : Nat} {f : AV → Bool} {v : AV} (h : forkV L f v = true) {e : Emb} {v' : Value} (hv : VRel e v v') : ∃ u, f u = true ∧ VRel e u v' := by
  unfold forkV at h
  cases hr : rgOf v with
  | none => rw [hr] at h; exact ⟨v, h, hv⟩
  | some p =>
    rw [hr] at h
    cases hb : Nat.ble (Nat.sub p.2.2 p.2.1) L with
    | false => simp only [hb] at h; exact ⟨v, h, hv⟩
    | true =>
      simp only [hb] at h
      cases v with
      | x u =>
        cases u with
        | rg k lo hi =>
          cases hr
          cases hv with
          | rg _ _ _ n hk hn h1 h2 =>
            have := forkR_spec h (n - lo) (by show n - lo < hi - lo + 1; omega)
            rw [show lo + (n - lo) = n by omega] at this
            exact ⟨_, this, .i k n hk hn⟩
        | _ => cases hr
      | _ => cases hr

/-! ### The code, with what is asked of its end -/
def kSeq (f : Env → AHeap → Bool) (k : Res → Bool) (r : Res) : Bool :=
  Res.rec (motive := fun _ => Bool) f (fun id en H => k (.ext id en H)) (fun en H => k (.ret en H)) (fun v H => k (.pan v H)) (k .fail) r
def allE (F : Fs) (L : Nat) (l : List KE) : Env → AHeap → (Res → Bool) → Bool :=
  List.rec (motive := fun _ => Env → AHeap → (Res → Bool) → Bool) (fun en H k => k (.nrm en H)) (fun x _ ih en H k =>
    Option.rec (motive := fun _ => Bool) (k .fail) (fun t => Bool.rec (motive := fun _ => Bool) (ih (x.put undefA en) H k)
      (ORes.rec (motive := fun _ => Bool) (fun v H' => forkV L (fun u => ih (x.put u en) H' k) v) (fun v H' => k (.pan v H')) (k .fail) (x.op.den F en H)) t) (x.want en)) l
def loopAll (φ : Env → AHeap → (Res → Bool) → Bool) (N : Nat) : Env → AHeap → (Res → Bool) → Bool :=
  Nat.rec (motive := fun _ => Env → AHeap → (Res → Bool) → Bool) (fun _ _ k => k .fail) (fun _ ih en H k => φ en H (kSeq (fun en1 H1 => ih en1 H1 k) k)) N
def KCode.all (F : Fs) (L : Nat) (c : KCode) : Env → AHeap → (Res → Bool) → Bool :=
  KCode.rec (motive := fun _ => Env → AHeap → (Res → Bool) → Bool) (fun en H k => k (.nrm en H)) (fun l en H k => allE F L l ⟨.nil, en.B⟩ H k) (fun l en H k => k (runDG F l (guessD F l ⟨.nil, en.B⟩ H) ⟨.nil, en.B⟩ H))
    (fun _ _ x y en H k => x en H (kSeq (fun en1 H1 => y en1 H1 k) k)) (fun c _ _ x y en H k => avB (k .fail) (fun t => Bool.rec (motive := fun _ => Bool) (y en H k) (x en H k) t) (c.den en))
    (fun id _ x en H k => x en H (fun r => k (rBlock id r))) (fun _ x => loopAll x 1000000) (fun id en H k => k (.ext id en H)) (fun en H k => k (.ret en H)) (fun _ _ k => k .fail) c

def ASnd (P : Program) (S : BT Nat) (n : Nat) (c : Code) (φ : Env → AHeap → (Res → Bool) → Bool) : Prop :=
  ∀ (D : DF), (∀ p, D.free p) → ∀ (en : Env) (H : AHeap) (k : Res → Bool), k .fail = false → φ en H k = true → ∀ e w a, Rel P.globals.size e H w → ARel S n D e en a →
    c.wp P (fun X a' w' => ∃ r, k r = true ∧ Fits P S n D e H w r X a' w') a w

theorem asnd_reg {P : Program} {F : Fs} (hF : FsOk P F) {n L : Nat} {ops : Array Oper} {D : DF} (hfree : ∀ p, D.free p) {e0 : Emb} {H0 : AHeap} {w0 : World} {k : Res → Bool} (hk : k .fail = false) :
    ∀ (l : List KE) (os : List Oper) (i : Nat), (∀ j, os[j]? = ops[i + j]?) → sameL (KE.ok P S n ops) l os = true →
    ∀ (en : Env) (H : AHeap) (e : Emb) (w : World) (a : Act), allE F L l en H k = true → Rel P.globals.size e H w → ARel S n D e en a → Evo P.globals.size e0 H0 w0 e H w →
      wpOps P ops (fun X a' w' => ∃ r, k r = true ∧ Fits P S n D e0 H0 w0 r X a' w') (List.range' i os.length) a w
  | [], [], i, _, _, en, H, e, w, a, hne, hr, ha, hev => ⟨.nrm en H, hne, rfl, e, ha, hev⟩
  | x :: l, o :: os, i, hos, hok, en, H, e, w, a, hne, hr, ha, hev => by
    simp only [sameL, Bool.and_eq_true] at hok
    obtain ⟨hx, hl⟩ := hok
    have ho : ops[i]? = some o := by have := hos 0; simpa using this.symm
    have hos' : ∀ j, os[j]? = ops[i + 1 + j]? := fun j => by
      have := hos (j + 1); rw [show i + 1 + j = i + (j + 1) by omega, ← this]; simp
    have ih := asnd_reg hF (L := L) (D := D) hfree (e0 := e0) (H0 := H0) (w0 := w0) hk l os (i + 1) hos' hl
    rw [List.length_cons, List.range'_succ, wpOps_some ho]
    have heq : allE F L (x :: l) en H k = Option.rec (motive := fun _ => Bool) (k .fail) (fun t => Bool.rec (motive := fun _ => Bool) (allE F L l (x.put undefA en) H k)
      (ORes.rec (motive := fun _ => Bool) (fun v H' => forkV L (fun u => allE F L l (x.put u en) H' k) v) (fun v H' => k (.pan v H')) (k .fail) (x.op.den F en H)) t) (x.want en) := rfl
    rw [heq] at hne
    cases hw : x.want en with
    | none => rw [hw] at hne; have hne : k .fail = true := hne; rw [hk] at hne; cases hne
    | some t =>
      rw [hw] at hne
      rw [KE.want_spec hx hr ha hw]
      cases t with
      | false =>
        rw [if_neg (by simp)]
        exact ih _ H e w _ hne hr (ARel.putE hx hfree ha (fun _ _ h => h) (vrel_undef e)) hev
      | true =>
        rw [if_pos rfl]
        refine .inl ?_
        have hsnd := KOp.ok_snd hF (KE.ok_op hx) en H
        cases hd : x.op.den F en H with
        | fail => rw [hd] at hne; have hne : k .fail = true := hne; rw [hk] at hne; cases hne
        | v v H' =>
          rw [hd] at hne hsnd
          refine Oper.wp_mono2 ?_ ?_ (hsnd n D e w a hr ha)
          · rintro a' w' ⟨e', v', rfl, hv, hevo⟩
            obtain ⟨u, hu, hvu⟩ := forkV_spec hne hv
            exact ih _ H' e' w' _ hu hevo.rel (ARel.putE hx hfree ha hevo.ext hvu) (hev.trans hevo)
          · intro _ _ _ h; exact h.elim
        | pan v H' =>
          rw [hd] at hne hsnd
          refine Oper.wp_mono2 ?_ ?_ (hsnd n D e w a hr ha)
          · intro _ _ h; exact h.elim
          · rintro X a' w' ⟨e', v', rfl, rfl, hv, hevo⟩
            exact ⟨.pan v H', hne, e', v', rfl, ⟨en, ha.mono hevo.ext⟩, hv, hev.trans hevo⟩
  | [], _ :: _, _, _, h, _, _, _, _, _, _, _, _, _ => by simp [sameL] at h
  | _ :: _, [], _, _, h, _, _, _, _, _, _, _, _, _ => by simp [sameL] at h

theorem asnd_seq {P : Program} {n : Nat} {x y : Code} {φ ψ : Env → AHeap → (Res → Bool) → Bool} (hx : ASnd P S n x φ) (hy : ASnd P S n y ψ) : ASnd P S n (.seq x y) (fun en H k => φ en H (kSeq (fun en1 H1 => ψ en1 H1 k) k)) := by
  intro D hfree en H k hk hne e w a hr ha
  refine wp_seq (wp_mono (hx D hfree en H (kSeq (fun en1 H1 => ψ en1 H1 k) k) hk hne e w a hr ha) ?_)
  rintro X a1 w1 ⟨r, hkr, hf⟩
  cases r with
  | nrm en1 H1 =>
    obtain ⟨rfl, e1, ha1, hv1⟩ := hf
    exact wp_mono (hy D hfree en1 H1 k hk hkr e1 w1 a1 hv1.rel ha1) fun X a' w' ⟨r, q, hf⟩ => ⟨r, q, hf.trans hv1⟩
  | ext id en1 H1 =>
    obtain ⟨rfl, h⟩ := hf
    exact ⟨.ext id en1 H1, hkr, rfl, h⟩
  | ret en1 H1 =>
    obtain ⟨rfl, h⟩ := hf
    exact ⟨.ret en1 H1, hkr, rfl, h⟩
  | pan v H1 =>
    obtain ⟨e', v', rfl, h⟩ := hf
    exact ⟨.pan v H1, hkr, e', v', rfl, h⟩
  | fail => exact hf.elim

theorem asnd_cond {P : Program} {n : Nat} {c : Operand} {c' : KO} {x y : Code} {φ ψ : Env → AHeap → (Res → Bool) → Bool} (hc : c'.ok P S c = true) (hx : ASnd P S n x φ) (hy : ASnd P S n y ψ) :
    ASnd P S n (.cond c x y) (fun en H k => avB (k .fail) (fun t => Bool.rec (motive := fun _ => Bool) (ψ en H k) (φ en H k) t) (c'.den en)) := by
  intro D hfree en H k hk hne e w a hr ha
  have h1 := KO.ok_spec hc n D e en a H w hr ha
  cases hv : c'.den en with
  | b t =>
    rw [hv] at h1
    generalize hcv : a.eval c = cv at h1
    cases h1
    simp only [hv] at hne
    cases t with
    | true => exact wp_cond_true hcv (hx D hfree en H k hk hne e w a hr ha)
    | false => exact wp_cond_false hcv (hy D hfree en H k hk hne e w a hr ha)
  | _ => simp only [hv] at hne; have hne : k .fail = true := hne; rw [hk] at hne; cases hne

theorem asnd_block {P : Program} {n id : Nat} {x : Code} {φ : Env → AHeap → (Res → Bool) → Bool} (hx : ASnd P S n x φ) : ASnd P S n (.block id x) (fun en H k => φ en H (fun r => k (rBlock id r))) := by
  intro D hfree en H k hk hne e w a hr ha
  refine wp_block (wp_mono (hx D hfree en H (fun r => k (rBlock id r)) hk hne e w a hr ha) ?_)
  rintro X a1 w1 ⟨r, hkr, hf⟩
  replace hkr : k (rBlock id r) = true := hkr
  cases r with
  | nrm en1 H1 =>
    obtain ⟨rfl, h⟩ := hf
    exact ⟨.nrm en1 H1, hkr, rfl, h⟩
  | ext id' en1 H1 =>
    obtain ⟨rfl, h⟩ := hf
    show if id' = id then (∃ r, k r = true ∧ Fits P S n D e H w r .normal a1 w1) else (∃ r, k r = true ∧ Fits P S n D e H w r (.exit id') a1 w1)
    have hb : rBlock id (.ext id' en1 H1) = Bool.rec (motive := fun _ => Res) (.ext id' en1 H1) (.nrm en1 H1) (Nat.beq id' id) := rfl
    rw [hb, brec] at hkr
    by_cases hid : id' = id
    · subst hid
      simp only [Nat.beq_refl, if_true] at hkr
      rw [if_pos rfl]
      exact ⟨.nrm en1 H1, hkr, rfl, h⟩
    · rw [if_neg (by rw [beq_tt]; exact hid)] at hkr
      rw [if_neg hid]
      exact ⟨.ext id' en1 H1, hkr, rfl, h⟩
  | ret en1 H1 =>
    obtain ⟨rfl, h⟩ := hf
    exact ⟨.ret en1 H1, hkr, rfl, h⟩
  | pan v H1 =>
    obtain ⟨e', v', rfl, h⟩ := hf
    exact ⟨.pan v H1, hkr, e', v', rfl, h⟩
  | fail => exact hf.elim

theorem asnd_rounds {P : Program} {n : Nat} {x : Code} {φ : Env → AHeap → (Res → Bool) → Bool} (hx : ASnd P S n x φ) : ∀ (N : Nat) (D : DF), (∀ p, D.free p) → ∀ (en : Env) (H : AHeap) (k : Res → Bool), k .fail = false → loopAll φ N en H k = true → ∀ e w a, Rel P.globals.size e H w → ARel S n D e en a →
    LoopWp P x (fun X a' w' => ∃ r, k r = true ∧ Fits P S n D e H w r X a' w') a w
  | 0, D, _, en, H, k, hk, hne, e, w, a, hr, ha => by
    have hne : k .fail = true := hne
    rw [hk] at hne; cases hne
  | N + 1, D, hfree, en, H, k, hk, hne, e, w, a, hr, ha => by
    have hne : φ en H (kSeq (fun en1 H1 => loopAll φ N en1 H1 k) k) = true := hne
    refine loopWp_step (wp_mono (hx D hfree en H (kSeq (fun en1 H1 => loopAll φ N en1 H1 k) k) hk hne e w a hr ha) ?_)
    rintro X a1 w1 ⟨r, hkr, hf⟩
    cases r with
    | nrm en1 H1 =>
      obtain ⟨rfl, e1, ha1, hv1⟩ := hf
      exact (asnd_rounds hx N D hfree en1 H1 k hk hkr e1 w1 a1 hv1.rel ha1).mono fun X a' w' ⟨r, q, hf⟩ => ⟨r, q, hf.trans hv1⟩
    | ext id en1 H1 =>
      obtain ⟨rfl, h⟩ := hf
      exact ⟨.ext id en1 H1, hkr, rfl, h⟩
    | ret en1 H1 =>
      obtain ⟨rfl, h⟩ := hf
      exact ⟨.ret en1 H1, hkr, rfl, h⟩
    | pan v H1 =>
      obtain ⟨e', v', rfl, h⟩ := hf
      exact ⟨.pan v H1, hkr, e', v', rfl, h⟩
    | fail => exact hf.elim

theorem asnd_loop {P : Program} {n : Nat} {x : Code} {φ : Env → AHeap → (Res → Bool) → Bool} (hx : ASnd P S n x φ) (N : Nat) : ASnd P S n (.loop x) (loopAll φ N) :=
  fun D hfree en H k hk hne e w a hr ha => loopWp_wp (asnd_rounds hx N D hfree en H k hk hne e w a hr ha)

theorem all_loop (F : Fs) (L : Nat) (a : KCode) : (KCode.loop a).all F L = loopAll (a.all F L) 1000000 := rfl
theorem code_all {P : Program} {F : Fs} (hF : FsOk P F) {n L : Nat} {dc : DCheck} (hD : DOk P S n F dc) : ∀ (c' : KCode) (c : Code), c'.ok P S n dc c = true → ASnd P S n c (c'.all F L)
  | .skip, c, h => by
    cases c <;> first | (cases h; done) | skip
    exact fun D _ en H k _ hne e w a hr ha => wp_skip ⟨.nrm en H, hne, rfl, e, ha, Evo.refl hr⟩
  | .reg l, c, h => by
    cases c with
    | region id ops d =>
      cases d with
      | false =>
        intro D hfree en H k hk hne e w a hr ha
        refine wp_region ?_
        have := asnd_reg hF (L := L) (D := D) hfree hk l ops.toList 0 (fun j => by simp) h ⟨.nil, en.B⟩ H e w a hne hr ha.clear (Evo.refl hr)
        rw [List.range_eq_range']
        simpa using this
      | true => cases h
    | _ => cases h
  | .dreg l, c, h => by
    cases c with
    | region id ops d =>
      cases d with
      | false => cases h
      | true =>
        simp only [KCode.ok, Bool.and_eq_true] at h
        intro D hfree en H k hk hne e w a hr ha
        have hne : k (runDG F l (guessD F l ⟨.nil, en.B⟩ H) ⟨.nil, en.B⟩ H) = true := hne
        have hnf : runDG F l (guessD F l ⟨.nil, en.B⟩ H) ⟨.nil, en.B⟩ H ≠ .fail := fun hf => by rw [hf, hk] at hne; cases hne
        exact wp_mono (hD id ops l h.1 h.2 D (fun q _ => hfree q) en H hnf e w a hr ha) fun X a' w' hf => ⟨_, hne, hf⟩
    | _ => cases h
  | .seq a b, c, h => by
    cases c <;> first | (cases h; done) | skip
    simp only [KCode.ok, Bool.and_eq_true] at h
    exact asnd_seq (code_all hF hD a _ h.1) (code_all hF hD b _ h.2)
  | .cond c' a b, c, h => by
    cases c <;> first | (cases h; done) | skip
    simp only [KCode.ok, Bool.and_eq_true] at h
    exact asnd_cond h.1 (code_all hF hD a _ h.2.1) (code_all hF hD b _ h.2.2)
  | .block id a, c, h => by
    cases c <;> first | (cases h; done) | skip
    simp only [KCode.ok, Bool.and_eq_true] at h
    have := Nat.eq_of_beq_eq_true h.1
    subst this
    exact asnd_block (code_all hF hD a _ h.2)
  | .loop a, c, h => by
    cases c <;> first | (cases h; done) | skip
    rw [all_loop]
    have h0 := asnd_loop (φ := a.all F L) (code_all hF hD a _ h) 1000000
    exact h0
  | .unk, c, h => fun D _ en H k hk hne => by
    have hne : k .fail = true := hne
    rw [hk] at hne; cases hne
  | .exit id, c, h => by
    cases c <;> first | (cases h; done) | skip
    have := Nat.eq_of_beq_eq_true h
    subst this
    exact fun D _ en H k _ hne e w a hr ha => wp_exit ⟨.ext id en H, hne, rfl, e, ha, Evo.refl hr⟩
  | .ret, c, h => by
    cases c <;> first | (cases h; done) | skip
    exact fun D _ en H k _ hne e w a hr ha => wp_ret ⟨.ret en H, hne, rfl, e, ha, Evo.refl hr⟩

/-! ### A function -/
theorem fn_back {P : Program} {fn : Func} {K : KFun} (h6 : sameL (KR.ok P K.S) K.rs fn.results.toList = true) {en : Env} {H H' : AHeap} {l : List AV} (hl : evalR K.rs en H' = some l) {e : Emb} {w : World} (hr : Rel P.globals.size e H w) {e' : Emb} {a' : Act} {w' : World} (ha' : ARel K.S K.n (DF.any []) e' en a') (hev : Evo P.globals.size e (H.withLow H.nxt) w e' H' w') :
    ∃ v', (results fn a'.tmps).run P w' = .ok v' w' ∧ ∃ e'' H'', backV l H H' = .v (packA l) H'' ∧ VRel e'' (packA l) v' ∧ Evo P.globals.size e H w e'' H'' w' := by
  obtain ⟨v', q1, q2⟩ := results_run hev.rel ha' h6 hl
  refine ⟨v', q1, ?_⟩
  unfold backV
  cases hp : plainL l with
  | false => exact ⟨e', _, rfl, q2, hev.back⟩
  | true =>
    cases hb' : Nat.ble H.nxt H'.low with
    | false => exact ⟨e', _, rfl, q2, hev.back⟩
    | true =>
      refine ⟨e, _, rfl, ?_, hev.forget hr (by rw [ble_tt] at hb'; exact hb')⟩
      cases l with
      | nil =>
        have : v' = .tuple #[] := by cases q2; rename_i h; cases h; rfl
        subst this
        exact .tup [] [] .nil
      | cons x m =>
        cases m with
        | nil =>
          rw [plainL_cons, Bool.and_eq_true] at hp
          exact plainA_rel q2 hp.1
        | cons y m =>
          have q3 : VRel e' (.x (.tup (x :: y :: m))) v' := q2
          cases q3
          rename_i l' hl'
          exact .tup _ _ (plainL_rel hl' hp)

/-- A law, asked at all that its arguments may be. -/
def KFun.lawOk (F : Fs) (L : Nat) (K : KFun) (args : List AV) (H : AHeap) : Bool :=
  Option.rec (motive := fun _ => Bool) false (fun B => K.body.all F L ⟨.nil, B⟩ (H.withLow H.nxt) (fun r => okRes H.nxt (finish K.rs H r))) (putArgs K.ps args K.T0)

theorem law_all {P : Program} {F : Fs} (hF : FsOk P F) {dc : DCheck} {f : Nat} {K : KFun} (hD : DOk P K.S K.n F dc) (h : K.ok P dc f = true) {L : Nat} {args : List AV} {args' : List Value} {e : Emb} {H : AHeap} {W : World} (hres : K.lawOk F L args H = true) (hr : Rel P.globals.size e H W) (hargs : VRels e args args') :
    Calls P f args'.toArray W (fun E w' => E = .returned (.bool true) ∧ Kept W w') := by
  unfold KFun.ok at h
  cases hf : P.funcs[f]? with
  | none => rw [hf] at h; cases h
  | some fn =>
  rw [hf] at h
  simp only [Bool.and_eq_true, ble_tt, beq_tt] at h
  obtain ⟨⟨⟨⟨⟨⟨h1, h2⟩, h3⟩, h4⟩, h5⟩, h6⟩, h7⟩ := h
  cases hb : fn.body with
  | none => rw [hb] at h7; cases h7
  | some c =>
  rw [hb] at h7
  unfold KFun.lawOk at hres
  cases hB : putArgs K.ps args K.T0 with
  | none => rw [hB] at hres; cases hres
  | some B =>
  rw [hB] at hres
  refine calls_of_wp hf hb ?_
  have htm : ∀ j v, args'[j]? = some v → (args'.toArray ++ Array.replicate (fn.ntmps - args'.toArray.size) undef).getD j undef = v := by
    intro j v hj
    have hlt := (List.getElem?_eq_some_iff.1 hj).1
    rw [Array.getD_eq_getD_getElem?, Array.getElem?_append_left (by simpa using hlt)]
    simp [hj]
  obtain ⟨hl, hvars⟩ := putArgs_rel (tmps := args'.toArray ++ Array.replicate (fn.ntmps - args'.toArray.size) undef) K.ps args args' 0 K.T0 B h4 hB hargs (fun j v hj => by simpa using htm j v hj) (fun p t _ => by rw [badT_get h5]; exact .bad _)
  have hlen := hargs.length
  have harel : ARel K.S K.n (DF.any []) e ⟨.nil, B⟩ { tmps := args'.toArray ++ Array.replicate (fn.ntmps - args'.toArray.size) undef, defers := [] } := by
    refine ⟨?_, fun _ _ => .bad _, hvars, rfl, trivial⟩
    simp; omega
  have hk : (fun r => okRes H.nxt (finish K.rs H r)) .fail = false := rfl
  refine wp_mono (code_all hF hD K.body c h7 (DF.any []) (DF.any_free _) ⟨.nil, B⟩ (H.withLow H.nxt) _ hk hres e W _ (hr.withLow _) harel) ?_
  rintro X a' w' ⟨r, hkr, hfit⟩
  obtain ⟨H2, hfin, hlow⟩ := okRes_spec hkr
  have done : ∀ en H', evalR K.rs en H' ≠ none → optL .fail (fun l => backV l H H') (evalR K.rs en H') = .v (.b true) H2 → ∀ e', ARel K.S K.n (DF.any []) e' en a' → Evo P.globals.size e (H.withLow H.nxt) W e' H' w' →
      a'.defers = [] ∧ ∃ v', (results fn a'.tmps).run P w' = .ok v' w' ∧ (Ending.returned v' = .returned (.bool true) ∧ Kept W w') := by
    intro en H' hne hq e' ha' hev
    cases hl : evalR K.rs en H' with
    | none => exact absurd hl hne
    | some l =>
      rw [hl] at hq
      obtain ⟨v', q1, e'', H'', q2, q3, q4⟩ := fn_back h6 hl hr ha' hev
      have hq2 : backV l H H' = .v (.b true) H2 := hq
      rw [q2] at hq2
      injection hq2 with hp hH
      subst hH
      rw [hp] at q3
      cases q3
      refine ⟨ha'.defers, _, q1, rfl, q4.os, q4.out, fun B hB => q4.frame B hB fun b i hb _ => .inr ?_⟩
      have := hr.lt b i hb
      omega
  have some_of : ∀ en H', optL .fail (fun l => backV l H H') (evalR K.rs en H') = .v (.b true) H2 → evalR K.rs en H' ≠ none := fun en H' hq hn => by rw [hn] at hq; cases hq
  cases r with
  | nrm en H' =>
    obtain ⟨rfl, e', ha', hev⟩ := hfit
    exact done en H' (some_of en H' hfin) hfin e' ha' hev
  | ret en H' =>
    obtain ⟨rfl, e', ha', hev⟩ := hfit
    exact done en H' (some_of en H' hfin) hfin e' ha' hev
  | ext id en H' => cases hfin
  | pan v H' => cases hfin
  | fail => cases hfin
end
end Go.Ab
