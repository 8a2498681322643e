/- Code over the abstract memory: regions in their order, branches, loops; and that it is the model's. -/
import Derived.Test.YtfhaailmhaamfaaGreatDoorAbK4
namespace Go.Ab
open Go

inductive Res where
  | nrm (en : Env) (H : AHeap)
  | ext (id : Nat) (en : Env) (H : AHeap)
  | ret (en : Env) (H : AHeap)
  | pan (v : AV) (H : AHeap)
  | fail

inductive KE where
  | l (d : Nat) (k : KOp)
  | p (d : VP) (k : KOp)
  | n (k : KOp)
  | gl (c : KO) (b : Bool) (d : Nat) (k : KOp)
  | gp (c : KO) (b : Bool) (d : VP) (k : KOp)
  | gn (c : KO) (b : Bool) (k : KOp)

noncomputable section
variable {S : BT Nat}

def oRes (r : ORes) (f : AV → AHeap → Res) : Res := ORes.rec (motive := fun _ => Res) f .pan .fail r
/-- An operation that is wanted where a value is so. -/
def gRun (skip run : Res) (b : Bool) (v : AV) : Res :=
  AVp.rec (motive := fun _ => Res) (fun _ _ => .fail) (fun t => Bool.rec (motive := fun _ => Res) skip run (bEq t b)) (fun _ _ => .fail) (fun _ _ => .fail) (fun _ _ _ _ => .fail)
    (fun x => axTup .fail (fun l => List.rec (motive := fun _ => Res) skip (fun _ _ _ => .fail) l) x) v
theorem gRun_spec {skip run : Res} {b : Bool} {v : AV} (h : gRun skip run b v ≠ .fail) : (∃ t, v = .b t ∧ gRun skip run b v = Bool.rec (motive := fun _ => Res) skip run (bEq t b)) ∨ (v = .x (.tup []) ∧ gRun skip run b v = skip) := by
  cases v with
  | b t => exact .inl ⟨t, rfl, rfl⟩
  | x u =>
    cases u with
    | tup l =>
      cases l with
      | nil => exact .inr ⟨rfl, rfl⟩
      | cons => exact absurd rfl h
    | _ => exact absurd rfl h
  | _ => exact absurd rfl h
def KE.den (F : Fs) (x : KE) (ih : Env → AHeap → Res) : Env → AHeap → Res :=
  KE.rec (motive := fun _ => Env → AHeap → Res)
    (fun d k en H => oRes (k.den F en H) (fun v H' => ih ⟨.cons d v en.loc, en.B⟩ H'))
    (fun d k en H => oRes (k.den F en H) (fun v H' => ih ⟨en.loc, d.put v en.B⟩ H'))
    (fun k en H => oRes (k.den F en H) (fun _ H' => ih en H'))
    (fun c b d k en H => gRun (ih ⟨.cons d undefA en.loc, en.B⟩ H) (oRes (k.den F en H) (fun v H' => ih ⟨.cons d v en.loc, en.B⟩ H')) b (c.den en))
    (fun c b d k en H => gRun (ih ⟨en.loc, d.put undefA en.B⟩ H) (oRes (k.den F en H) (fun v H' => ih ⟨en.loc, d.put v en.B⟩ H')) b (c.den en))
    (fun c b k en H => gRun (ih en H) (oRes (k.den F en H) (fun _ H' => ih en H')) b (c.den en)) x
def runE (F : Fs) (l : List KE) : Env → AHeap → Res := List.rec (motive := fun _ => Env → AHeap → Res) .nrm (fun x _ ih => x.den F ih) l

def KE.ok (P : Program) (S : BT Nat) (n : Nat) (ops : Array Oper) (x : KE) (o : Oper) : Bool :=
  let loc (d : Nat) : Bool := match o.dst with | some d' => Nat.beq d d' && Nat.ble (d + 1) n && Nat.beq (countB d S) 0 | none => false
  let var (p : VP) : Bool := match o.dst with | some d' => (match p.at S with | some d => Nat.beq d d' | none => false) && Nat.ble (d' + 1) n && Nat.ble (countB d' S) 1 | none => false
  let grd (c : KO) (b : Bool) : Bool := match o.guard with | some (j, b') => (b == b') && (match (ops[j]?).bind (·.dst) with | some t => Nat.ble (t + 1) n && c.ok P S (.tmp t) | none => false) | none => false
  match x with
  | .l d k => loc d && o.guard.isNone && k.ok P S o
  | .p d k => var d && o.guard.isNone && k.ok P S o
  | .n k => o.dst.isNone && o.guard.isNone && k.ok P S o
  | .gl c b d k => loc d && grd c b && k.ok P S o
  | .gp c b d k => var d && grd c b && k.ok P S o
  | .gn c b k => o.dst.isNone && grd c b && k.ok P S o

/-- What a piece of code comes to, here and there. -/
def Fits (P : Program) (S : BT Nat) (n : Nat) (D : List Deferred) (e : Emb) (H : AHeap) (w : World) : Res → Exit → Act → World → Prop
  | .nrm en' H', X, a', w' => X = .normal ∧ ∃ e', ARel S n D e' en' a' ∧ Evo P.globals.size e H w e' H' w'
  | .ext id en' H', X, a', w' => X = .exit id ∧ ∃ e', ARel S n D e' en' a' ∧ Evo P.globals.size e H w e' H' w'
  | .ret en' H', X, a', w' => X = .ret ∧ ∃ e', ARel S n D e' en' a' ∧ Evo P.globals.size e H w e' H' w'
  | .pan v H', X, a', w' => ∃ e' v', X = .panic [⟨v', false, false⟩] ∧ a'.defers = D ∧ VRel e' v v' ∧ Evo P.globals.size e H w e' H' w'
  | .fail, _, _, _ => False

theorem Fits.trans {P : Program} {n : Nat} {D : List Deferred} {e e1 : Emb} {H H1 : AHeap} {w w1 : World} (h : Evo P.globals.size e H w e1 H1 w1) : ∀ {r : Res} {X : Exit} {a' : Act} {w' : World}, Fits P S n D e1 H1 w1 r X a' w' → Fits P S n D e H w r X a' w'
  | .nrm _ _, _, _, _, ⟨hX, e', ha, hv⟩ => ⟨hX, e', ha, h.trans hv⟩
  | .ext _ _ _, _, _, _, ⟨hX, e', ha, hv⟩ => ⟨hX, e', ha, h.trans hv⟩
  | .ret _ _, _, _, _, ⟨hX, e', ha, hv⟩ => ⟨hX, e', ha, h.trans hv⟩
  | .pan _ _, _, _, _, ⟨e', v', hX, ha, hr, hv⟩ => ⟨e', v', hX, ha, hr, h.trans hv⟩
  | .fail, _, _, _, hf => hf.elim

def CSnd (P : Program) (S : BT Nat) (n : Nat) (c : Code) (φ : Env → AHeap → Res) : Prop :=
  ∀ (D : List Deferred) (en : Env) (H : AHeap), φ en H ≠ .fail → ∀ e w a, Rel P.globals.size e H w → ARel S n D e en a → c.wp P (Fits P S n D e H w (φ en H)) a w

/-- One operation of a region, then the rest. -/
theorem op_wp {P : Program} {n : Nat} {D : List Deferred} {o : Oper} {en : Env} {H : AHeap} {r : ORes} {f : AV → AHeap → Res} (hs : OSnd P S o en H r) (hne : oRes r f ≠ .fail) {e : Emb} {w : World} {a : Act} (hr : Rel P.globals.size e H w) (ha : ARel S n D e en a)
    {e0 : Emb} {H0 : AHeap} {w0 : World} (hev : Evo P.globals.size e0 H0 w0 e H w) {K : Act → World → Prop}
    (hK : ∀ v H', r = .v v H' → ∀ e' v' w', VRel e' v v' → Evo P.globals.size e H w e' H' w' → K (a.put o.dst v') w') : o.wp P a w K (Fits P S n D e0 H0 w0 (oRes r f)) := by
  cases r with
  | fail => exact absurd rfl hne
  | v v H' =>
    have h1 := hs n D e w a hr ha
    unfold Oper.wp at h1 ⊢
    have hnot : ∀ Q' : Exit → Act → World → Prop, ∀ R, o.upon P a (fun a' w' => ∃ e' v', a' = a.put o.dst v' ∧ VRel e' v v' ∧ Evo P.globals.size e H w e' H' w') (fun _ _ _ => False) R → o.upon P a K Q' R := by
      intro Q' R hR
      cases R with
      | ok nx w' =>
        cases nx <;> simp only [Oper.upon] at hR ⊢ <;> first
          | (obtain ⟨e', v', h1, h2, h3⟩ := hR
             rw [h1]
             exact hK v H' rfl e' v' w' h2 h3)
          | (refine Calls.mono hR fun E w'' hE => ?_
             cases E with
             | returned u =>
               obtain ⟨e', v', h1, h2, h3⟩ := hE
               have h4 : (a.put o.dst u) = (a.put o.dst v') := h1
               show K (a.put o.dst u) w''
               rw [h4]
               exact hK v H' rfl e' v' w'' h2 h3
             | panicked c => exact hE.elim
             | outgrown => obtain ⟨_, _, h⟩ := hE; exact h.elim)
          | (refine Rows.mono hR fun u w'' hE => ?_
             obtain ⟨e', v', h1, h2, h3⟩ := hE
             show K (a.put o.dst u) w''
             have h4 : (a.put o.dst u) = (a.put o.dst v') := h1
             rw [h4]
             exact hK v H' rfl e' v' w'' h2 h3)
      | halt x w' => cases x <;> simp only [Oper.upon] at hR
    exact hnot _ _ h1
  | pan v H' =>
    have h1 := hs n D e w a hr ha
    unfold Oper.wp at h1 ⊢
    have hfit : ∀ X w' e' v', X = Exit.panic [⟨v', false, false⟩] → VRel e' v v' → Evo P.globals.size e H w e' H' w' → Fits P S n D e0 H0 w0 (oRes (.pan v H') f) X a w' :=
      fun X w' e' v' q1 q3 q4 => ⟨e', v', q1, ha.defers, q3, hev.trans q4⟩
    revert h1
    generalize (execOp a.eval o).run P w = R
    intro h1
    cases R with
    | ok nx w' =>
      cases nx <;> simp only [Oper.upon] at h1 ⊢
      case enter g args =>
        refine Calls.mono h1 fun E w'' hE => ?_
        cases E with
        | returned u => exact hE.elim
        | panicked c =>
          obtain ⟨e', v', q1, _, q3, q4⟩ := hE
          exact hfit _ _ e' v' q1 q3 q4
        | outgrown => obtain ⟨_, _, _, _, h, _⟩ := hE; cases h
      case row r args => exact Rows.mono h1 fun _ _ hE => hE.elim
    | halt x w' =>
      cases x <;> simp only [Oper.upon] at h1 ⊢
      obtain ⟨e', v', q1, _, q3, q4⟩ := h1
      exact hfit _ _ e' v' q1 q3 q4

theorem yielded_of {ops : Array Oper} {a : Act} {n j t : Nat} {b : Bool} (hsz : a.tmps.size = n) (hj : (ops[j]?).bind (·.dst) = some t) (ht : t < n) (hv : a.eval (.tmp t) = .bool b) : yielded ops a.tmps j = some b := by
  unfold yielded
  rw [hj]
  have : a.tmps[t]? = some (.bool b) := by
    simp only [Act.eval, Array.getD_eq_getD_getElem?] at hv
    rw [Array.getElem?_eq_getElem (by omega)] at hv ⊢
    simpa using hv
  simp [this]

theorem wanted_none {o : Oper} (h : o.guard.isNone = true) (y : Nat → Option Bool) : Region.wanted o y = true := by
  unfold Region.wanted
  cases hg : o.guard with
  | none => rfl
  | some g => rw [hg] at h; cases h

theorem bEq_eq (p q : Bool) : bEq p q = (p == q) := by cases p <;> cases q <;> rfl

theorem wpOps_some {P : Program} {ops : Array Oper} {Q : Exit → Act → World → Prop} {i : Nat} {rest : List Nat} {a : Act} {w : World} {o : Oper} (ho : ops[i]? = some o) :
    wpOps P ops Q (i :: rest) a w = (if Region.wanted o (yielded ops a.tmps) then o.wp P a w (wpOps P ops Q rest) Q ∨ (o.asks P a w ∧ LetsOut Q) else wpOps P ops Q rest (a.put o.dst undef) w) := by
  simp only [wpOps, ho]

theorem reg_wp {P : Program} {F : Fs} (hF : FsOk P F) {n : Nat} {D : List Deferred} {ops : Array Oper} {e0 : Emb} {H0 : AHeap} {w0 : World} :
    ∀ (l : List KE) (os : List Oper) (i : Nat), (∀ j, os[j]? = ops[i + j]?) → sameL (KE.ok P S n ops) l os = true →
    ∀ (en : Env) (H : AHeap) (e : Emb) (w : World) (a : Act), runE F l en H ≠ .fail → Rel P.globals.size e H w → ARel S n D e en a → Evo P.globals.size e0 H0 w0 e H w →
      wpOps P ops (Fits P S n D e0 H0 w0 (runE F l en H)) (List.range' i os.length) a w
  | [], [], i, _, _, en, H, e, w, a, _, hr, ha, hev => ⟨rfl, e, ha, hev⟩
  | x :: l, o :: os, i, hos, hok, en, H, e, w, a, hne, hr, ha, hev => by
    simp only [sameL, Bool.and_eq_true] at hok
    obtain ⟨hx, hl⟩ := hok
    have ho : ops[i]? = some o := by have := hos 0; simpa using this.symm
    have hos' : ∀ j, os[j]? = ops[i + 1 + j]? := fun j => by
      have := hos (j + 1); rw [show i + 1 + j = i + (j + 1) by omega, ← this]; simp
    have ih := reg_wp hF (D := D) (e0 := e0) (H0 := H0) (w0 := w0) l os (i + 1) hos' hl
    rw [List.length_cons, List.range'_succ, wpOps_some ho]
    -- the operation is carried out
    have run : ∀ (k : KOp) (next : Env → AV → Env), k.ok P S o = true → runE F (x :: l) en H = oRes (k.den F en H) (fun v H' => runE F l (next en v) H') →
        (∀ e' v v', (∀ b i, e b = some i → e' b = some i) → VRel e' v v' → ARel S n D e' (next en v) (a.put o.dst v')) →
        o.wp P a w (wpOps P ops (Fits P S n D e0 H0 w0 (runE F (x :: l) en H)) (List.range' (i + 1) os.length)) (Fits P S n D e0 H0 w0 (runE F (x :: l) en H)) := by
      intro k next hk heq hput
      rw [heq] at hne ⊢
      refine op_wp (KOp.ok_snd hF hk en H) hne hr ha hev fun v H' hv e' v' w' hrel hevo => ?_
      rw [hv] at hne ⊢
      exact ih (next en v) H' e' w' _ hne hevo.rel (hput e' v v' hevo.ext hrel) (hev.trans hevo)
    have pass : ∀ (next : Env), runE F (x :: l) en H = runE F l next H → ARel S n D e next (a.put o.dst undef) →
        wpOps P ops (Fits P S n D e0 H0 w0 (runE F (x :: l) en H)) (List.range' (i + 1) os.length) (a.put o.dst undef) w := by
      intro next heq hput
      rw [heq] at hne ⊢
      exact ih next H e w _ hne hr hput hev
    -- where it goes
    have locput : ∀ d, (match o.dst with | some d' => Nat.beq d d' && Nat.ble (d + 1) n && Nat.beq (countB d S) 0 | none => false) = true →
        ∀ e' v v', (∀ b i, e b = some i → e' b = some i) → VRel e' v v' → ARel S n D e' ⟨.cons d v en.loc, en.B⟩ (a.put o.dst v') := by
      intro d hd e' v v' hext hv
      cases hdst : o.dst with
      | none => rw [hdst] at hd; cases hd
      | some d' =>
        rw [hdst] at hd
        simp only [Bool.and_eq_true, beq_tt, ble_tt] at hd
        obtain ⟨⟨rfl, h2⟩, h3⟩ := hd
        exact (ha.mono hext).put (by omega) h3 hv
    have varput : ∀ p : VP, (match o.dst with | some d' => (match p.at S with | some d => Nat.beq d d' | none => false) && Nat.ble (d' + 1) n && Nat.ble (countB d' S) 1 | none => false) = true →
        ∀ e' v v', (∀ b i, e b = some i → e' b = some i) → VRel e' v v' → ARel S n D e' ⟨en.loc, p.put v en.B⟩ (a.put o.dst v') := by
      intro p hd e' v v' hext hv
      cases hdst : o.dst with
      | none => rw [hdst] at hd; cases hd
      | some d' =>
        rw [hdst] at hd
        simp only [Bool.and_eq_true, ble_tt] at hd
        obtain ⟨⟨h1, h2⟩, h3⟩ := hd
        cases hp : p.at S with
        | none => rw [hp] at h1; cases h1
        | some d =>
          rw [hp] at h1
          have := Nat.eq_of_beq_eq_true h1
          subst this
          exact (ha.mono hext).putV (by omega) hp h3 hv
    have noput : o.dst.isNone = true → ∀ e' v', (∀ b i, e b = some i → e' b = some i) → ARel S n D e' en (a.put o.dst v') := by
      intro hd e' v' hext
      cases hdst : o.dst with
      | none => exact ha.mono hext
      | some d' => rw [hdst] at hd; cases hd
    have hid : ∀ b i, e b = some i → e b = some i := fun _ _ h => h
    have guard : ∀ (c : KO) (b t : Bool), (match o.guard with | some (j, b') => (b == b') && (match (ops[j]?).bind (·.dst) with | some t => Nat.ble (t + 1) n && c.ok P S (.tmp t) | none => false) | none => false) = true →
        c.den en = .b t → Region.wanted o (yielded ops a.tmps) = bEq t b := by
      intro c b t hg hc
      cases hgd : o.guard with
      | none => rw [hgd] at hg; cases hg
      | some g =>
        obtain ⟨j, b'⟩ := g
        rw [hgd] at hg
        simp only [Bool.and_eq_true, beq_iff_eq] at hg
        obtain ⟨rfl, hg⟩ := hg
        cases hj : (ops[j]?).bind (·.dst) with
        | none => rw [hj] at hg; cases hg
        | some u =>
          rw [hj] at hg
          simp only [Bool.and_eq_true, ble_tt] at hg
          have h1 := KO.ok_spec hg.2 n D e en a H w hr ha
          rw [hc] at h1
          generalize hv : a.eval (.tmp u) = uv at h1
          cases h1
          have hy := yielded_of ha.size hj (by omega) hv
          unfold Region.wanted
          simp only [hgd, hy, bEq_eq]
          cases t <;> cases b <;> rfl
    have guardU : ∀ (c : KO) (b : Bool), (match o.guard with | some (j, b') => (b == b') && (match (ops[j]?).bind (·.dst) with | some t => Nat.ble (t + 1) n && c.ok P S (.tmp t) | none => false) | none => false) = true →
        c.den en = .x (.tup []) → Region.wanted o (yielded ops a.tmps) = false := by
      intro c b hg hc
      cases hgd : o.guard with
      | none => rw [hgd] at hg; cases hg
      | some g =>
        obtain ⟨j, b'⟩ := g
        rw [hgd] at hg
        simp only [Bool.and_eq_true, beq_iff_eq] at hg
        obtain ⟨rfl, hg⟩ := hg
        cases hj : (ops[j]?).bind (·.dst) with
        | none => rw [hj] at hg; cases hg
        | some u =>
          rw [hj] at hg
          simp only [Bool.and_eq_true, ble_tt] at hg
          have h1 := KO.ok_spec hg.2 n D e en a H w hr ha
          rw [hc] at h1
          generalize hv : a.eval (.tmp u) = uv at h1
          cases h1
          rename_i l' hl'
          have hun := hg.1
          cases hl'
          have hu : u < a.tmps.size := Nat.lt_of_lt_of_eq (Nat.lt_of_succ_le hun) ha.size.symm
          have hval : a.tmps[u]? = some (.tuple #[]) := by
            simp only [Act.eval, Array.getD_eq_getD_getElem?] at hv
            rw [Array.getElem?_eq_getElem hu] at hv ⊢
            simpa using hv
          unfold Region.wanted yielded
          simp only [hgd, hj, Option.bind_some, hval]
          rfl
    cases x with
    | l d k =>
      simp only [KE.ok, Bool.and_eq_true] at hx
      obtain ⟨⟨h1, h2⟩, h3⟩ := hx
      rw [wanted_none h2, if_pos rfl]
      exact .inl (run k (fun en v => ⟨.cons d v en.loc, en.B⟩) h3 rfl (locput d h1))
    | p d k =>
      simp only [KE.ok, Bool.and_eq_true] at hx
      obtain ⟨⟨h1, h2⟩, h3⟩ := hx
      rw [wanted_none h2, if_pos rfl]
      exact .inl (run k (fun en v => ⟨en.loc, d.put v en.B⟩) h3 rfl (varput d (by simpa using h1)))
    | n k =>
      simp only [KE.ok, Bool.and_eq_true] at hx
      obtain ⟨⟨h1, h2⟩, h3⟩ := hx
      rw [wanted_none h2, if_pos rfl]
      exact .inl (run k (fun en v => en) h3 rfl (fun e' v v' hext _ => noput h1 e' v' hext))
    | gl c b d k =>
      simp only [KE.ok, Bool.and_eq_true] at hx
      obtain ⟨⟨h1, h2⟩, h3⟩ := hx
      have heq0 : runE F (.gl c b d k :: l) en H = gRun (runE F l ⟨.cons d undefA en.loc, en.B⟩ H) (oRes (k.den F en H) (fun v H' => runE F l ⟨.cons d v en.loc, en.B⟩ H')) b (c.den en) := rfl
      rcases gRun_spec (by rw [← heq0]; exact hne) with ⟨t, hc, heq⟩ | ⟨hc, heq⟩
      · have hw := guard c b t (by simpa using h2) hc
        rw [← heq0] at heq
        cases hb : bEq t b with
        | true =>
          rw [hw, hb, if_pos rfl]
          rw [hb] at heq
          exact .inl (run k (fun en v => ⟨.cons d v en.loc, en.B⟩) h3 heq (locput d h1))
        | false =>
          rw [hw, hb, if_neg (by simp)]
          rw [hb] at heq
          exact pass _ heq (locput d h1 e undefA undef hid (vrel_undef e))
      · rw [guardU c b (by simpa using h2) hc, if_neg (by simp)]
        rw [← heq0] at heq
        exact pass _ heq (locput d h1 e undefA undef hid (vrel_undef e))
    | gp c b d k =>
      simp only [KE.ok, Bool.and_eq_true] at hx
      obtain ⟨⟨h1, h2⟩, h3⟩ := hx
      have h1' := varput d (by simpa using h1)
      have heq0 : runE F (.gp c b d k :: l) en H = gRun (runE F l ⟨en.loc, d.put undefA en.B⟩ H) (oRes (k.den F en H) (fun v H' => runE F l ⟨en.loc, d.put v en.B⟩ H')) b (c.den en) := rfl
      rcases gRun_spec (by rw [← heq0]; exact hne) with ⟨t, hc, heq⟩ | ⟨hc, heq⟩
      · have hw := guard c b t (by simpa using h2) hc
        rw [← heq0] at heq
        cases hb : bEq t b with
        | true =>
          rw [hw, hb, if_pos rfl]
          rw [hb] at heq
          exact .inl (run k (fun en v => ⟨en.loc, d.put v en.B⟩) h3 heq h1')
        | false =>
          rw [hw, hb, if_neg (by simp)]
          rw [hb] at heq
          exact pass _ heq (h1' e undefA undef hid (vrel_undef e))
      · rw [guardU c b (by simpa using h2) hc, if_neg (by simp)]
        rw [← heq0] at heq
        exact pass _ heq (h1' e undefA undef hid (vrel_undef e))
    | gn c b k =>
      simp only [KE.ok, Bool.and_eq_true] at hx
      obtain ⟨⟨h1, h2⟩, h3⟩ := hx
      have heq0 : runE F (.gn c b k :: l) en H = gRun (runE F l en H) (oRes (k.den F en H) (fun v H' => runE F l en H')) b (c.den en) := rfl
      rcases gRun_spec (by rw [← heq0]; exact hne) with ⟨t, hc, heq⟩ | ⟨hc, heq⟩
      · have hw := guard c b t (by simpa using h2) hc
        rw [← heq0] at heq
        cases hb : bEq t b with
        | true =>
          rw [hw, hb, if_pos rfl]
          rw [hb] at heq
          exact .inl (run k (fun en v => en) h3 heq (fun e' v v' hext _ => noput h1 e' v' hext))
        | false =>
          rw [hw, hb, if_neg (by simp)]
          rw [hb] at heq
          exact pass _ heq (noput h1 e undef hid)
      · rw [guardU c b (by simpa using h2) hc, if_neg (by simp)]
        rw [← heq0] at heq
        exact pass _ heq (noput h1 e undef hid)
  | [], _ :: _, _, _, h, _, _, _, _, _, _, _, _, _ => by simp [sameL] at h
  | _ :: _, [], _, _, h, _, _, _, _, _, _, _, _, _ => by simp [sameL] at h
end
end Go.Ab
