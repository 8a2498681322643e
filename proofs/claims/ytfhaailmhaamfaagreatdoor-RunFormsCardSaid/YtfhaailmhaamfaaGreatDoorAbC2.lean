/- Code over the abstract memory (2): branches, blocks, loops. -/
import Derived.Test.YtfhaailmhaamfaaGreatDoorAbE6
namespace Go.Ab
open Go

inductive KCode where
  | skip
  | reg (l : List KE)
  | dreg (l : List KD)
  | seq (a b : KCode)
  | cond (c : KO) (a b : KCode)
  | block (id : Nat) (a : KCode)
  | loop (a : KCode)
  | exit (id : Nat)
  | ret
  | unk

noncomputable section
variable {S : BT Nat}

def rSeq (r : Res) (f : Env → AHeap → Res) : Res := Res.rec (motive := fun _ => Res) f .ext .ret .pan .fail r
def rBlock (id : Nat) (r : Res) : Res := Res.rec (motive := fun _ => Res) .nrm (fun id' en H => Bool.rec (motive := fun _ => Res) (.ext id' en H) (.nrm en H) (Nat.beq id' id)) .ret .pan .fail r
def loopN (φ : Env → AHeap → Res) (n : Nat) : Env → AHeap → Res := Nat.rec (motive := fun _ => Env → AHeap → Res) (fun _ _ => .fail) (fun _ ih en H => rSeq (φ en H) ih) n
def KCode.den (F : Fs) (c : KCode) : Env → AHeap → Res :=
  KCode.rec (motive := fun _ => Env → AHeap → Res) .nrm (fun l en H => runE F l ⟨.nil, en.B⟩ H) (fun l en H => runDG F l (guessD F l ⟨.nil, en.B⟩ H) ⟨.nil, en.B⟩ H)
    (fun _ _ x y en H => rSeq (x en H) y) (fun c _ _ x y en H => avB .fail (fun t => Bool.rec (motive := fun _ => Res) (y en H) (x en H) t) (c.den en))
    (fun id _ x en H => rBlock id (x en H)) (fun _ x => loopN x 1000000) (fun id => .ext id) .ret (fun _ _ => .fail) c

/-- What is asked of a region that draws its order. -/
abbrev DCheck := BT Nat → Array Oper → List KD → Bool

def KCode.ok (P : Program) (S : BT Nat) (n : Nat) (dc : DCheck) : KCode → Code → Bool
  | .skip, .skip => true
  | .reg l, .region _ ops false => sameL (KE.ok P S n ops) l ops.toList
  | .dreg l, .region _ ops true => dc S ops l && sameL (KE.ok P S n ops) (l.map (·.x)) ops.toList
  | .seq a b, .seq x y => KCode.ok P S n dc a x && KCode.ok P S n dc b y
  | .cond c a b, .cond c' x y => c.ok P S c' && (KCode.ok P S n dc a x && KCode.ok P S n dc b y)
  | .block id a, .block id' x => Nat.beq id id' && KCode.ok P S n dc a x
  | .loop a, .loop x => KCode.ok P S n dc a x
  | .exit id, .exit id' => Nat.beq id id'
  | .ret, .ret => true
  | .unk, _ => true
  | _, _ => false

/-- Regions that draw their order, let in by the check, come to what their text comes to. -/
def DOk (P : Program) (S : BT Nat) (n : Nat) (F : Fs) (dc : DCheck) : Prop :=
  ∀ id ops l, dc S ops l = true → sameL (KE.ok P S n ops) (l.map (·.x)) ops.toList = true → CSnd P S n (.region id ops true) (fun en H => runDG F l (guessD F l ⟨.nil, en.B⟩ H) ⟨.nil, en.B⟩ H)

theorem dok {P : Program} {F : Fs} (hF : FsOk P F) (hmix : P.follows .mixedOrders = true) (S : BT Nat) (n : Nat) : DOk P S n F dchk :=
  fun id _ l h1 h2 => region_any (id := id) hF hmix h1 h2 (fun en H => guessD F l en H)

theorem csnd_reg {P : Program} {F : Fs} (hF : FsOk P F) {n id : Nat} {ops : Array Oper} {l : List KE} (h : sameL (KE.ok P S n ops) l ops.toList = true) : CSnd P S n (.region id ops false) (fun en H => runE F l ⟨.nil, en.B⟩ H) := by
  intro D en H hne e w a hr ha
  refine wp_region ?_
  have := reg_wp hF (D := D) l ops.toList 0 (fun j => by simp) h ⟨.nil, en.B⟩ H e w a hne hr ha.clear (Evo.refl hr)
  rw [List.range_eq_range']
  simpa using this

theorem csnd_seq {P : Program} {n : Nat} {x y : Code} {φ ψ : Env → AHeap → Res} (hx : CSnd P S n x φ) (hy : CSnd P S n y ψ) : CSnd P S n (.seq x y) (fun en H => rSeq (φ en H) ψ) := by
  intro D en H hne e w a hr ha
  dsimp only at hne ⊢
  have h1 := hx D en H
  refine wp_seq ?_
  cases hφ : φ en H with
  | nrm en1 H1 =>
    rw [hφ] at h1 hne
    refine wp_mono (h1 (by simp) e w a hr ha) ?_
    rintro X a1 w1 ⟨rfl, e1, ha1, hv1⟩
    exact wp_mono (hy D en1 H1 hne e1 w1 a1 hv1.rel ha1) fun X a' w' hf => hf.trans hv1
  | ext id en1 H1 =>
    rw [hφ] at h1
    refine wp_mono (h1 (by simp) e w a hr ha) ?_
    rintro X a1 w1 ⟨rfl, h⟩
    exact ⟨rfl, h⟩
  | ret en1 H1 =>
    rw [hφ] at h1
    refine wp_mono (h1 (by simp) e w a hr ha) ?_
    rintro X a1 w1 ⟨rfl, h⟩
    exact ⟨rfl, h⟩
  | pan v H1 =>
    rw [hφ] at h1
    refine wp_mono (h1 (by simp) e w a hr ha) ?_
    rintro X a1 w1 ⟨e', v', rfl, h⟩
    exact ⟨e', v', rfl, h⟩
  | fail => rw [hφ] at hne; exact absurd rfl hne

theorem csnd_cond {P : Program} {n : Nat} {c : Operand} {c' : KO} {x y : Code} {φ ψ : Env → AHeap → Res} (hc : c'.ok P S c = true) (hx : CSnd P S n x φ) (hy : CSnd P S n y ψ) :
    CSnd P S n (.cond c x y) (fun en H => avB .fail (fun t => Bool.rec (motive := fun _ => Res) (ψ en H) (φ en H) t) (c'.den en)) := by
  intro D en H hne e w a hr ha
  have h1 := KO.ok_spec hc n D e en a H w hr ha
  cases hv : c'.den en with
  | b t =>
    rw [hv] at h1
    generalize hcv : a.eval c = cv at h1
    cases h1
    simp only [hv] at hne ⊢
    cases t with
    | true => exact wp_cond_true hcv (hx D en H hne e w a hr ha)
    | false => exact wp_cond_false hcv (hy D en H hne e w a hr ha)
  | _ => simp only [hv] at hne; exact absurd rfl hne

theorem csnd_block {P : Program} {n id : Nat} {x : Code} {φ : Env → AHeap → Res} (hx : CSnd P S n x φ) : CSnd P S n (.block id x) (fun en H => rBlock id (φ en H)) := by
  intro D en H hne e w a hr ha
  dsimp only at hne ⊢
  have h1 := hx D en H
  refine wp_block ?_
  cases hφ : φ en H with
  | nrm en1 H1 =>
    rw [hφ] at h1
    refine wp_mono (h1 (by simp) e w a hr ha) ?_
    rintro X a1 w1 ⟨rfl, h⟩
    exact ⟨rfl, h⟩
  | ext id' en1 H1 =>
    rw [hφ] at h1 hne
    refine wp_mono (h1 (by simp) e w a hr ha) ?_
    rintro X a1 w1 ⟨rfl, h⟩
    show if id' = id then Fits P S n D e H w (rBlock id (.ext id' en1 H1)) .normal a1 w1 else Fits P S n D e H w (rBlock id (.ext id' en1 H1)) (.exit id') a1 w1
    have hb : rBlock id (.ext id' en1 H1) = Bool.rec (motive := fun _ => Res) (.ext id' en1 H1) (.nrm en1 H1) (Nat.beq id' id) := rfl
    rw [hb, brec]
    by_cases hid : id' = id
    · subst hid; simp only [Nat.beq_refl, if_true]; exact ⟨rfl, h⟩
    · rw [if_neg hid, if_neg (by rw [beq_tt]; exact hid)]; exact ⟨rfl, h⟩
  | ret en1 H1 =>
    rw [hφ] at h1
    refine wp_mono (h1 (by simp) e w a hr ha) ?_
    rintro X a1 w1 ⟨rfl, h⟩
    exact ⟨rfl, h⟩
  | pan v H1 =>
    rw [hφ] at h1
    refine wp_mono (h1 (by simp) e w a hr ha) ?_
    rintro X a1 w1 ⟨e', v', rfl, h⟩
    exact ⟨e', v', rfl, h⟩
  | fail => rw [hφ] at hne; exact absurd rfl hne

/-- The rounds of a loop. -/
def LoopWp (P : Program) (c : Code) (Q : Exit → Act → World → Prop) (a : Act) (w : World) : Prop :=
  ∀ (b : Frame) (k : List Item) (cs : List Frame), ∃ e a' w', Q e a' w' ∧ Arrives P (lone (b.at a (.code c :: .inLoop c :: k)) cs w) b k cs e a' w'
theorem loopWp_step {P : Program} {c : Code} {Q : Exit → Act → World → Prop} {a : Act} {w : World} (h : c.wp P (Exit.then (LoopWp P c Q) Q) a w) : LoopWp P c Q a w := by
  intro b k cs
  obtain ⟨e, a₁, w₁, hq, harr⟩ := h b (.inLoop c :: k) cs
  cases e with
  | normal =>
    obtain ⟨e₂, a₂, w₂, hq₂, harr₂⟩ := hq b k cs
    exact ⟨e₂, a₂, w₂, hq₂, .of_steps (Steps.trans harr (.one step_inLoop)) harr₂⟩
  | exit id => exact ⟨_, a₁, w₁, hq, .pass (x := .inLoop c) rfl (fun _ _ => .inl (by simp)) harr⟩
  | goto l => exact ⟨_, a₁, w₁, hq, .pass (x := .inLoop c) rfl (fun _ _ => .inl (by simp)) harr⟩
  | ret => exact ⟨_, a₁, w₁, hq, .pass (x := .inLoop c) rfl (fun _ _ => .inl (by simp)) harr⟩
  | panic ch => exact ⟨_, a₁, w₁, hq, .pass (x := .inLoop c) rfl (fun _ _ => .inl (by simp)) harr⟩
  | outgrown => exact ⟨_, a₁, w₁, hq, .pass (x := .inLoop c) rfl (fun _ _ => .inl (by simp)) harr⟩
theorem loopWp_wp {P : Program} {c : Code} {Q : Exit → Act → World → Prop} {a : Act} {w : World} (h : LoopWp P c Q a w) : (Code.loop c).wp P Q a w := by
  intro b k cs
  obtain ⟨e, a', w', hq, harr⟩ := h b k cs
  exact ⟨e, a', w', hq, .of_steps (.one step_loop) harr⟩

theorem LoopWp.mono {P : Program} {c : Code} {Q Q' : Exit → Act → World → Prop} {a : Act} {w : World} (h : LoopWp P c Q a w) (hq : ∀ e a w, Q e a w → Q' e a w) : LoopWp P c Q' a w :=
  fun b k cs => let ⟨e, a', w', q, r⟩ := h b k cs; ⟨e, a', w', hq _ _ _ q, r⟩

theorem loopN_succ (φ : Env → AHeap → Res) (N : Nat) (en : Env) (H : AHeap) : loopN φ (N + 1) en H = rSeq (φ en H) (loopN φ N) := rfl

theorem csnd_rounds {P : Program} {n : Nat} {x : Code} {φ : Env → AHeap → Res} (hx : CSnd P S n x φ) : ∀ (N : Nat) (D : List Deferred) (en : Env) (H : AHeap), loopN φ N en H ≠ .fail → ∀ e w a, Rel P.globals.size e H w → ARel S n D e en a →
    LoopWp P x (Fits P S n D e H w (loopN φ N en H)) a w
  | 0, D, en, H, hne, e, w, a, hr, ha => absurd rfl hne
  | N + 1, D, en, H, hne, e, w, a, hr, ha => by
    have h1 := hx D en H
    rw [loopN_succ] at hne ⊢
    refine loopWp_step ?_
    cases hφ : φ en H with
    | nrm en1 H1 =>
      rw [hφ] at h1 hne
      refine wp_mono (h1 (by simp) e w a hr ha) ?_
      rintro X a1 w1 ⟨rfl, e1, ha1, hv1⟩
      exact (csnd_rounds hx N D en1 H1 hne e1 w1 a1 hv1.rel ha1).mono fun X a' w' hf => hf.trans hv1
    | ext id en1 H1 =>
      rw [hφ] at h1
      refine wp_mono (h1 (by simp) e w a hr ha) ?_
      rintro X a1 w1 ⟨rfl, h⟩
      exact ⟨rfl, h⟩
    | ret en1 H1 =>
      rw [hφ] at h1
      refine wp_mono (h1 (by simp) e w a hr ha) ?_
      rintro X a1 w1 ⟨rfl, h⟩
      exact ⟨rfl, h⟩
    | pan v H1 =>
      rw [hφ] at h1
      refine wp_mono (h1 (by simp) e w a hr ha) ?_
      rintro X a1 w1 ⟨e', v', rfl, h⟩
      exact ⟨e', v', rfl, h⟩
    | fail => rw [hφ] at hne; exact absurd rfl hne

theorem csnd_loop {P : Program} {n : Nat} {x : Code} {φ : Env → AHeap → Res} (hx : CSnd P S n x φ) (N : Nat) : CSnd P S n (.loop x) (loopN φ N) :=
  fun D en H hne e w a hr ha => loopWp_wp (csnd_rounds hx N D en H hne e w a hr ha)

theorem code_snd {P : Program} {F : Fs} (hF : FsOk P F) {n : Nat} {dc : DCheck} (hD : DOk P S n F dc) : ∀ (k : KCode) (c : Code), k.ok P S n dc c = true → CSnd P S n c (k.den F)
  | .skip, c, h => by
    cases c <;> first | (cases h; done) | skip
    exact fun D en H _ e w a hr ha => wp_skip ⟨rfl, e, ha, Evo.refl hr⟩
  | .reg l, c, h => by
    cases c with
    | region id ops d =>
      cases d with
      | false => exact csnd_reg hF h
      | true => cases h
    | _ => cases h
  | .dreg l, c, h => by
    cases c with
    | region id ops d =>
      cases d with
      | false => cases h
      | true =>
        simp only [KCode.ok, Bool.and_eq_true] at h
        exact hD id ops l h.1 h.2
    | _ => cases h
  | .seq a b, c, h => by
    cases c <;> first | (cases h; done) | skip
    simp only [KCode.ok, Bool.and_eq_true] at h
    exact csnd_seq (code_snd hF hD a _ h.1) (code_snd hF hD b _ h.2)
  | .cond c' a b, c, h => by
    cases c <;> first | (cases h; done) | skip
    simp only [KCode.ok, Bool.and_eq_true] at h
    exact csnd_cond h.1 (code_snd hF hD a _ h.2.1) (code_snd hF hD b _ h.2.2)
  | .block id a, c, h => by
    cases c <;> first | (cases h; done) | skip
    simp only [KCode.ok, Bool.and_eq_true] at h
    have := Nat.eq_of_beq_eq_true h.1
    subst this
    exact csnd_block (code_snd hF hD a _ h.2)
  | .loop a, c, h => by
    cases c <;> first | (cases h; done) | skip
    exact csnd_loop (code_snd hF hD a _ h) 1000000
  | .unk, c, h => fun D en H hne => absurd rfl hne
  | .exit id, c, h => by
    cases c <;> first | (cases h; done) | skip
    have := Nat.eq_of_beq_eq_true h
    subst this
    exact fun D en H _ e w a hr ha => wp_exit ⟨rfl, e, ha, Evo.refl hr⟩
  | .ret, c, h => by
    cases c <;> first | (cases h; done) | skip
    exact fun D en H _ e w a hr ha => wp_ret ⟨rfl, e, ha, Evo.refl hr⟩
end
end Go.Ab
