/- Regions that draw their order (3): the run in the text's order, with its checks. -/
import Derived.Test.YtfhaailmhaamfaaGreatDoorAbD2
namespace Go.Ab
open Go

/-- z: looks at no memory; r: changes nothing elder; w: changes some elder blocks, known ahead; k: ordered with all but z. -/
inductive KCls where | z | r | w | k

/-- An entry: its class; which w it is not ordered with; which are ahead of it; the operation. -/
structure KD where
  cls : KCls
  us : List Nat
  cl : List Nat
  x : KE

noncomputable section

def KE.op (x : KE) : KOp := KE.rec (motive := fun _ => KOp) (fun _ k => k) (fun _ k => k) (fun k => k) (fun _ _ _ k => k) (fun _ _ _ k => k) (fun _ _ k => k) x
def KE.put (x : KE) (v : AV) (en : Env) : Env :=
  KE.rec (motive := fun _ => Env) (fun d _ => ⟨.cons d v en.loc, en.B⟩) (fun d _ => ⟨en.loc, d.put v en.B⟩) (fun _ => en) (fun _ _ d _ => ⟨.cons d v en.loc, en.B⟩) (fun _ _ d _ => ⟨en.loc, d.put v en.B⟩) (fun _ _ _ => en) x
/-- Is it wanted? -/
def wantV (b : Bool) (v : AV) : Option Bool :=
  AVp.rec (motive := fun _ => Option Bool) (fun _ _ => none) (fun t => some (bEq t b)) (fun _ _ => none) (fun _ _ => none) (fun _ _ _ _ => none)
    (fun x => axTup none (fun l => List.rec (motive := fun _ => Option Bool) (some false) (fun _ _ _ => none) l) x) v
def KE.want (x : KE) (en : Env) : Option Bool :=
  KE.rec (motive := fun _ => Option Bool) (fun _ _ => some true) (fun _ _ => some true) (fun _ => some true) (fun c b _ _ => wantV b (c.den en)) (fun c b _ _ => wantV b (c.den en)) (fun c b _ => wantV b (c.den en)) x

/-! ### Heaps -/
/-- Blocks marked dead. -/
def kills (D : List Nat) (H : AHeap) : AHeap := List.rec (motive := fun _ => AHeap) H (fun b _ ih => Bool.rec (motive := fun _ => AHeap) ih (ih.upd b .dead) (Nat.ble (Nat.add b 1) ih.nxt)) D
/-- The blocks from number n on, m of them, put behind. -/
def copyN (X : AHeap) (m : Nat) : AHeap → AHeap :=
  Nat.rec (motive := fun _ => AHeap → AHeap) (fun H => H) (fun _ ih H => ih (H.alloc (Option.rec (motive := fun _ => ABlk) .dead (fun x => x) (X.get H.nxt)))) m
def growN (X H : AHeap) : AHeap := copyN X (Nat.sub X.nxt H.nxt) H
/-- Some blocks, taken from another memory. -/
def patch (X : AHeap) (T : List Nat) (H : AHeap) : AHeap := List.rec (motive := fun _ => AHeap) H (fun b _ ih => Option.rec (motive := fun _ => AHeap) ih (fun x => ih.upd b x) (X.get b)) T

theorem kills_cons (b : Nat) (D : List Nat) (H : AHeap) : kills (b :: D) H = if b < (kills D H).nxt then (kills D H).upd b .dead else kills D H := by
  have h : kills (b :: D) H = Bool.rec (motive := fun _ => AHeap) (kills D H) ((kills D H).upd b .dead) (Nat.ble (b + 1) (kills D H).nxt) := rfl
  rw [h, brec]; simp only [ble_tt]; rfl
theorem kills_nxt : ∀ (D : List Nat) (H : AHeap), (kills D H).nxt = H.nxt
  | [], H => rfl
  | b :: D, H => by
    rw [kills_cons]
    split
    · rw [AHeap.nxt_upd]; exact kills_nxt D H
    · exact kills_nxt D H
theorem kills_get : ∀ (D : List Nat) (H : AHeap) (c : Nat), (kills D H).get c = some .dead ∨ ((kills D H).get c = H.get c ∧ (c < H.nxt → c ∈ D → H.get c = none))
  | [], H, c => .inr ⟨rfl, fun _ h => by cases h⟩
  | b :: D, H, c => by
    rw [kills_cons]
    by_cases hb : b < (kills D H).nxt
    · rw [if_pos hb, AHeap.get_upd _ _ _ hb]
      by_cases hc : c = b
      · subst hc
        rw [if_pos rfl]
        cases hk : (kills D H).get c with
        | some x => exact .inl rfl
        | none =>
          rcases kills_get D H c with h | ⟨h, _⟩
          · rw [hk] at h; cases h
          · rw [hk] at h; exact .inr ⟨h, fun _ _ => h.symm⟩
      · rw [if_neg hc]
        rcases kills_get D H c with h | ⟨h, g⟩
        · exact .inl h
        · refine .inr ⟨h, fun h1 h2 => g h1 ?_⟩
          rcases List.mem_cons.1 h2 with h2 | h2
          · exact absurd h2 hc
          · exact h2
    · rw [if_neg hb]
      rcases kills_get D H c with h | ⟨h, g⟩
      · exact .inl h
      · refine .inr ⟨h, fun h1 h2 => g h1 ?_⟩
        rcases List.mem_cons.1 h2 with h2 | h2
        · rw [kills_nxt] at hb; omega
        · exact h2
theorem copyN_succ (X : AHeap) (m : Nat) (H : AHeap) : copyN X (m + 1) H = copyN X m (H.alloc ((X.get H.nxt).getD .dead)) := by
  show copyN X m (H.alloc (Option.rec (motive := fun _ => ABlk) .dead (fun x => x) (X.get H.nxt))) = _
  cases X.get H.nxt <;> rfl
theorem copyN_nxt (X : AHeap) : ∀ (m : Nat) (H : AHeap), (copyN X m H).nxt = H.nxt + m
  | 0, H => rfl
  | m + 1, H => by rw [copyN_succ, copyN_nxt X m]; simp; omega
theorem copyN_low (X : AHeap) : ∀ (m : Nat) (H : AHeap), (copyN X m H).low = H.low
  | 0, H => rfl
  | m + 1, H => by rw [copyN_succ, copyN_low X m]; rfl
theorem copyN_old (X : AHeap) : ∀ (m : Nat) (H : AHeap) (b : Nat), b < H.nxt → (copyN X m H).get b = H.get b
  | 0, H, b, _ => rfl
  | m + 1, H, b, hb => by rw [copyN_succ, copyN_old X m _ b (by simp; omega), AHeap.get_alloc, if_neg (by omega)]
theorem copyN_new (X : AHeap) : ∀ (m : Nat) (H : AHeap) (b : Nat), H.nxt ≤ b → b < H.nxt + m → (copyN X m H).get b = some ((X.get b).getD .dead)
  | 0, H, b, h1, h2 => by omega
  | m + 1, H, b, h1, h2 => by
    rw [copyN_succ]
    by_cases hb : b = H.nxt
    · subst hb; rw [copyN_old X m _ _ (by simp), AHeap.get_alloc, if_pos rfl]
    · exact copyN_new X m _ b (by simp; omega) (by simp; omega)
theorem growN_nxt (X H : AHeap) : (growN X H).nxt = max H.nxt X.nxt := by
  show (copyN X (X.nxt - H.nxt) H).nxt = _
  rw [copyN_nxt]; omega
theorem growN_low (X H : AHeap) : (growN X H).low = H.low := copyN_low _ _ _
theorem growN_old (X H : AHeap) (b : Nat) (hb : b < H.nxt) : (growN X H).get b = H.get b := copyN_old _ _ _ _ hb
theorem growN_new (X H : AHeap) (b : Nat) (h1 : H.nxt ≤ b) (h2 : b < (growN X H).nxt) : (growN X H).get b = X.get b ∨ (growN X H).get b = some .dead := by
  have h3 : (growN X H).get b = some ((X.get b).getD .dead) := by
    refine copyN_new X _ H b h1 ?_
    rw [growN_nxt] at h2
    show b < H.nxt + (X.nxt - H.nxt)
    omega
  rw [h3]
  cases X.get b with
  | none => exact .inr rfl
  | some x => exact .inl rfl
theorem patch_cons (X : AHeap) (b : Nat) (T : List Nat) (H : AHeap) : patch X (b :: T) H = match X.get b with | some x => (patch X T H).upd b x | none => patch X T H := by
  show Option.rec (motive := fun _ => AHeap) (patch X T H) (fun x => (patch X T H).upd b x) (X.get b) = _
  cases X.get b <;> rfl
theorem patch_nxt (X : AHeap) : ∀ (T : List Nat) (H : AHeap), (patch X T H).nxt = H.nxt
  | [], H => rfl
  | b :: T, H => by
    rw [patch_cons]
    cases X.get b with
    | none => exact patch_nxt X T H
    | some x => exact patch_nxt X T H
theorem patch_low (X : AHeap) : ∀ (T : List Nat) (H : AHeap), (patch X T H).low ≤ H.low
  | [], H => Nat.le_refl _
  | b :: T, H => by
    rw [patch_cons]
    cases X.get b with
    | none => exact patch_low X T H
    | some x =>
      show ((patch X T H).upd b x).low ≤ _
      have := patch_low X T H
      rw [AHeap.low_upd]; split <;> omega
theorem patch_get (X : AHeap) : ∀ (T : List Nat) (H : AHeap), (∀ b ∈ T, b < H.nxt ∧ (∃ x, X.get b = some x) ∧ ∃ y, H.get b = some y) → ∀ c, (patch X T H).get c = if c ∈ T then X.get c else H.get c
  | [], H, _, c => by simp [patch]
  | b :: T, H, h, c => by
    obtain ⟨hb, ⟨x, hx⟩, y, hy⟩ := h b (by simp)
    have ih := patch_get X T H fun d hd => h d (List.mem_cons_of_mem _ hd)
    rw [patch_cons, hx]
    show ((patch X T H).upd b x).get c = _
    rw [AHeap.get_upd _ _ _ (by rw [patch_nxt]; exact hb)]
    by_cases hc : c = b
    · subst hc
      rw [if_pos rfl, if_pos (by simp), ih, hx]
      split
      · rfl
      · rw [hy]; rfl
    · rw [if_neg hc, ih]
      simp [hc]

/-- A tree of n dead blocks. -/
def dt2 (f : Nat) : Nat → BT ABlk × BT ABlk :=
  Nat.rec (motive := fun _ => Nat → BT ABlk × BT ABlk) (fun _ => (.lf, .lf)) (fun _ ih n => Nat.rec (motive := fun _ => BT ABlk × BT ABlk) (.nd .lf .dead .lf, .lf)
    (fun m _ => Prod.rec (motive := fun _ => BT ABlk × BT ABlk) (fun a b => Bool.rec (motive := fun _ => BT ABlk × BT ABlk) (.nd a .dead b, .nd b .dead b) (.nd a .dead a, .nd a .dead b) (Nat.beq (Nat.mod m 2) 1)) (ih (Nat.div m 2))) n) f
def deadT (n : Nat) : BT ABlk := (dt2 (Nat.add n 1) n).2
theorem dt2_get : ∀ (f n : Nat), n < f → (∀ i, i < n + 1 → (dt2 f n).1.get i = some .dead) ∧ ∀ i, i < n → (dt2 f n).2.get i = some .dead
  | 0, n, h => by omega
  | f + 1, 0, _ => by
    refine ⟨fun i hi => ?_, fun i hi => by omega⟩
    have : i = 0 := by omega
    subst this; rfl
  | f + 1, m + 1, h => by
    have ih := dt2_get f (m / 2) (by omega)
    have he : dt2 (f + 1) (m + 1) = Bool.rec (motive := fun _ => BT ABlk × BT ABlk) (.nd (dt2 f (m / 2)).1 .dead (dt2 f (m / 2)).2, .nd (dt2 f (m / 2)).2 .dead (dt2 f (m / 2)).2) (.nd (dt2 f (m / 2)).1 .dead (dt2 f (m / 2)).1, .nd (dt2 f (m / 2)).1 .dead (dt2 f (m / 2)).2) (Nat.beq (m % 2) 1) := rfl
    rw [he, brec]
    simp only [beq_tt]
    by_cases hm : m % 2 = 1
    · rw [if_pos hm]
      refine ⟨fun i hi => ?_, fun i hi => ?_⟩ <;> rw [BT.get_nd] <;> by_cases h0 : i = 0 <;> simp only [h0, if_true, if_false] <;> by_cases h1 : i % 2 = 1 <;> simp only [h1, if_true, if_false]
      · exact ih.1 _ (by omega)
      · exact ih.1 _ (by omega)
      · exact ih.1 _ (by omega)
      · exact ih.2 _ (by omega)
    · rw [if_neg hm]
      refine ⟨fun i hi => ?_, fun i hi => ?_⟩ <;> rw [BT.get_nd] <;> by_cases h0 : i = 0 <;> simp only [h0, if_true, if_false] <;> by_cases h1 : i % 2 = 1 <;> simp only [h1, if_true, if_false]
      · exact ih.1 _ (by omega)
      · exact ih.2 _ (by omega)
      · exact ih.2 _ (by omega)
      · exact ih.2 _ (by omega)
/-- A memory of n dead blocks. -/
def deads (n : Nat) : AHeap := ⟨deadT n, n, n⟩
theorem deads_nxt (n : Nat) : (deads n).nxt = n := rfl
theorem deads_get (n b : Nat) (h : b < n) : (deads n).get b = some .dead := by
  rw [AHeap.get_eq, deads_nxt, if_pos h]
  exact (dt2_get (n + 1) n (by omega)).2 _ (by omega)

def Emb.cut (e : Emb) (N : Nat) : Emb := fun b => if b < N then e b else none
theorem Emb.cut_some {e : Emb} {N b : Nat} {i : Info} : e.cut N b = some i ↔ b < N ∧ e b = some i := by
  unfold Emb.cut
  by_cases h : b < N
  · simp [h]
  · simp [h]

/-! ### The run -/
def slT (v : AV) : List Nat := avSl [] (fun b _ _ cap => Bool.rec (motive := fun _ => List Nat) [b] [] (Nat.beq cap 0)) v
/-- The elder blocks that an operation changes, or looks at as it does. -/
def KOp.tgts (k : KOp) (en : Env) : List Nat :=
  match k with
  | .store _ x _ => avP [] (fun b _ => [b]) (x.den en)
  | .app _ _ x y => slT (x.den en) ++ slT (y.den en)
  | .mapu _ x _ _ => avX [] (fun u => AX.casesOn (motive_1 := fun _ => List Nat) u [] [] [] [] [] [] (fun r => [r]) (fun _ _ _ => []) (fun _ _ => []) (fun _ => []) (fun _ => []) (fun _ => []) (fun _ _ => []) (fun _ _ _ => [])) (x.den en)
  | _ => []
def memN (b : Nat) (D : List Nat) : Bool := List.rec (motive := fun _ => Bool) false (fun c _ ih => Bool.rec (motive := fun _ => Bool) ih true (Nat.beq b c)) D
theorem memN_iff (b : Nat) : ∀ D, memN b D = true ↔ b ∈ D
  | [] => by simp [memN]
  | c :: D => by
    have h : memN b (c :: D) = Bool.rec (motive := fun _ => Bool) (memN b D) true (Nat.beq b c) := rfl
    rw [h, brec]
    simp only [beq_tt, List.mem_cons]
    split
    · simp_all
    · rw [memN_iff b D]; simp_all
def allN (f : Nat → Bool) (D : List Nat) : Bool := List.rec (motive := fun _ => Bool) true (fun c _ ih => Bool.rec (motive := fun _ => Bool) false ih (f c)) D
theorem allN_iff (f : Nat → Bool) : ∀ D, allN f D = true ↔ ∀ b ∈ D, f b = true
  | [] => by simp [allN]
  | c :: D => by
    have h : allN f (c :: D) = Bool.rec (motive := fun _ => Bool) false (allN f D) (f c) := rfl
    rw [h, brec]
    cases hc : f c with
    | true => simp [hc, allN_iff f D]
    | false => simp [hc]
def bOr (a b : Bool) : Bool := Bool.rec (motive := fun _ => Bool) b true a
def bAnd (a b : Bool) : Bool := Bool.rec (motive := fun _ => Bool) false b a
theorem bOr_iff (a b : Bool) : bOr a b = true ↔ a = true ∨ b = true := by cases a <;> simp [bOr]
theorem bAnd_iff (a b : Bool) : bAnd a b = true ↔ a = true ∧ b = true := by cases a <;> simp [bAnd]
def ownB (x : Option ABlk) : Bool := Option.rec (motive := fun _ => Bool) false (fun y => ABlk.rec (motive := fun _ => Bool) (fun _ _ w _ => w) (fun _ => true) false y) x
theorem ownB_spec {H : AHeap} {b : Nat} (h : ownB (H.get b) = true) : H.owned b := by
  cases hb : H.get b with
  | none => rw [hb] at h; cases h
  | some y =>
    rw [hb] at h
    cases y with
    | c n t w sp => have : w = true := h; subst this; exact .inl ⟨n, t, sp, hb⟩
    | m es => exact .inr ⟨es, hb⟩
    | dead => cases h
def hasB (x : Option ABlk) : Bool := Option.rec (motive := fun _ => Bool) false (fun _ => true) x
theorem hasB_spec {x : Option ABlk} (h : hasB x = true) : ∃ y, x = some y := by cases x with | none => cases h | some y => exact ⟨y, rfl⟩
def minL (a b : Nat) : Nat := Bool.rec (motive := fun _ => Nat) b a (Nat.ble a b)
theorem minL_eq (a b : Nat) : minL a b = min a b := by
  unfold minL; rw [brec]; simp only [ble_tt]; split <;> omega

def vRes (r : ORes) (f : AV → AHeap → Res) : Res := ORes.rec (motive := fun _ => Res) f (fun _ _ => .fail) .fail r
def rIf (c : Bool) (r : Res) : Res := Bool.rec (motive := fun _ => Res) .fail r c
theorem vRes_spec {r : ORes} {f : AV → AHeap → Res} (h : vRes r f ≠ .fail) : ∃ v X, r = .v v X ∧ vRes r f = f v X := by
  cases r with
  | v v X => exact ⟨v, X, rfl, rfl⟩
  | pan v X => exact absurd rfl h
  | fail => exact absurd rfl h
theorem rIf_spec {c : Bool} {r : Res} (h : rIf c r ≠ .fail) : c = true ∧ rIf c r = r := by
  cases c with
  | true => exact ⟨rfl, rfl⟩
  | false => exact absurd rfl h

/-- The blocks that unordered w operations change, as a first run has it. -/
def deadsOf (gs : List (List Nat)) (us : List Nat) : List Nat :=
  List.rec (motive := fun _ => List Nat) [] (fun j _ ih => Option.rec (motive := fun _ => List Nat) ih (fun g => g ++ ih) (gs[j]?)) us
theorem mem_deadsOf {gs : List (List Nat)} {b j : Nat} {g : List Nat} (hg : gs[j]? = some g) (hb : b ∈ g) : ∀ {us : List Nat}, j ∈ us → b ∈ deadsOf gs us
  | [], h => by cases h
  | k :: us, h => by
    show b ∈ Option.rec (motive := fun _ => List Nat) (deadsOf gs us) (fun g => g ++ deadsOf gs us) (gs[k]?)
    rcases List.mem_cons.1 h with h | h
    · subst h; rw [hg]; exact List.mem_append_left _ hb
    · have ih := mem_deadsOf hg hb h
      cases gs[k]? with
      | none => exact ih
      | some g' => exact List.mem_append_right _ ih

def runZ (F : Fs) (x : KE) (en : Env) (H : AHeap) (next : Env → AHeap → Res) : Res := vRes (x.op.den F en H) (fun v _ => next (x.put v en) H)
def runR (F : Fs) (x : KE) (D : List Nat) (en : Env) (H : AHeap) (next : Env → AHeap → Res) : Res :=
  vRes (x.op.den F en ((kills D H).withLow H.nxt)) (fun v X => rIf (bAnd (Nat.ble H.nxt X.low) (allN (fun b => bOr (bAnd (Nat.ble (Nat.add b 1) H.nxt) (hasB (H.get b))) (bAnd (Nat.ble H.nxt b) (Nat.ble X.nxt b))) D)) (next (x.put v en) (growN X H)))
def runW (F : Fs) (x : KE) (g : List Nat) (en : Env) (H : AHeap) (next : Env → AHeap → Res) : Res :=
  rIf (allN (fun b => bAnd (memN b g) (bAnd (Nat.ble (Nat.add b 1) H.nxt) (ownB (H.get b)))) (x.op.tgts en))
    (vRes (x.op.den F en ((patch H (x.op.tgts en) (deads H.nxt)).withLow H.nxt))
      (fun v X => rIf (allN (fun b => hasB (X.get b)) (x.op.tgts en)) (next (x.put v en) ((growN X (patch X (x.op.tgts en) H)).withLow (minL H.low X.low)))))
def runK (F : Fs) (x : KE) (en : Env) (H : AHeap) (next : Env → AHeap → Res) : Res :=
  vRes (x.op.den F en H) (fun v X => rIf (Nat.ble H.nxt X.nxt) (next (x.put v en) (X.withLow (minL H.low X.low))))
/-- One entry: what it comes to, and the memory behind it. D: blocks taken as dead; g: the blocks it was thought to change. -/
def KD.run (F : Fs) (d : KD) (D g : List Nat) (en : Env) (H : AHeap) (next : Env → AHeap → Res) : Res :=
  Option.rec (motive := fun _ => Res) .fail (fun t => Bool.rec (motive := fun _ => Res) (next (d.x.put undefA en) H)
    (KCls.rec (motive := fun _ => Res) (runZ F d.x en H next) (runR F d.x D en H next) (runW F d.x g en H next) (runK F d.x en H next) d.cls) t) (d.x.want en)
def headL (l : List (List Nat)) : List Nat := List.rec (motive := fun _ => List Nat) [] (fun a _ _ => a) l
def tailL (l : List (List Nat)) : List (List Nat) := List.rec (motive := fun _ => List (List Nat)) [] (fun _ t _ => t) l
/-- The entries one by one. -/
def runD (F : Fs) (gs : List (List Nat)) (l : List KD) : List (List Nat) → Env → AHeap → Res :=
  List.rec (motive := fun _ => List (List Nat) → Env → AHeap → Res) (fun _ => .nrm) (fun d _ ih gr en H => d.run F (deadsOf gs d.us) (headL gr) en H (ih (tailL gr))) l
theorem runD_cons (F : Fs) (gs : List (List Nat)) (d : KD) (l : List KD) (gr : List (List Nat)) (en : Env) (H : AHeap) : runD F gs (d :: l) gr en H = d.run F (deadsOf gs d.us) (headL gr) en H (runD F gs l (tailL gr)) := rfl
/-- A first run: which blocks are changed by the w operations. -/
def guessD (F : Fs) (l : List KD) : Env → AHeap → List (List Nat) :=
  List.rec (motive := fun _ => Env → AHeap → List (List Nat)) (fun _ _ => []) (fun d _ ih en H =>
    Option.rec (motive := fun _ => List (List Nat)) [] (fun t => Bool.rec (motive := fun _ => List (List Nat)) ([] :: ih (d.x.put undefA en) H)
      ((KCls.rec (motive := fun _ => List Nat) [] [] (d.x.op.tgts en) [] d.cls) :: ORes.rec (motive := fun _ => List (List Nat)) (fun v X => ih (d.x.put v en) X) (fun _ _ => []) [] (d.x.op.den F en H)) t) (d.x.want en)) l
def runDG (F : Fs) (l : List KD) (gs : List (List Nat)) (en : Env) (H : AHeap) : Res := runD F gs l gs en H

/-! ### What one entry says -/
structure Mem (kk : Prop) (D : List Nat) (H H' : AHeap) (Te : Nat → Prop) (Y Y' : AHeap) : Prop where
  ny : Y.nxt = H.nxt
  yb : ∀ b, b < H.nxt → Y.get b = some .dead ∨ (Y.get b = H.get b ∧ b ∉ D)
  te : ∀ b, Te b → b < H.nxt ∧ Y.get b = H.get b ∧ b ∉ D
  g1 : ∀ b, Te b → H'.get b = Y'.get b
  g2 : ∀ b, H.nxt ≤ b → b < H'.nxt → H'.get b = Y'.get b ∨ H'.get b = some .dead
  g0 : ∀ b, b < H.nxt → ¬ Te b → H'.get b = H.get b
  n' : H'.nxt = max H.nxt Y'.nxt
  l0 : H'.low ≤ H.low
  l1 : H'.low ≤ Y'.low ∨ H.nxt ≤ Y'.low
  kind : (kk ∧ ∀ b, b < H.nxt → Te b) ∨ ((∀ b, Te b → Y.owned b) ∧ ∀ b, b < H.nxt → Te b ∨ Y.get b = some .dead ∨ b < Y'.low)
  dn : ∀ b ∈ D, b < H.nxt ∨ H'.nxt ≤ b

structure Stp (F : Fs) (d : KD) (D g : List Nat) (E : Env) (H : AHeap) (E' : Env) (H' : AHeap) (Te : Nat → Prop) : Prop where
  ex : ∃ wd v Y Y' D', d.x.want E = some wd ∧ E' = d.x.put v E ∧ (wd = true → d.x.op.den F E Y = .v v Y') ∧ (wd = false → v = undefA ∧ Y' = Y) ∧ Mem (d.cls = .k) D' H H' Te Y Y' ∧ (d.cls = .r → D' = D ∨ ∀ b, b < H.nxt → Y.get b = some .dead) ∧ (d.cls = .z → ∀ b, b < H.nxt → Y.get b = some .dead)
  cz : d.cls = .z → (∀ b, ¬ Te b) ∧ H'.nxt = H.nxt
  cr : d.cls = .r → (∀ b, ¬ Te b) ∧ ∀ b ∈ D, b < H.nxt ∨ H'.nxt ≤ b
  cw : d.cls = .w → ∀ b, Te b → b ∈ g
end
end Go.Ab
