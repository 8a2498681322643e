/- A logic over an abstract memory, and that it is sound (8 of 9). -/
import Derived.Lib.Bytealg
import Derived.Handed
import Derived.ChangeSame
import Derived.Lib.LaidTab
import Derived.Test.YtjleffkdaiaknaaGreatDoorAb7
namespace Go.Ab
open Go
inductive KFn where
 | fn (K : KFun)
 | prim (φ : List AV → AHeap → ORes)
  | memo (rows : List (List AV × AV)) (K : KFun)
  | memoG (bs : List ABlk) (rows : List (List AV × AV)) (K : KFun)
  | ndet (K : KFun) (N : NCode)
  | cod (K : KFun) (φ : Fs → Env → AHeap → Res)
  | dfr (D : KDefn)
  | memH (rows : List HRow) (K : KFun) (φ : Fs → Env → AHeap → Res)
noncomputable section
def KFn.run (F : Fs) (k : KFn) : List AV → AHeap → ORes :=
 KFn.rec (motive := fun _ => List AV → AHeap → ORes) (fun K => K.run F) (fun φ => φ) (fun rows K args H => Option.rec (motive := fun _ => ORes) (K.run F args H) (fun v => .v v H) (lookM rows args))
  (fun bs rows K args H => Option.rec (motive := fun _ => ORes) (K.run F args H) (fun v => Bool.rec (motive := fun _ => ORes) (K.run F args H) (.v v H) (sameG bs H 0)) (lookM rows args))
  (fun K N => K.runN F N)
  (fun K φ args H => Option.rec (motive := fun _ => ORes) .fail (fun B => finish K.rs H (φ F ⟨.nil, B⟩ (H.withLow H.nxt))) (putArgs K.ps args K.T0)) (fun D => D.run F)
  (fun rows K φ args H => Option.rec (motive := fun _ => ORes) (Option.rec (motive := fun _ => ORes) .fail (fun B => finish K.rs H (φ F ⟨.nil, B⟩ (H.withLow H.nxt))) (putArgs K.ps args K.T0)) (fun r => .v r.v r.H') (lookH rows args H)) k
def fsN (T : BT KFn) (n : Nat) : Fs :=
 Nat.rec (motive := fun _ => Fs) (fun _ _ _ => .fail) (fun _ ih f args H => Option.rec (motive := fun _ => ORes) .fail (fun k => k.run ih args H) (T.get f)) n
inductive FnOk (P : Program) (dc : DCheck) (f : Nat) : KFn → Prop
 | fn {K : KFun} (h : K.ok P dc f = true) : FnOk P dc f (.fn K)
 | prim {φ : List AV → AHeap → ORes} (h : ∀ args H, FSnd P f args H (φ args H)) : FnOk P dc f (.prim φ)
 | ndet {K : KFun} {N : NCode} (h : K.okN P dc f N = true) : FnOk P dc f (.ndet K N)
 | cod {K : KFun} {φ : Fs → Env → AHeap → Res} (h : K.ok P dc f = true) (he : (fun F => K.body.den F) = φ) : FnOk P dc f (.cod K φ)
 | dfr {D : KDefn} (h : D.ok P dc f = true) : FnOk P dc f (.dfr D)
 | memoG {bs : List ABlk} {rows : List (List AV × AV)} {K : KFun} (h : K.ok P dc f = true) (hr : ∀ r, r ∈ rows → ∀ H, sameG bs H 0 = true → FSnd P f r.1 H (.v r.2 H)) : FnOk P dc f (.memoG bs rows K)
 | memo {rows : List (List AV × AV)} {K : KFun} (h : K.ok P dc f = true) (hr : ∀ r, r ∈ rows → ∀ H, FSnd P f r.1 H (.v r.2 H)) : FnOk P dc f (.memo rows K)
 | memH {rows : List HRow} {K : KFun} {φ : Fs → Env → AHeap → Res} (h : K.ok P dc f = true) (he : (fun F => K.body.den F) = φ) (hr : ∀ r, r ∈ rows → FSnd P f r.args r.H (.v r.v r.H')) : FnOk P dc f (.memH rows K φ)
def TabOk (P : Program) (dc : DCheck) (T : BT KFn) : Prop := ∀ f k, T.get f = some k → FnOk P dc f k
theorem fsN_ok {P : Program} {dc : DCheck} {T : BT KFn} (hD : ∀ F, FsOk P F → ∀ S n, DOk P S n F dc) (hT : TabOk P dc T) : ∀ n, FsOk P (fsN T n)
 | 0, f, args, H => trivial
 | n + 1, f, args, H => by
  show FSnd P f args H (Option.rec (motive := fun _ => ORes) .fail (fun k => k.run (fsN T n) args H) (T.get f))
  cases hk : T.get f with
  | none => trivial
  | some k =>
   cases hT f k hk with
   | fn hK => exact KFun.run_snd (fsN_ok hD hT n) (hD _ (fsN_ok hD hT n) _ _) hK args H
   | prim hφ => exact hφ args H
   | ndet hK => exact KFun.runN_snd (fsN_ok hD hT n) (hD _ (fsN_ok hD hT n) _ _) hK args H
   | dfr hK => exact KDefn.run_snd (fsN_ok hD hT n) (hD _ (fsN_ok hD hT n)) hK args H
   | @memoG bs rows K hK hr =>
    show FSnd P f args H (Option.rec (motive := fun _ => ORes) (K.run (fsN T n) args H) (fun v => Bool.rec (motive := fun _ => ORes) (K.run (fsN T n) args H) (.v v H) (sameG bs H 0)) (lookM rows args))
    have hrun := KFun.run_snd (fsN_ok hD hT n) (hD _ (fsN_ok hD hT n) _ _) hK args H
    cases hl : lookM rows args with
    | none => exact hrun
    | some v =>
     cases hs : sameG bs H 0 with
     | false => exact hrun
     | true => exact hr (args, v) (lookM_spec hl) H hs
   | cod hK he =>
    subst he
    exact KFun.run_snd (fsN_ok hD hT n) (hD _ (fsN_ok hD hT n) _ _) hK args H
   | @memH rows K φ hK he hr =>
    subst he
    show FSnd P f args H (Option.rec (motive := fun _ => ORes) (K.run (fsN T n) args H) (fun r => .v r.v r.H') (lookH rows args H))
    cases hl : lookH rows args H with
    | none => exact KFun.run_snd (fsN_ok hD hT n) (hD _ (fsN_ok hD hT n) _ _) hK args H
    | some r =>
     obtain ⟨h1, h2, h3⟩ := lookH_spec hl
     subst h2; subst h3
     exact hr r h1
   | @memo rows K hK hr =>
    show FSnd P f args H (Option.rec (motive := fun _ => ORes) (K.run (fsN T n) args H) (fun v => .v v H) (lookM rows args))
    cases hl : lookM rows args with
    | none => exact KFun.run_snd (fsN_ok hD hT n) (hD _ (fsN_ok hD hT n) _ _) hK args H
    | some v => exact hr (args, v) (lookM_spec hl) H
theorem TabOk.set {P : Program} {dc : DCheck} {T : BT KFn} (hT : TabOk P dc T) {f : Nat} {k : KFn} (hk : FnOk P dc f k) : TabOk P dc (T.set k f) := fun g j hg => by
 rw [BT.get_set] at hg
 split at hg
 · rename_i he
   subst he
   cases hx : T.get g with
   | none => rw [hx] at hg; cases hg
   | some y => rw [hx] at hg; cases hg; exact hk
 · exact hT g j hg
theorem HRow.snd {P : Program} {F : Fs} (hF : FsOk P F) {f : Nat} {r : HRow} (h : isRow r.v r.H' (F f r.args r.H) = true) : FSnd P f r.args r.H (.v r.v r.H') := by
 have := hF f r.args r.H
 rwa [isRow_eq h] at this
theorem rowsH_nil {P : Program} {f : Nat} : ∀ r, r ∈ ([] : List HRow) → FSnd P f r.args r.H (.v r.v r.H') := fun _ h => by cases h
theorem rowsH_cons {P : Program} {f : Nat} {q : HRow} {l : List HRow} (h : FSnd P f q.args q.H (.v q.v q.H')) (t : ∀ r, r ∈ l → FSnd P f r.args r.H (.v r.v r.H')) : ∀ r, r ∈ q :: l → FSnd P f r.args r.H (.v r.v r.H') := fun r hr => by
 rcases List.mem_cons.1 hr with rfl | hr
 · exact h
 · exact t r hr
inductive AllOk (P : Program) (dc : DCheck) : Nat → List KFn → Prop
 | nil (i : Nat) : AllOk P dc i []
 | cons {i : Nat} {k : KFn} {l : List KFn} (h : FnOk P dc i k) (t : AllOk P dc (i + 1) l) : AllOk P dc i (k :: l)
theorem AllOk.get {P : Program} {dc : DCheck} : ∀ {l : List KFn} {i j : Nat} {k : KFn}, AllOk P dc i l → l[j]? = some k → FnOk P dc (i + j) k
 | _, i, 0, k, .cons h t, hj => by simp at hj; subst hj; exact h
 | _, i, j + 1, k, .cons h t, hj => by
  have := AllOk.get t (j := j) (by simpa using hj)
  rwa [show i + (j + 1) = i + 1 + j by omega]
theorem AllOk.tab {P : Program} {dc : DCheck} {l : List KFn} {T : BT KFn} (h : AllOk P dc 0 l) (hT : T = BT.ofList l) : TabOk P dc T := fun f k hk => by
 rw [hT, BT.get_ofList] at hk
 have := AllOk.get h hk
 rwa [Nat.zero_add] at this
end
end Go.Ab
namespace Go.Ab
open Go
noncomputable section
def setC (H : AHeap) (b n : Nat) (t : BT AV) (w : Bool) (sp o : Nat) (v : AV) : AHeap := (H.upd b (.c n (t.set v o) w sp)).withLow H.low
theorem setC_get {H : AHeap} {b n : Nat} {t : BT AV} {w : Bool} {sp o : Nat} {v : AV} (hb : H.get b = some (.c n t w sp)) (c : Nat) : (setC H b n t w sp o v).get c = if c = b then some (.c n (t.set v o) w sp) else H.get c := by
 unfold setC
 rw [AHeap.get_withLow, AHeap.get_upd _ _ _ (AHeap.lt_of_get hb)]
 by_cases h : c = b
 · subst h; rw [if_pos rfl, if_pos rfl, hb]; rfl
 · rw [if_neg h, if_neg h]
theorem setC_owned {H : AHeap} {b n : Nat} {t : BT AV} {w : Bool} {sp o : Nat} {v : AV} (hb : H.get b = some (.c n t w sp)) (c : Nat) : (setC H b n t w sp o v).owned c ↔ H.owned c := by
 unfold AHeap.owned
 rw [setC_get hb]
 by_cases h : c = b
 · subst h
   rw [if_pos rfl, hb]
   constructor
   · rintro (⟨a, b, d, h⟩ | ⟨es, h⟩)
     · cases h; exact .inl ⟨_, _, _, rfl⟩
     · cases h
   · rintro (⟨a, b, d, h⟩ | ⟨es, h⟩)
     · cases h; exact .inl ⟨_, _, _, rfl⟩
     · cases h
 · rw [if_neg h]
theorem setC_dead {H : AHeap} {b n : Nat} {t : BT AV} {w : Bool} {sp o : Nat} {v : AV} (hb : H.get b = some (.c n t w sp)) (c : Nat) : (setC H b n t w sp o v).get c = some .dead ↔ H.get c = some .dead := by
 rw [setC_get hb]
 by_cases h : c = b
 · subst h; rw [if_pos rfl, hb]; constructor <;> intro h <;> cases h
 · rw [if_neg h]
theorem setC_alive {H : AHeap} {b n : Nat} {t : BT AV} {w : Bool} {sp o : Nat} {v : AV} (hb : H.get b = some (.c n t w sp)) (c : Nat) : (setC H b n t w sp o v).alive c ↔ H.alive c := by
 unfold AHeap.alive
 rw [setC_get hb]
 by_cases h : c = b
 · subst h
   rw [if_pos rfl, hb]
   constructor <;> rintro ⟨x, h, _⟩ <;> cases h <;> exact ⟨_, rfl, by simp⟩
 · rw [if_neg h]
theorem rel_setC {G : Nat} {e : Emb} {H : AHeap} {w : World} (hr : Rel G e H w) {b n : Nat} {t : BT AV} {wr : Bool} {sp o : Nat} (hb : H.get b = some (.c n t wr sp)) {v : AV} (hv : ∀ i C ty z v', e b = some i → w.heap[i.blk]? = some (.cells C ty z) → C[i.off + o]? = some v' → (∀ u, t.get o = some u → VRel e u v') → VRel e v v') : Rel G e (setC H b n t wr sp o v) w where
 lt := hr.lt
 bnd := hr.bnd
 glob := hr.glob
 obj := fun c i x hc hx => by
  rw [setC_get hb] at hx
  by_cases h : c = b
  · subst h
    rw [if_pos rfl] at hx
    cases hx
    obtain ⟨a1, a2, a3, C, ty, z, a4, a5, a6, a7⟩ := hr.obj c i _ hc hb
    refine ⟨a1, a2, a3, C, ty, z, a4, a5, a6, fun k hk => ?_⟩
    obtain ⟨u, v', q1, q2, q3⟩ := a7 k hk
    rw [BT.get_set]
    by_cases hko : k = o
    · subst hko
      rw [if_pos rfl, q1]
      exact ⟨v, v', rfl, q2, hv i C ty z v' hc a4 q2 (fun u' hu' => by rw [q1] at hu'; cases hu'; exact q3)⟩
    · rw [if_neg hko]; exact ⟨u, v', q1, q2, q3⟩
  · rw [if_neg h] at hx; exact hr.obj c i x hc hx
 sep := fun b1 i1 b2 i2 h1 h2 hne ho ha => hr.sep b1 i1 b2 i2 h1 h2 hne ((setC_owned hb _).1 ho) ((setC_alive hb _).1 ha)
theorem setC_back (t : BT AV) (o : Nat) (v u : AV) : (t.set v o).set u o = t.set u o := by
 have key : ∀ (t : BT AV) (o : Nat), (t.set v o).set u o = t.set u o := by
  intro t
  induction t with
  | lf => intro o; rfl
  | nd l x r il ir =>
   intro o
   rw [BT.set_nd, BT.set_nd]
   by_cases h0 : o = 0
   · rw [if_pos h0, if_pos h0, BT.set_nd, if_pos h0]
   · rw [if_neg h0, if_neg h0]
     by_cases h1 : o % 2 = 1
     · rw [if_pos h1, if_pos h1, BT.set_nd, if_neg h0, if_pos h1, il]
     · rw [if_neg h1, if_neg h1, BT.set_nd, if_neg h0, if_neg h1, ir]
 exact key t o
theorem split_snd {P : Program} {f : Nat} {args : List AV} {H : AHeap} {b n : Nat} {t : BT AV} {wr : Bool} {sp o k lo hi : Nat} {v : AV} (hb : H.get b = some (.c n t wr sp)) (ho : o < n) (ht : t.get o = some (.x (.rg k lo hi))) (hlh : lo ≤ hi)
  (hall : ∀ c, lo ≤ c → c ≤ hi → FSnd P f args (setC H b n t wr sp o (.i k c)) (.v v (setC H b n t wr sp o (.i k c)))) : FSnd P f args H (.v v H) := by
 intro e w args' hr ha
 obtain ⟨c, hc1, hc2, hk, hcv⟩ : ∃ c, lo ≤ c ∧ c ≤ hi ∧ (∀ i, e b = some i → k < 8 ∧ c < 2 ^ (kindOf k).bits) ∧ ∀ i C ty z v', e b = some i → w.heap[i.blk]? = some (.cells C ty z) → C[i.off + o]? = some v' → (∀ u, t.get o = some u → VRel e u v') → VRel e (.i k c) v' := by
  cases he : e b with
  | none => exact ⟨lo, Nat.le_refl _, hlh, fun i hi => (by cases hi), fun i C ty z v' hi => (by cases hi)⟩
  | some i =>
   obtain ⟨a1, a2, a3, C, ty, z, a4, a5, a6, a7⟩ := hr.obj b i _ he hb
   obtain ⟨u, v', q1, q2, q3⟩ := a7 o ho
   rw [ht] at q1
   cases q1
   cases q3 with
   | rg _ _ _ m hk hm h1 h2 =>
    refine ⟨m, h1, h2, fun _ _ => ⟨hk, hm⟩, fun i' C' ty' z' v'' hi' hC' hv' _ => ?_⟩
    cases hi'
    rw [a4] at hC'
    cases hC'
    rw [q2] at hv'
    cases hv'
    exact .i k m hk hm
 have hrc := rel_setC hr hb hcv
 have hback : ∀ (e2 : Emb) (w2 : World), (∀ i, e b = some i → e2 b = some i) → (∀ i, e2 b = some i → ∃ i, e b = some i) → Rel P.globals.size e2 (setC H b n t wr sp o (.i k c)) w2 → Rel P.globals.size e2 H w2 := by
  intro e2 w2 hex hold h2
  have h3 := rel_setC h2 (by rw [setC_get hb, if_pos rfl]) (o := o) (v := .x (.rg k lo hi)) (fun i C ty z v' hi' hC hv hrel => by
   have h4 := hrel (.i k c) (by rw [BT.get_set, if_pos rfl, ht]; rfl)
   obtain ⟨i0, hi0⟩ := hold i hi'
   obtain ⟨hk8, hcb⟩ := hk i0 hi0
   cases h4
   exact .rg k lo hi c hk8 hcb hc1 hc2)
  refine ⟨h2.lt, h2.bnd, h2.glob, fun d i x hd hx => ?_, fun b1 i1 b2 i2 q1 q2 hne ho ha => h2.sep b1 i1 b2 i2 q1 q2 hne ((setC_owned hb _).2 ho) ((setC_alive hb _).2 ha)⟩
  by_cases hdb : d = b
  · subst hdb
    rw [hb] at hx
    cases hx
    obtain ⟨a1, a2, a3, C, ty, z, a4, a5, a6, a7⟩ := h3.obj d i (.c n ((t.set (.i k c) o).set (.x (.rg k lo hi)) o) wr sp) hd (by rw [setC_get (by rw [setC_get hb, if_pos rfl]), if_pos rfl])
    refine ⟨a1, a2, a3, C, ty, z, a4, a5, a6, fun q hq => ?_⟩
    obtain ⟨u, v', q1, q2, q3⟩ := a7 q hq
    rw [setC_back, BT.get_set] at q1
    by_cases hqo : q = o
    · subst hqo
      rw [if_pos rfl, ht] at q1
      cases q1
      exact ⟨_, v', ht, q2, q3⟩
    · rw [if_neg hqo] at q1; exact ⟨u, v', q1, q2, q3⟩
  · exact h2.obj d i x hd (by rw [setC_get hb, if_neg hdb]; exact hx)
 have conv : ∀ e' w', Evo P.globals.size e (setC H b n t wr sp o (.i k c)) w e' (setC H b n t wr sp o (.i k c)) w' → Evo P.globals.size e H w e' H w' := by
  intro e' w' h
  refine ⟨hback e' w' (fun i hi => h.ext b i hi) (fun i hi => ?_) h.rel, h.ext, h.size, h.tape, h.os, h.out, Nat.le_refl _, Nat.le_refl _, fun _ _ _ => rfl, fun _ hd => hd, fun d i hd hi => ?_, fun B hB hf => h.frame B hB fun d i hd hi => ?_⟩
  · cases he : e b with
    | some j => exact ⟨j, rfl⟩
    | none =>
     have := (h.fresh b i he hi).1
     have h9 : b < H.nxt := AHeap.lt_of_get hb
     have h10 : (setC H b n t wr sp o (.i k c)).nxt = H.nxt := rfl
     omega
  · obtain ⟨q1, q2⟩ := h.fresh d i hd hi
    refine ⟨q1, q2.imp id ?_⟩
    rintro ⟨b0, i0, p1, p2, p3, p4⟩
    exact ⟨b0, i0, p1, p2, fun hdd => p3 ((setC_dead hb _).2 hdd), p4⟩
  · rcases hf d i hd hi with q | q
    · exact .inl ((setC_dead hb _).2 q)
    · exact .inr q
 rcases hall c hc1 hc2 e w args' hrc ha with ⟨h1, h2⟩ | ⟨u, w', h1, h2⟩
 · exact .inl ⟨h1, Calls.mono h2 fun E w' ⟨e', v', hE, hv, hev⟩ => ⟨e', v', hE, hv, conv e' w' hev⟩⟩
 · obtain ⟨e', v', hE, hv, hev⟩ := h2
   exact .inr ⟨u, w', h1, e', v', hE, hv, conv e' w' hev⟩
def plainRun (F : Fs) (K : KFun) (args : List AV) (H : AHeap) : Option AV :=
 Option.rec (motive := fun _ => Option AV) none (fun B =>
  Res.rec (motive := fun _ => Option AV) (fun en H' => Option.rec (motive := fun _ => Option AV) none (fun l => Bool.rec (motive := fun _ => Option AV) none (some (packA l)) (bAnd (okL H l) (Nat.ble H.nxt H'.low))) (evalR K.rs en H'))
   (fun _ _ _ => none) (fun en H' => Option.rec (motive := fun _ => Option AV) none (fun l => Bool.rec (motive := fun _ => Option AV) none (some (packA l)) (bAnd (okL H l) (Nat.ble H.nxt H'.low))) (evalR K.rs en H')) (fun _ _ => none) none
   (K.body.den F ⟨.nil, B⟩ (H.withLow H.nxt))) (putArgs K.ps args K.T0)
theorem plainRun_run {F : Fs} {K : KFun} {args : List AV} {H : AHeap} {v : AV} (h : plainRun F K args H = some v) : K.run F args H = .v v H := by
 unfold plainRun at h
 unfold KFun.run
 cases hB : putArgs K.ps args K.T0 with
 | none => rw [hB] at h; cases h
 | some B =>
  rw [hB] at h
  simp only at h ⊢
  have fin : ∀ en H', Option.rec (motive := fun _ => Option AV) none (fun l => Bool.rec (motive := fun _ => Option AV) none (some (packA l)) (bAnd (okL H l) (Nat.ble H.nxt H'.low))) (evalR K.rs en H') = some v → optL .fail (fun l => backV l H H') (evalR K.rs en H') = .v v H := by
   intro en H' h
   cases hl : evalR K.rs en H' with
   | none => rw [hl] at h; cases h
   | some l =>
    rw [hl] at h
    cases hc : bAnd (okL H l) (Nat.ble H.nxt H'.low) with
    | false => simp only [hc] at h; cases h
    | true =>
     simp only [hc] at h
     cases h
     rw [bAnd_iff] at hc
     show backV l H H' = _
     unfold backV
     rw [hc.1, hc.2]
  cases hr : K.body.den F ⟨.nil, B⟩ (H.withLow H.nxt) with
  | nrm en H' => rw [hr] at h; exact fin en H' h
  | ret en H' => rw [hr] at h; exact fin en H' h
  | ext => rw [hr] at h; cases h
  | pan => rw [hr] at h; cases h
  | fail => rw [hr] at h; cases h
def rgAt (t : BT AV) (o n : Nat) : Option (Nat × Nat × Nat × Nat) :=
 Nat.rec (motive := fun _ => Nat → Option (Nat × Nat × Nat × Nat)) (fun _ => none) (fun _ ih o => Option.rec (motive := fun _ => Option (Nat × Nat × Nat × Nat)) (ih (Nat.add o 1))
  (fun v => avX (ih (Nat.add o 1)) (fun u => AX.casesOn (motive_1 := fun _ => Option (Nat × Nat × Nat × Nat)) u none none none none none none (fun _ => none) (fun _ _ _ => none) (fun _ _ => none) (fun _ => none) (fun _ => none) (fun _ => none) (fun _ _ => none) (fun k lo hi => some (o, k, lo, hi)) (fun _ _ _ => none)) v) (t.get o)) n o
def allB (f : Nat → Bool) (lo m : Nat) : Bool := Nat.rec (motive := fun _ => Bool) true (fun i ih => bAnd (f (Nat.add lo i)) ih) m
theorem allB_spec {f : Nat → Bool} {lo : Nat} : ∀ {m : Nat}, allB f lo m = true → ∀ i, i < m → f (lo + i) = true
 | m + 1, h, i, hi => by
  have h' : bAnd (f (lo + m)) (allB f lo m) = true := h
  rw [bAnd_iff] at h'
  by_cases him : i = m
  · subst him; exact h'.1
  · exact allB_spec h'.2 i (by omega)
def isNo (r : ORes) : Bool := ORes.rec (motive := fun _ => Bool) (fun _ _ => false) (fun _ _ => false) true r
def atAll (K : KFun) (args : List AV) (H : AHeap) (b n : Nat) (t : BT AV) (wr : Bool) (sp : Nat) (p : Nat × Nat × Nat × Nat) : ORes :=
 Option.rec (motive := fun _ => ORes) .fail (fun v =>
  bif' .fail (bif' .fail (bif' .fail (.v v H) (allB (fun c => Option.rec (motive := fun _ => Bool) false (fun u => eqA v u) (plainRun (fun _ _ _ => .fail) K args (setC H b n t wr sp p.1 (.i p.2.1 c)))) p.2.2.1 (Nat.add (Nat.sub p.2.2.2 p.2.2.1) 1))) (Nat.ble p.2.2.1 p.2.2.2)) (Nat.ble (Nat.add p.1 1) n))
  (plainRun (fun _ _ _ => .fail) K args (setC H b n t wr sp p.1 (.i p.2.1 p.2.2.1)))
def pSplitA (K : KFun) (args : List AV) (H : AHeap) (v : AV) (r : ORes) : ORes :=
 Bool.rec (motive := fun _ => ORes) r (avSl .fail (fun b o len _ => blkC .fail (fun n t wr sp => Option.rec (motive := fun _ => ORes) .fail (fun p => Option.rec (motive := fun _ => ORes) .fail (fun u => avX .fail (fun u => AX.casesOn (motive_1 := fun _ => ORes) u .fail .fail .fail .fail .fail .fail (fun _ => .fail) (fun _ _ _ => .fail) (fun _ _ => .fail) (fun _ => .fail) (fun _ => .fail) (fun _ => .fail) (fun _ _ => .fail)
  (fun k lo hi => atAll K args H b n t wr sp (p.1, k, lo, hi)) (fun _ _ _ => .fail)) u) (t.get p.1)) (rgAt t o len)) (H.get b)) v) (isNo r)
def pSplit (K : KFun) (args : List AV) (H : AHeap) : ORes := List.rec (motive := fun _ => ORes) (K.run (fun _ _ _ => .fail) args H) (fun v _ ih => pSplitA K args H v ih) args
theorem pSplit_snd {P : Program} (hmix : P.follows .mixedOrders = true) {K : KFun} {f : Nat} (h : K.ok P dchk f = true) (args : List AV) (H : AHeap) : FSnd P f args H (pSplit K args H) := by
 have hF : FsOk P (fun _ _ _ => .fail) := fun _ _ _ => trivial
 have hrun : ∀ H, FSnd P f args H (K.run (fun _ _ _ => .fail) args H) := fun H => KFun.run_snd hF (dok hF hmix _ _) h args H
 have step : ∀ (v : AV) (r : ORes), FSnd P f args H r → FSnd P f args H (pSplitA K args H v r) := by
  intro v r hr
  unfold pSplitA
  cases hn : isNo r with
  | false => exact hr
  | true =>
   simp only
   cases v with
   | sl b o len cap =>
    simp only [avSl]
    cases hb : H.get b with
    | none => trivial
    | some x =>
     cases x with
     | c n t wr sp =>
      simp only [blkC]
      cases hp : rgAt t o len with
      | none => trivial
      | some p =>
       simp only
       cases ht : t.get p.1 with
       | none => trivial
       | some u =>
        cases u with
        | x u =>
         cases u with
         | rg k lo hi =>
          simp only [avX]
          unfold atAll
          cases hv : plainRun (fun _ _ _ => .fail) K args (setC H b n t wr sp p.1 (.i k lo)) with
          | none => trivial
          | some v =>
           simp only
           cases c1 : Nat.ble (Nat.add p.1 1) n with
           | false => trivial
           | true =>
            simp only [bif']
            cases c2 : Nat.ble lo hi with
            | false => trivial
            | true =>
             simp only
             cases c3 : allB (fun c => Option.rec (motive := fun _ => Bool) false (fun u => eqA v u) (plainRun (fun _ _ _ => .fail) K args (setC H b n t wr sp p.1 (.i k c)))) lo (Nat.add (Nat.sub hi lo) 1) with
             | false => trivial
             | true =>
              rw [ble_tt] at c1 c2
              refine split_snd hb (show p.1 < n from c1) ht c2 fun c h1 h2 => ?_
              have := allB_spec c3 (c - lo) (show c - lo < hi - lo + 1 by omega)
              rw [show lo + (c - lo) = c by omega] at this
              cases hq : plainRun (fun _ _ _ => .fail) K args (setC H b n t wr sp p.1 (.i k c)) with
              | none => rw [hq] at this; cases this
              | some u =>
               rw [hq] at this
               have hvu : v = u := eqA_eq this
               subst hvu
               rw [← plainRun_run hq]
               exact hrun _
         | _ => trivial
        | _ => trivial
     | _ => trivial
   | _ => trivial
 have all : ∀ l : List AV, FSnd P f args H (List.rec (motive := fun _ => ORes) (K.run (fun _ _ _ => .fail) args H) (fun v _ ih => pSplitA K args H v ih) l) := by
  intro l
  induction l with
  | nil => exact hrun H
  | cons v l ih => exact step v _ ih
 exact all args
end
end Go.Ab
namespace Go.Ab
open Go
noncomputable section
theorem Evo.still {G : Nat} {e : Emb} {H : AHeap} {w w' : World} (hr : Rel G e H w) (hs : w.heap.size ≤ w'.heap.size) (ht : w'.tape = w.tape) (hos : w'.os = w.os) (hout : w'.output = w.output) (hf : ∀ B, B < w.heap.size → w'.heap[B]? = w.heap[B]?) : Evo G e H w e H w' where
 rel := {
  lt := hr.lt
  bnd := fun b i hb => Nat.lt_of_lt_of_le (hr.bnd b i hb) hs
  glob := hr.glob
  obj := fun b i x hb hg => by rw [hf _ (hr.bnd b i hb)]; exact hr.obj b i x hb hg
  sep := hr.sep }
 ext := fun _ _ h => h
 size := hs
 tape := ht
 os := hos
 out := hout
 nxt := Nat.le_refl _
 low := Nat.le_refl _
 same := fun _ _ _ => rfl
 dead := fun _ h => h
 fresh := fun b i h1 h2 => by rw [h1] at h2; cases h2
 frame := fun B hB _ => hf B hB
mutual
inductive PlainV : AV → Prop
 | i (k n : Nat) : PlainV (.i k n)
 | b (v : Bool) : PlainV (.b v)
 | s (l c : Nat) : PlainV (.s l c)
 | nilp : PlainV (.x .nilp)
 | nils : PlainV (.x .nils)
 | nilm : PlainV (.x .nilm)
 | nilf : PlainV (.x .nilf)
 | nili : PlainV (.x .nili)
 | fl (n : Nat) : PlainV (.x (.fl n))
 | agg {l : List AV} (h : PlainVs l) : PlainV (.x (.agg l))
 | tup {l : List AV} (h : PlainVs l) : PlainV (.x (.tup l))
inductive PlainVs : List AV → Prop
 | nil : PlainVs []
 | cons {v : AV} {l : List AV} (h : PlainV v) (t : PlainVs l) : PlainVs (v :: l)
end
mutual
theorem PlainV.rel {e e' : Emb} : ∀ {v : AV} {v' : Value}, VRel e v v' → PlainV v → VRel e' v v'
 | _, _, .i k n hk hn, _ => .i k n hk hn
 | _, _, .b v, _ => .b v
 | _, _, .s l c hc, _ => .s l c hc
 | _, _, .nilp, _ => .nilp
 | _, _, .nils, _ => .nils
 | _, _, .nilm, _ => .nilm
 | _, _, .nilf, _ => .nilf
 | _, _, .nili, _ => .nili
 | _, _, .fl b, _ => .fl b
 | _, _, .agg l l' hl, .agg h => .agg l l' (PlainVs.rel hl h)
 | _, _, .tup l l' hl, .tup h => .tup l l' (PlainVs.rel hl h)
theorem PlainVs.rel {e e' : Emb} : ∀ {l : List AV} {l' : List Value}, VRels e l l' → PlainVs l → VRels e' l l'
 | _, _, .nil, _ => .nil
 | _, _, .cons hv ht, .cons h t => .cons (PlainV.rel hv h) (PlainVs.rel ht t)
end
theorem FSnd.reloc {P : Program} {f : Nat} {args : List AV} {v : AV} {H' : AHeap} (h : FSnd P f args (deads P.globals.size) (.v v H')) (ha : PlainVs args) (hv : PlainV v) (H : AHeap) : FSnd P f args H (.v v H) := by
 intro e w args' hr hargs
 have hrd : Rel P.globals.size (e.cut P.globals.size) (deads P.globals.size) w := {
  lt := fun b i hb => by exact (Emb.cut_some.1 hb).1
  bnd := fun b i hb => hr.bnd b i (Emb.cut_some.1 hb).2
  glob := fun g hg => by
   obtain ⟨i, hi, q⟩ := hr.glob g hg
   exact ⟨i, Emb.cut_some.2 ⟨hg, hi⟩, q⟩
  obj := fun b i x hb hg => by
   rw [deads_get _ _ (Emb.cut_some.1 hb).1] at hg
   cases hg; trivial
  sep := fun b1 i1 b2 i2 h1 h2 hne ho ha => by
   have := deads_get _ _ (Emb.cut_some.1 h1).1
   rcases ho with ⟨n, t, sp, q⟩ | ⟨es, q⟩ <;> rw [this] at q <;> cases q }
 have := h (e.cut P.globals.size) w args' hrd (PlainVs.rel hargs ha)
 have conv : ∀ E w', (∃ e' v', E = Ending.returned v' ∧ VRel e' v v' ∧ Evo P.globals.size (e.cut P.globals.size) (deads P.globals.size) w e' H' w') → ∃ e' v', E = Ending.returned v' ∧ VRel e' v v' ∧ Evo P.globals.size e H w e' H w' := by
  rintro E w' ⟨e', v', hE, q1, q2⟩
  refine ⟨e, v', hE, PlainV.rel q1 hv, Evo.still hr q2.size q2.tape q2.os q2.out fun B hB => q2.frame B hB fun b i hb _ => .inl (deads_get _ _ (Emb.cut_some.1 hb).1)⟩
 rcases this with ⟨h1, h2⟩ | ⟨v1, w1, h1, h2⟩
 · exact .inl ⟨h1, Calls.mono h2 conv⟩
 · exact .inr ⟨v1, w1, h1, conv _ _ h2⟩
def isV (f : AV → Bool) (r : ORes) : Bool := ORes.rec (motive := fun _ => Bool) (fun v _ => f v) (fun _ _ => false) false r
theorem FSnd.row {P : Program} {F : Fs} (hF : FsOk P F) {f : Nat} {args : List AV} {v : AV} {r : ORes} (hr : F f args (deads P.globals.size) = r) (hv : ∃ H', r = .v v H') (ha : PlainVs args) (hp : PlainV v) (H : AHeap) : FSnd P f args H (.v v H) := by
 obtain ⟨H', rfl⟩ := hv
 have := hF f args (deads P.globals.size)
 rw [hr] at this
 exact this.reloc ha hp H
def outV (r : ORes) : Option AV := ORes.rec (motive := fun _ => Option AV) (fun v _ => some v) (fun _ _ => none) none r
theorem FSnd.row' {P : Program} {F : Fs} (hF : FsOk P F) {f : Nat} {args : List AV} {v : AV} (hr : outV (F f args (deads P.globals.size)) = some v) (ha : PlainVs args) (hp : PlainV v) (H : AHeap) : FSnd P f args H (.v v H) := by
 cases hx : F f args (deads P.globals.size) with
 | v u H' =>
  rw [hx] at hr
  cases hr
  exact FSnd.row hF hx ⟨H', rfl⟩ ha hp H
 | _ => rw [hx] at hr; cases hr
theorem rows_nil {P : Program} {f : Nat} : ∀ r, r ∈ ([] : List (List AV × AV)) → ∀ H, FSnd P f r.1 H (.v r.2 H) := fun _ h => by cases h
theorem rows_cons {P : Program} {f : Nat} {a : List AV} {v : AV} {l : List (List AV × AV)} (h : ∀ H, FSnd P f a H (.v v H)) (t : ∀ r, r ∈ l → ∀ H, FSnd P f r.1 H (.v r.2 H)) : ∀ r, r ∈ (a, v) :: l → ∀ H, FSnd P f r.1 H (.v r.2 H) := fun r hr => by
 rcases List.mem_cons.1 hr with rfl | hr
 · exact h
 · exact t r hr
def heapOf (bs : List ABlk) : AHeap := ⟨BT.ofList bs.reverse, bs.length, bs.length⟩
theorem heapOf_get (bs : List ABlk) (b : Nat) : (heapOf bs).get b = bs[b]? := by
 rw [AHeap.get_eq]
 show (if b < bs.length then (BT.ofList bs.reverse).get (bs.length - 1 - b) else none) = _
 by_cases h : b < bs.length
 · rw [if_pos h, BT.get_ofList, List.getElem?_reverse (by omega)]
   congr 1; omega
 · rw [if_neg h, List.getElem?_eq_none (by omega)]
def allBT (f : AV → Bool) (t : BT AV) : Bool := BT.rec (motive := fun _ => Bool) true (fun _ v _ il ir => bif' false (bif' false ir il) (f v)) t
theorem allBT_spec {f : AV → Bool} : ∀ {t : BT AV}, allBT f t = true → ∀ j v, t.get j = some v → f v = true
 | .lf, _, j, v, h => by simp at h
 | .nd l x r, h, j, v, hv => by
  obtain ⟨h1, h2⟩ := bif_tt (show bif' false (bif' false (allBT f r) (allBT f l)) (f x) = true from h)
  obtain ⟨h3, h4⟩ := bif_tt h1
  rw [BT.get_nd] at hv
  split at hv
  · cases hv; exact h2
  · split at hv
    · exact allBT_spec h4 _ v hv
    · exact allBT_spec h3 _ v hv
def tabsOk (bs : List ABlk) : Bool := bs.all fun x => match x with
 | .c _ t w _ => !w && allBT plainA t
 | .m _ => false
 | .dead => true
theorem FSnd.relocG {P : Program} {f : Nat} {args : List AV} {v : AV} {H' : AHeap} {bs : List ABlk} (h : FSnd P f args (heapOf bs) (.v v H')) (hlen : bs.length = P.globals.size) (hb : tabsOk bs = true) (hlow : P.globals.size ≤ H'.low) (ha : PlainVs args) (hv : PlainV v) (H : AHeap) (hs : sameG bs H 0 = true) : FSnd P f args H (.v v H) := by
 intro e w args' hr hargs
 have htab : ∀ (b : Nat) (x : ABlk), bs[b]? = some x → x = .dead ∨ ∃ n t sp, x = .c n t false sp ∧ allBT plainA t = true := fun b x hx => by
  have := List.all_eq_true.1 hb x (List.mem_of_getElem? hx)
  cases x with
  | c n t w sp =>
   simp only [Bool.and_eq_true, Bool.not_eq_true'] at this
   obtain ⟨rfl, q⟩ := this
   exact .inr ⟨n, t, sp, rfl, q⟩
  | m es => cases this
  | dead => exact .inl rfl
 have hrd : Rel P.globals.size (e.cut P.globals.size) (heapOf bs) w := {
  lt := fun b i hb => by
   have := (Emb.cut_some.1 hb).1
   show b < bs.length
   omega
  bnd := fun b i hb => hr.bnd b i (Emb.cut_some.1 hb).2
  glob := fun g hg => by
   obtain ⟨i, hi, q⟩ := hr.glob g hg
   exact ⟨i, Emb.cut_some.2 ⟨hg, hi⟩, q⟩
  obj := fun b i x hb hg => by
   rw [heapOf_get] at hg
   have hH := sameG_spec hs b x hg
   rw [Nat.zero_add] at hH
   have ho := hr.obj b i x (Emb.cut_some.1 hb).2 hH
   rcases htab b x hg with rfl | ⟨n, t, sp, rfl, hp⟩
   · trivial
   · obtain ⟨a, b, c, C, ty, z, d, f, g, k⟩ := ho
     refine ⟨a, b, c, C, ty, z, d, f, g, fun j hj => ?_⟩
     obtain ⟨u, u', q1, q2, q3⟩ := k j hj
     exact ⟨u, u', q1, q2, plainA_rel q3 (allBT_spec hp j u q1)⟩
  sep := fun b1 i1 b2 i2 h1 h2 hne ho ha => by
   rcases ho with ⟨n, t, sp, q⟩ | ⟨es, q⟩ <;> rw [heapOf_get] at q <;> rcases htab b1 _ q with r | ⟨_, _, _, r, _⟩ <;> cases r }
 have := h (e.cut P.globals.size) w args' hrd (PlainVs.rel hargs ha)
 have conv : ∀ E w', (∃ e' v', E = Ending.returned v' ∧ VRel e' v v' ∧ Evo P.globals.size (e.cut P.globals.size) (heapOf bs) w e' H' w') → ∃ e' v', E = Ending.returned v' ∧ VRel e' v v' ∧ Evo P.globals.size e H w e' H w' := by
  rintro E w' ⟨e', v', hE, q1, q2⟩
  refine ⟨e, v', hE, PlainV.rel q1 hv, Evo.still hr q2.size q2.tape q2.os q2.out fun B hB => q2.frame B hB fun b i hb _ => .inr ?_⟩
  have := (Emb.cut_some.1 hb).1
  omega
 rcases this with ⟨h1, h2⟩ | ⟨v1, w1, h1, h2⟩
 · exact .inl ⟨h1, Calls.mono h2 conv⟩
 · exact .inr ⟨v1, w1, h1, conv _ _ h2⟩
def outG (N : Nat) (r : ORes) : Option AV := ORes.rec (motive := fun _ => Option AV) (fun v H => Bool.rec (motive := fun _ => Option AV) none (some v) (Nat.ble N H.low)) (fun _ _ => none) none r
theorem FSnd.rowG {P : Program} {F : Fs} (hF : FsOk P F) {f : Nat} {args : List AV} {v : AV} {bs : List ABlk} (hlen : bs.length = P.globals.size) (hb : tabsOk bs = true) (hr : outG bs.length (F f args (heapOf bs)) = some v) (ha : PlainVs args) (hp : PlainV v) (H : AHeap) (hs : sameG bs H 0 = true) : FSnd P f args H (.v v H) := by
 cases hx : F f args (heapOf bs) with
 | v u H' =>
  rw [hx] at hr
  have hr' : Bool.rec (motive := fun _ => Option AV) none (some u) (Nat.ble bs.length H'.low) = some v := hr
  cases hl : Nat.ble bs.length H'.low with
  | false => rw [hl] at hr'; cases hr'
  | true =>
   rw [hl] at hr'
   cases hr'
   have h0 := hF f args (heapOf bs)
   rw [hx] at h0
   exact h0.relocG hlen hb (by rw [← hlen]; exact Nat.le_of_ble_eq_true hl) ha hp H hs
 | _ => rw [hx] at hr; cases hr
theorem rowsG_nil {P : Program} {bs : List ABlk} {f : Nat} : ∀ r, r ∈ ([] : List (List AV × AV)) → ∀ H, sameG bs H 0 = true → FSnd P f r.1 H (.v r.2 H) := fun _ h => by cases h
theorem rowsG_cons {P : Program} {bs : List ABlk} {f : Nat} {a : List AV} {v : AV} {l : List (List AV × AV)} (h : ∀ H, sameG bs H 0 = true → FSnd P f a H (.v v H)) (t : ∀ r, r ∈ l → ∀ H, sameG bs H 0 = true → FSnd P f r.1 H (.v r.2 H)) : ∀ r, r ∈ (a, v) :: l → ∀ H, sameG bs H 0 = true → FSnd P f r.1 H (.v r.2 H) := fun r hr => by
 rcases List.mem_cons.1 hr with rfl | hr
 · exact h
 · exact t r hr
end
end Go.Ab
namespace Go.Ab
open Go
noncomputable section
def bad : AV := .x .bad
def kWithinG (M h : Nat) : KFun := ⟨17, (.nd (.nd (.nd .lf 4 .lf) 5 .lf) 1 (.nd .lf 0 .lf)), (.nd (.nd (.nd .lf bad .lf) bad .lf) bad (.nd .lf bad .lf)), [(.rgt .top), .top],
 (.seq (.reg [.p (.lft (.lft .top)) (.move (.c (.i 3 0)))]) (.seq (.seq (.reg [.l 6 (.move (.va .top)), .l 7 (.bin .lt 3 M h (.t 6) (.c (.i 3 1)))]) (.cond (.t 7) (.seq (.reg [.p (.lft (.lft .top)) (.move (.c (.i 3 0)))]) .ret) .skip)) (.seq (.reg [.l 8 (.move (.va (.rgt .top))), .l 9 (.move (.va .top)), .l 10 (.bin .rem 3 M h (.t 8) (.t 9)), .p (.lft .top) (.move (.t 10))]) (.seq (.seq (.reg [.l 11 (.move (.va (.lft .top))), .l 12 (.bin .lt 3 M h (.t 11) (.c (.i 3 0)))]) (.cond (.t 12) (.reg [.l 13 (.move (.va (.lft .top))), .l 14 (.move (.va .top)), .l 15 (.bin .add 3 M h (.t 13) (.t 14)), .p (.lft .top) (.move (.t 15))]) .skip)) (.seq (.reg [.l 16 (.move (.va (.lft .top))), .p (.lft (.lft .top)) (.move (.t 16))]) .ret))))),
 [.one (.va (.lft (.lft .top)))]⟩
def kWithin : KFun := kWithinG 18446744073709551616 9223372036854775808
section
variable {F : Fs} {en : Env} {H : AHeap}
theorem den_seq (a b : KCode) : (KCode.seq a b).den F en H = rSeq (a.den F en H) (b.den F) := rfl
theorem den_reg (l : List KE) : (KCode.reg l).den F en H = runE F l ⟨.nil, en.B⟩ H := rfl
theorem den_cond (c : KO) (a b : KCode) : (KCode.cond c a b).den F en H = avB .fail (fun t => Bool.rec (motive := fun _ => Res) (b.den F en H) (a.den F en H) t) (c.den en) := rfl
theorem den_cond_t {c : KO} {a b : KCode} (h : c.den en = .b true) : (KCode.cond c a b).den F en H = a.den F en H := by rw [den_cond, h]; rfl
theorem den_cond_f {c : KO} {a b : KCode} (h : c.den en = .b false) : (KCode.cond c a b).den F en H = b.den F en H := by rw [den_cond, h]; rfl
theorem den_skip : KCode.skip.den F en H = .nrm en H := rfl
theorem den_ret : KCode.ret.den F en H = .ret en H := rfl
theorem rSeq_nrm (f : Env → AHeap → Res) : rSeq (.nrm en H) f = f en H := rfl
theorem rSeq_ret (f : Env → AHeap → Res) : rSeq (.ret en H) f = .ret en H := rfl
theorem runE_nil : runE F [] en H = .nrm en H := rfl
theorem runE_l (d : Nat) (k : KOp) (l : List KE) : runE F (.l d k :: l) en H = oRes (k.den F en H) (fun v H' => runE F l ⟨.cons d v en.loc, en.B⟩ H') := rfl
theorem runE_p (d : VP) (k : KOp) (l : List KE) : runE F (.p d k :: l) en H = oRes (k.den F en H) (fun v H' => runE F l ⟨en.loc, d.put v en.B⟩ H') := rfl
theorem den_move (x : KO) : (KOp.move x).den F en H = .v (x.den en) H := rfl
theorem oRes_v (v : AV) (f : AV → AHeap → Res) : oRes (.v v H) f = f v H := rfl
theorem den_bin (b : KBin) (k M h : Nat) (x y : KO) {n m : Nat} (hx : x.den en = .i k n) (hy : y.den en = .i k m) {v : AV} (hv : b.den k M h n m = some v) : (KOp.bin b k M h x y).den F en H = .v v H := by
 show opBinG k (b.den k M h) (b.rng k M h) x.den y.den en H = _
 unfold opBinG
 rw [hx, hy]
 show bif' .fail (bif' .fail (optE .fail (fun v => ORes.v v H) (b.den k M h n m)) (Nat.beq k k)) (Nat.beq k k) = _
 rw [hv, Nat.beq_refl]
 rfl
end
def wdR (n m : Nat) : Nat := if n < 9223372036854775808 then n % m else (18446744073709551616 - (18446744073709551616 - n) % m) % 18446744073709551616
def wdN (n m : Nat) : Nat := if wdR n m < 9223372036854775808 then wdR n m else (wdR n m + m) % 18446744073709551616
theorem rem_wd (n m : Nat) (h1 : 1 ≤ m) (h2 : m < 9223372036854775808) : iRem 3 18446744073709551616 9223372036854775808 n m = some (.i 3 (wdR n m)) := by
 unfold iRem
 rw [brec, if_neg (by rw [beq_tt]; omega), brec]
 simp only [ble_tt]
 rw [absD_eq, absD_eq, if_pos h2]
 unfold wdR
 by_cases h : n < 9223372036854775808
 · rw [if_pos (show n + 1 ≤ 9223372036854775808 from h), if_pos h, if_pos h]; rfl
 · rw [if_neg (show ¬ n + 1 ≤ 9223372036854775808 from h), if_neg h, if_neg h]; rfl
theorem lt_wd (n m : Nat) (hn : n < 18446744073709551616) (hm : m < 9223372036854775808) : iLt 18446744073709551616 9223372036854775808 n m = some (.b (decide (9223372036854775808 ≤ n ∨ n < m))) := by
 have he : (Nat.ble ((n + 9223372036854775808) % 18446744073709551616 + 1) ((m + 9223372036854775808) % 18446744073709551616) = true) ↔ (9223372036854775808 ≤ n ∨ n < m) := by
  rw [ble_tt]; omega
 have hb : Nat.ble ((n + 9223372036854775808) % 18446744073709551616 + 1) ((m + 9223372036854775808) % 18446744073709551616) = decide (9223372036854775808 ≤ n ∨ n < m) := by
  rw [Bool.eq_iff_iff, he, decide_eq_true_iff]
 exact congrArg (fun b => some (AVp.b b)) hb
theorem wdR_lt (n m : Nat) (h1 : 1 ≤ m) (h2 : m < 9223372036854775808) : wdR n m < 18446744073709551616 := by
 unfold wdR
 have := Nat.mod_lt n (show 0 < m from h1)
 split <;> omega
theorem within_runG (F : Fs) (H : AHeap) (M h n m r : Nat) (s : Bool) (c1 : KBin.lt.den 3 M h m 1 = some (.b false)) (c2 : KBin.rem.den 3 M h n m = some (.i 3 r)) (c3 : KBin.lt.den 3 M h r 0 = some (.b s)) :
  (kWithinG M h).run F [.i 3 n, .i 3 m] H = .v (.i 3 (if s = true then Nat.mod (Nat.add r m) M else r)) H := by
 have body : ∃ en, (kWithinG M h).body.den F ⟨.nil, .nd (.nd (.nd .lf bad .lf) bad .lf) (.i 3 m) (.nd .lf (.i 3 n) .lf)⟩ (H.withLow H.nxt) = .ret en (H.withLow H.nxt) ∧ evalR (kWithinG M h).rs en (H.withLow H.nxt) = some [.i 3 (if s = true then Nat.mod (Nat.add r m) M else r)] := by
  unfold kWithinG
  simp only [den_seq, den_reg, runE_p, den_move, oRes_v, runE_nil, rSeq_nrm, runE_l]
  rw [den_bin (n := m) (m := 1) (hx := rfl) (hy := rfl) (hv := c1)]
  simp only [oRes_v, rSeq_nrm]
  rw [den_cond_f rfl]
  simp only [den_skip, rSeq_nrm, den_seq, den_reg, runE_l, runE_p, den_move, oRes_v]
  rw [den_bin (n := n) (m := m) (hx := rfl) (hy := rfl) (hv := c2)]
  simp only [oRes_v, runE_nil, rSeq_nrm, den_seq, den_reg, runE_l, den_move]
  rw [den_bin (n := r) (m := 0) (hx := rfl) (hy := rfl) (hv := c3)]
  simp only [oRes_v, rSeq_nrm]
  cases s with
  | true =>
   have c4 : KBin.add.den 3 M h r m = some (.i 3 (Nat.mod (Nat.add r m) M)) := rfl
   rw [den_cond_t rfl]
   simp only [den_reg, runE_l, runE_p, den_move, oRes_v]
   rw [den_bin (n := r) (m := m) (hx := rfl) (hy := rfl) (hv := c4)]
   exact ⟨_, rfl, rfl⟩
  | false =>
   rw [den_cond_f rfl]
   exact ⟨_, rfl, rfl⟩
 obtain ⟨en, body, res⟩ := body
 have hrun : (kWithinG M h).run F [.i 3 n, .i 3 m] H = finish (kWithinG M h).rs H ((kWithinG M h).body.den F ⟨.nil, .nd (.nd (.nd .lf bad .lf) bad .lf) (.i 3 m) (.nd .lf (.i 3 n) .lf)⟩ (H.withLow H.nxt)) := rfl
 rw [hrun, body]
 show optL .fail (fun l => backV l H (H.withLow H.nxt)) (evalR (kWithinG M h).rs en (H.withLow H.nxt)) = _
 rw [res]
 show backV [.i 3 (if s = true then Nat.mod (Nat.add r m) M else r)] H (H.withLow H.nxt) = _
 unfold backV
 have : Nat.ble H.nxt (H.withLow H.nxt).low = true := by rw [ble_tt]; exact Nat.le_refl _
 rw [this]
 rfl
theorem within_run (F : Fs) (H : AHeap) (n m : Nat) (h1 : 1 ≤ m) (h2 : m < 9223372036854775808) : kWithin.run F [.i 3 n, .i 3 m] H = .v (.i 3 (wdN n m)) H := by
 have hr := wdR_lt n m h1 h2
 have c1 : KBin.lt.den 3 18446744073709551616 9223372036854775808 m 1 = some (.b false) := by
  have : ¬ (9223372036854775808 ≤ m ∨ m < 1) := by omega
  have h := lt_wd m 1 (by omega) (by omega)
  rw [decide_eq_false this] at h
  exact h
 have c2 : KBin.rem.den 3 18446744073709551616 9223372036854775808 n m = some (.i 3 (wdR n m)) := rem_wd n m h1 h2
 have c3 : KBin.lt.den 3 18446744073709551616 9223372036854775808 (wdR n m) 0 = some (.b (decide (9223372036854775808 ≤ wdR n m ∨ wdR n m < 0))) := lt_wd _ 0 hr (by omega)
 have := within_runG F H _ _ n m _ _ c1 c2 c3
 unfold kWithin
 rw [this]
 have hv : (if decide (9223372036854775808 ≤ wdR n m ∨ wdR n m < 0) = true then Nat.mod (Nat.add (wdR n m) m) 18446744073709551616 else wdR n m) = wdN n m := by
  unfold wdN
  by_cases hs : wdR n m < 9223372036854775808
  · have hd : ¬ (9223372036854775808 ≤ wdR n m ∨ wdR n m < 0) := by omega
    rw [if_pos hs, decide_eq_false hd, if_neg (by simp)]
  · have hd : 9223372036854775808 ≤ wdR n m ∨ wdR n m < 0 := by omega
    rw [if_neg hs, decide_eq_true hd, if_pos rfl]
    rfl
 rw [hv]
theorem wd_emod (n m : Nat) (hn : n < 18446744073709551616) (h1 : 1 ≤ m) (h2 : m < 9223372036854775808) : ((kindOf 3).wrap (n : Int)) % (m : Int) = (wdN n m : Int) ∧ wdN n m < m := by
 have hw : (kindOf 3).wrap (n : Int) = if n < 9223372036854775808 then (n : Int) else (n : Int) - 18446744073709551616 := by
  show IntKind.i64.wrap (n : Int) = _
  unfold IntKind.wrap
  have hb : (2 : Int) ^ IntKind.i64.bits = 18446744073709551616 := by decide
  have hb2 : (2 : Int) ^ (IntKind.i64.bits - 1) = 9223372036854775808 := by decide
  have hs : IntKind.i64.signed = true := rfl
  simp only [hb, hb2, hs]
  have : ((n : Int) % 18446744073709551616) = n := by omega
  rw [this]
  by_cases h : n < 9223372036854775808
  · rw [if_pos h, if_neg (by simp; omega)]
  · rw [if_neg h, if_pos (by simp; omega)]
 rw [hw]
 have hml := Nat.mod_lt n (show 0 < m from h1)
 have hml2 := Nat.mod_lt (18446744073709551616 - n) (show 0 < m from h1)
 by_cases h : n < 9223372036854775808
 · have hR : wdR n m = n % m := by unfold wdR; rw [if_pos h]
   have hN : wdN n m = n % m := by unfold wdN; rw [hR, if_pos (by omega)]
   rw [if_pos h, hN]
   exact ⟨(Int.natCast_emod n m).symm, hml⟩
 · rw [if_neg h]
   have hz : (n : Int) - 18446744073709551616 = -((18446744073709551616 - n : Nat) : Int) := by omega
   rw [hz]
   generalize hq : 18446744073709551616 - n = q at *
   have hR : wdR n m = (18446744073709551616 - q % m) % 18446744073709551616 := by unfold wdR; rw [if_neg h, hq]
   have hqd := Nat.div_add_mod q m
   by_cases h0 : q % m = 0
   · have hR0 : wdR n m = 0 := by rw [hR, h0]
     have hN : wdN n m = 0 := by unfold wdN; rw [hR0]; rfl
     rw [hN]
     refine ⟨?_, by omega⟩
     rw [Int.neg_emod, if_pos]
     · rfl
     · exact Int.natCast_dvd_natCast.2 (Nat.dvd_of_mod_eq_zero h0)
   · have hR1 : wdR n m = 18446744073709551616 - q % m := by rw [hR, Nat.mod_eq_of_lt (by omega)]
     have hN : wdN n m = m - q % m := by
      unfold wdN
      rw [hR1, if_neg (by omega)]
      omega
     rw [hN]
     refine ⟨?_, by omega⟩
     have hnd : ¬ ((m : Int) ∣ (q : Int)) := fun hd => h0 (Nat.mod_eq_zero_of_dvd (Int.natCast_dvd_natCast.1 hd))
     rw [Int.neg_emod, if_neg hnd, Int.natAbs_natCast, ← Int.natCast_emod]
     omega
def pWithin (args : List AV) (H : AHeap) : ORes :=
 List.rec (motive := fun _ => ORes) .fail (fun a l _ => List.rec (motive := fun _ => ORes) .fail (fun b l2 _ => List.rec (motive := fun _ => ORes)
  (avI .fail (fun k m => bif' .fail (bif' .fail (bif' .fail
   (AVp.rec (motive := fun _ => ORes) (fun k2 n => bif' .fail (bif' .fail (.v (.i 3 (Nat.mod n m)) H) (Nat.ble (Nat.add n 1) 9223372036854775808)) (Nat.beq k2 3)) (fun _ => .fail) (fun _ _ => .fail) (fun _ _ => .fail) (fun _ _ _ _ => .fail)
    (fun u => AX.casesOn (motive_1 := fun _ => ORes) u .fail .fail .fail .fail .fail .fail (fun _ => .fail) (fun _ _ _ => .fail) (fun _ _ => .fail) (fun _ => .fail) (fun _ => .fail) (fun _ => .fail)
     (fun q r => Bool.rec (motive := fun _ => ORes) (bif' .fail (.v (.x (.rg 3 (Nat.div r 65536) (Nat.mod r 65536))) H) (Nat.beq q m)) (bif' .fail (.v (.i 3 (Nat.mod (Nat.div r 65536) m)) H) (Nat.beq (Nat.mod q m) 0)) (Nat.beq (Nat.div r 65536) (Nat.mod r 65536)))
     (fun k2 _ _ => bif' .fail (.v (.x (.rg 3 0 (Nat.sub m 1))) H) (Nat.beq k2 3)) (fun _ _ _ => .fail)) a)
   (Nat.ble (Nat.add m 1) 9223372036854775808)) (Nat.ble 1 m)) (Nat.beq k 3)) b) (fun _ _ _ => .fail) l2) l) args
theorem pWithin_of {K : KFun} (hK : ∀ (F : Fs) (H : AHeap) (n m : Nat), 1 ≤ m → m < 9223372036854775808 → K.run F [.i 3 n, .i 3 m] H = .v (.i 3 (wdN n m)) H) {P : Program} (hmix : P.follows .mixedOrders = true) {f : Nat} (hk : K.ok P dchk f = true) (args : List AV) (H : AHeap) : FSnd P f args H (pWithin args H) := by
 have hF : FsOk P (fun _ _ _ => .fail) := fun _ _ _ => trivial
 have run : ∀ n m, 1 ≤ m → m < 9223372036854775808 → FSnd P f [.i 3 n, .i 3 m] H (.v (.i 3 (wdN n m)) H) := fun n m h1 h2 => by
  have h0 := KFun.run_snd (K := K) hF (dok hF hmix K.S K.n) hk
  have h3 := h0 [.i 3 n, .i 3 m] H
  rw [hK _ H n m h1 h2] at h3
  exact h3
 have turn : ∀ (a v : AV) m, 1 ≤ m → m < 9223372036854775808 → (∀ e v', VRel e a v' → ∃ n, n < 18446744073709551616 ∧ VRel e (.i 3 n) v' ∧ ∀ e' u, VRel e' (.i 3 (wdN n m)) u → VRel e' v u) → FSnd P f [a, .i 3 m] H (.v v H) := fun a v m h1 h2 ht => by
  intro e w args' hr hargs
  cases hargs with
  | cons ha hl =>
   obtain ⟨n, hn, hi, hv⟩ := ht e _ ha
   have conv : ∀ E w', (∃ e' v', E = Ending.returned v' ∧ VRel e' (.i 3 (wdN n m)) v' ∧ Evo P.globals.size e H w e' H w') → ∃ e' v', E = Ending.returned v' ∧ VRel e' v v' ∧ Evo P.globals.size e H w e' H w' := by
    rintro E w' ⟨e', v', q1, q2, q3⟩
    exact ⟨e', v', q1, hv e' v' q2, q3⟩
   rcases run n m h1 h2 e w _ hr (.cons hi hl) with ⟨q1, q2⟩ | ⟨v1, w1, q1, q2⟩
   · exact .inl ⟨q1, Calls.mono q2 conv⟩
   · exact .inr ⟨v1, w1, q1, conv _ _ q2⟩
 have hb : 2 ^ (kindOf 3).bits = 18446744073709551616 := by decide
 have fit : ∀ {n}, n < 2 ^ (kindOf 3).bits → n < 18446744073709551616 := fun h => by rw [hb] at h; exact h
 unfold pWithin
 cases args with
 | nil => trivial
 | cons a l =>
 cases l with
 | nil => trivial
 | cons b l =>
 cases l with
 | cons => trivial
 | nil =>
 cases b with
 | i k m =>
  simp only [avI, bif']
  cases c1 : Nat.beq k 3 with
  | false => trivial
  | true =>
  have hk3 : k = 3 := Nat.eq_of_beq_eq_true c1
  subst hk3
  cases c2 : Nat.ble 1 m with
  | false => trivial
  | true =>
  have h1 : 1 ≤ m := Nat.le_of_ble_eq_true c2
  cases c3 : Nat.ble (Nat.add m 1) 9223372036854775808 with
  | false => trivial
  | true =>
  have h2 : m < 9223372036854775808 := Nat.le_of_ble_eq_true c3
  cases a with
  | i k2 n =>
   simp only
   cases c4 : Nat.beq k2 3 with
   | false => trivial
   | true =>
   have hk2 : k2 = 3 := Nat.eq_of_beq_eq_true c4
   subst hk2
   cases c5 : Nat.ble (Nat.add n 1) 9223372036854775808 with
   | false => trivial
   | true =>
   have h3 : n < 9223372036854775808 := Nat.le_of_ble_eq_true c5
   have he : wdN n m = n % m := by
    have hR : wdR n m = n % m := by unfold wdR; rw [if_pos h3]
    unfold wdN
    have := Nat.mod_lt n (show 0 < m from h1)
    rw [hR, if_pos (by omega)]
   have := run n m h1 h2
   rw [he] at this
   exact this
  | x u =>
   cases u with
   | sy q r =>
    simp only
    have key : ∀ n : Nat, n < 2 ^ (kindOf 3).bits → ∀ r2 : Nat, (kindOf 3).wrap (n : Int) % (q : Int) = r2 → q % m = 0 → wdN n m = r2 % m := fun n hn r2 hz h3 => by
     have h4 := (wd_emod n m (fit hn) h1 h2).1
     have h5 : (kindOf 3).wrap (n : Int) % (m : Int) = ((r2 % m : Nat) : Int) := by
      rw [Int.natCast_emod, ← hz, Int.emod_emod_of_dvd _ (Int.natCast_dvd_natCast.2 (Nat.dvd_of_mod_eq_zero h3))]
     rw [h5] at h4
     exact (Int.ofNat.inj h4).symm
    cases c4 : Nat.beq (Nat.div r 65536) (Nat.mod r 65536) with
    | true =>
     simp only
     have hlh : r / 65536 = r % 65536 := Nat.eq_of_beq_eq_true c4
     cases c5 : Nat.beq (Nat.mod q m) 0 with
     | false => trivial
     | true =>
     have h3 : q % m = 0 := Nat.eq_of_beq_eq_true c5
     refine turn _ _ m h1 h2 fun e v' hv => ?_
     cases hv with
     | sy _ _ n hn hz =>
      obtain ⟨r2, hz, l1, l2⟩ := hz
      refine ⟨n, fit hn, .i 3 n (by omega) hn, fun e' u hu => ?_⟩
      have h6 := key n hn r2 hz h3
      rw [show r2 = r / 65536 by omega] at h6
      rw [h6] at hu
      exact hu
    | false =>
     simp only
     cases c5 : Nat.beq q m with
     | false => trivial
     | true =>
     have h3 : q = m := Nat.eq_of_beq_eq_true c5
     refine turn _ _ m h1 h2 fun e v' hv => ?_
     cases hv with
     | sy _ _ n hn hz =>
      obtain ⟨r2, hz, l1, l2⟩ := hz
      refine ⟨n, fit hn, .i 3 n (by omega) hn, fun e' u hu => ?_⟩
      have h6 := key n hn r2 hz (by rw [h3]; exact Nat.mod_self m)
      have h7 := (wd_emod n m (fit hn) h1 h2)
      have h8 : r2 < m := by
       have h9 := Int.emod_lt_of_pos ((kindOf 3).wrap (n : Int)) (show (0 : Int) < (q : Int) by omega)
       rw [hz] at h9
       omega
      rw [Nat.mod_eq_of_lt h8] at h6
      rw [h6] at hu
      exact vrel_rg hu l1 l2
   | rg k2 lo hi =>
    simp only
    cases c4 : Nat.beq k2 3 with
    | false => trivial
    | true =>
    have hk2 : k2 = 3 := Nat.eq_of_beq_eq_true c4
    subst hk2
    refine turn _ _ m h1 h2 fun e v' hv => ?_
    cases hv with
    | rg _ _ _ n hk1 hn _ _ =>
     refine ⟨n, fit hn, .i 3 n (by omega) hn, fun e' u hu => ?_⟩
     have h4 := (wd_emod n m (fit hn) h1 h2).2
     exact vrel_rg hu (Nat.zero_le _) (show wdN n m ≤ m - 1 by omega)
   | _ => trivial
  | _ => trivial
 | _ => trivial
theorem pWithin_snd {P : Program} (hmix : P.follows .mixedOrders = true) {f : Nat} (hk : kWithin.ok P dchk f = true) (args : List AV) (H : AHeap) : FSnd P f args H (pWithin args H) :=
 pWithin_of (K := kWithin) (fun F H n m h1 h2 => within_run F H n m h1 h2) hmix hk args H
end
end Go.Ab
namespace Go.Ab
open Go
noncomputable section
section
variable {F : Fs} {en : Env} {H : AHeap}
theorem natOf_int {i : Nat} (h : i < 9223372036854775808) : natOf (.i 3 i) = some i := by
 have c1 : Nat.ble (Nat.add i 1) 9223372036854775808 = true := Nat.ble_eq_true_of_le h
 show Bool.rec (motive := fun _ => Option Nat) (Bool.rec (motive := fun _ => Option Nat) none (Bool.rec (motive := fun _ => Option Nat) none (some i) (Nat.ble (Nat.add i 1) 9223372036854775808)) (Nat.beq 3 3)) (some i) (Nat.ble 4 3) = _
 rw [c1]; rfl
theorem den_ia {sz : Nat} {x y : KO} {b o len cap i : Nat} (hx : x.den en = .sl b o len cap) (hy : y.den en = .i 3 i) (h : i < len) (h2 : i < 9223372036854775808) : (KOp.ia sz x y).den F en H = .v (.p b (o + i * sz)) H := by
 show opIndexAddr sz x.den y.den en H = _
 unfold opIndexAddr
 rw [hx, hy]
 have c2 : Nat.ble (Nat.add i 1) len = true := Nat.ble_eq_true_of_le h
 show optN ORes.fail (fun n => bif' ORes.fail (ORes.v (.p b (Nat.add o (Nat.mul n sz))) H) (Nat.ble (Nat.add n 1) len)) (natOf (.i 3 i)) = _
 rw [natOf_int h2]
 show bif' ORes.fail (ORes.v (.p b (Nat.add o (Nat.mul i sz))) H) (Nat.ble (Nat.add i 1) len) = _
 rw [c2]; rfl
theorem den_load1 {x : KO} {b o n : Nat} {t : BT AV} {w : Bool} {sp : Nat} {v : AV} (hx : x.den en = .p b o) (hb : H.get b = some (.c n t w sp)) (ho : o < n) (ht : t.get o = some v) : (KOp.load1 x).den F en H = .v v H := by
 show opLoad1 x.den en H = _
 unfold opLoad1
 rw [hx]
 show blkC ORes.fail (fun n t _ _ => bif' ORes.fail (optE ORes.fail (fun v => ORes.v v H) (t.get o)) (Nat.ble (Nat.add o 1) n)) (H.get b) = _
 rw [hb]
 show bif' ORes.fail (optE ORes.fail (fun v => ORes.v v H) (t.get o)) (Nat.ble (Nat.add o 1) n) = _
 have c : Nat.ble (Nat.add o 1) n = true := Nat.ble_eq_true_of_le ho
 rw [c, ht]; rfl
theorem den_lenS {x : KO} {b o len cap : Nat} (hx : x.den en = .sl b o len cap) (h : len < 9223372036854775808) : (KOp.len 1 x).den F en H = .v (.i 3 len) H := by
 show opLen 1 x.den en H = _
 unfold opLen
 rw [hx]
 show intA len (ORes.v (.i 3 len) H) = _
 unfold intA
 have c : Nat.ble (Nat.add len 1) 9223372036854775808 = true := Nat.ble_eq_true_of_le h
 rw [c]; rfl
theorem den_block (id : Nat) (a : KCode) : (KCode.block id a).den F en H = rBlock id (a.den F en H) := rfl
theorem den_loop (a : KCode) : (KCode.loop a).den F en H = loopN (a.den F) 1000000 en H := rfl
theorem den_exit (id : Nat) : (KCode.exit id).den F en H = .ext id en H := rfl
theorem rSeq_ext (id : Nat) (f : Env → AHeap → Res) : rSeq (.ext id en H) f = .ext id en H := rfl
theorem rBlock_nrm (id : Nat) : rBlock id (.nrm en H) = .nrm en H := rfl
theorem rBlock_ret (id : Nat) : rBlock id (.ret en H) = .ret en H := rfl
end
theorem lt_nn (n m : Nat) (hn : n < 9223372036854775808) (hm : m < 9223372036854775808) : iLt 18446744073709551616 9223372036854775808 n m = some (.b (decide (n < m))) := by
 rw [lt_wd n m (by omega) hm]
 have : (decide (9223372036854775808 ≤ n ∨ n < m)) = decide (n < m) := by
  by_cases h : n < m
  · simp [h]
  · simp [h]; omega
 rw [this]
def ixB (v c ln i r s : AV) : BT AV := .nd (.nd (.nd .lf v .lf) c (.nd .lf ln .lf)) i (.nd (.nd .lf r .lf) s .lf)
def kIdxR (M h : Nat) : KCode :=
 .seq (.reg [.l 9 (.bin .lt 3 M h (.va .top) (.va (.lft (.rgt .top))))]) (.seq (.cond (.t 9) .skip (.exit 0)) (.seq (.block 1 (.seq (.reg [.l 10 (.move (.va .top)), .p (.lft .top) (.move (.t 10))])
  (.seq (.reg [.l 11 (.move (.va (.lft (.lft .top)))), .l 12 (.move (.va (.rgt .top))), .l 13 (.move (.va (.lft .top))), .l 14 (.ia 1 (.t 12) (.t 13)), .l 15 (.load1 (.t 14)), .l 16 (.bin .eq 3 M h (.t 11) (.t 15))])
   (.cond (.t 16) (.seq (.reg [.l 17 (.move (.va (.lft .top))), .p (.rgt (.lft .top)) (.move (.t 17))]) .ret) .skip)))) (.reg [.l 18 (.bin .add 3 M h (.va .top) (.c (.i 3 1))), .p .top (.move (.t 18))])))
def kIdxG (M h m1 : Nat) : KFun := ⟨19, (.nd (.nd (.nd .lf 1 .lf) 5 (.nd .lf 7 .lf)) 8 (.nd (.nd .lf 4 .lf) 0 .lf)), ixB bad bad bad bad bad bad, [.rgt .top, .lft (.lft .top)],
 (.seq (.reg [.p (.rgt (.lft .top)) (.move (.c (.i 3 0)))]) (.seq (.seq (.reg [.l 6 (.move (.va (.rgt .top))), .p (.lft (.rgt .top)) (.len 1 (.t 6)), .p .top (.move (.c (.i 3 0)))]) (.block 0 (.loop (kIdxR M h)))) (.seq (.reg [.p (.rgt (.lft .top)) (.move (.c (.i 3 m1)))]) .ret))),
 [.one (.va (.rgt (.lft .top)))]⟩
def kIdx : KFun := kIdxG 18446744073709551616 9223372036854775808 18446744073709551615
theorem idx_done {F : Fs} {M h : Nat} {L : Loc} {v c r : AV} {s : AV} {i len : Nat} {H : AHeap} (c1 : KBin.lt.den 3 M h i len = some (.b false)) :
  ∃ L', (kIdxR M h).den F ⟨L, ixB v c (.i 3 len) (.i 3 i) r s⟩ H = .ext 0 ⟨L', ixB v c (.i 3 len) (.i 3 i) r s⟩ H := by
 unfold kIdxR
 simp only [den_seq, den_reg, runE_l]
 rw [den_bin (n := i) (m := len) (hx := rfl) (hy := rfl) (hv := c1)]
 simp only [oRes_v, runE_nil, rSeq_nrm, den_seq]
 rw [den_cond_f rfl]
 exact ⟨_, rfl⟩
theorem idx_hit {F : Fs} {M h : Nat} {L : Loc} {c r : AV} {b o len cap i n m N : Nat} {t : BT AV} {w : Bool} {sp : Nat} {H : AHeap} (c1 : KBin.lt.den 3 M h i len = some (.b true)) (hi : i < len) (h63 : i < 9223372036854775808) (hb : H.get b = some (.c N t w sp)) (hN : o + i * 1 < N) (ht : t.get (o + i * 1) = some (.i 3 m))
  (c2 : KBin.eq.den 3 M h n m = some (.b true)) :
  ∃ L', (kIdxR M h).den F ⟨L, ixB (.i 3 n) c (.i 3 len) (.i 3 i) r (.sl b o len cap)⟩ H = .ret ⟨L', ixB (.i 3 n) (.i 3 i) (.i 3 len) (.i 3 i) (.i 3 i) (.sl b o len cap)⟩ H := by
 unfold kIdxR
 simp only [den_seq, den_reg, runE_l]
 rw [den_bin (n := i) (m := len) (hx := rfl) (hy := rfl) (hv := c1)]
 simp only [oRes_v, runE_nil, rSeq_nrm, den_seq]
 rw [den_cond_t rfl]
 simp only [den_skip, rSeq_nrm, den_block, den_seq, den_reg, runE_l, runE_p, den_move, oRes_v, runE_nil]
 rw [den_ia (b := b) (o := o) (len := len) (cap := cap) (i := i) rfl rfl hi h63]
 simp only [oRes_v]
 rw [den_load1 (b := b) (o := o + i * 1) rfl hb hN ht]
 simp only [oRes_v]
 rw [den_bin (n := n) (m := m) (hx := rfl) (hy := rfl) (hv := c2)]
 simp only [oRes_v, rSeq_nrm]
 rw [den_cond_t rfl]
 exact ⟨_, rfl⟩
theorem idx_miss {F : Fs} {M h : Nat} {L : Loc} {c r : AV} {b o len cap i n m N : Nat} {t : BT AV} {w : Bool} {sp : Nat} {H : AHeap} (c1 : KBin.lt.den 3 M h i len = some (.b true)) (hi : i < len) (h63 : i < 9223372036854775808) (hb : H.get b = some (.c N t w sp)) (hN : o + i * 1 < N) (ht : t.get (o + i * 1) = some (.i 3 m))
  (c2 : KBin.eq.den 3 M h n m = some (.b false)) (c3 : KBin.add.den 3 M h i 1 = some (.i 3 (i + 1))) :
  ∃ L', (kIdxR M h).den F ⟨L, ixB (.i 3 n) c (.i 3 len) (.i 3 i) r (.sl b o len cap)⟩ H = .nrm ⟨L', ixB (.i 3 n) (.i 3 i) (.i 3 len) (.i 3 (i + 1)) r (.sl b o len cap)⟩ H := by
 unfold kIdxR
 simp only [den_seq, den_reg, runE_l]
 rw [den_bin (n := i) (m := len) (hx := rfl) (hy := rfl) (hv := c1)]
 simp only [oRes_v, runE_nil, rSeq_nrm, den_seq]
 rw [den_cond_t rfl]
 simp only [den_skip, rSeq_nrm, den_block, den_seq, den_reg, runE_l, runE_p, den_move, oRes_v, runE_nil]
 rw [den_ia (b := b) (o := o) (len := len) (cap := cap) (i := i) rfl rfl hi h63]
 simp only [oRes_v]
 rw [den_load1 (b := b) (o := o + i * 1) rfl hb hN ht]
 simp only [oRes_v]
 rw [den_bin (n := n) (m := m) (hx := rfl) (hy := rfl) (hv := c2)]
 simp only [oRes_v, rSeq_nrm]
 rw [den_cond_f rfl]
 simp only [den_skip, rBlock_nrm, rSeq_nrm, den_reg, runE_l]
 rw [den_bin (n := i) (m := 1) (hx := rfl) (hy := rfl) (hv := c3)]
 exact ⟨_, rfl⟩
def idxA (n m1 : Nat) (l : List AV) : Nat → Option Nat :=
 List.rec (motive := fun _ => Nat → Option Nat) (fun _ => some m1) (fun v _ ih i => avI none (fun k m => Bool.rec (motive := fun _ => Option Nat) none (Bool.rec (motive := fun _ => Option Nat) (ih (Nat.add i 1)) (some i) (Nat.beq n m)) (Nat.beq k 3)) v) l
theorem idxA_cons (n m1 : Nat) (v : AV) (l : List AV) (i : Nat) : idxA n m1 (v :: l) i = avI none (fun k m => Bool.rec (motive := fun _ => Option Nat) none (Bool.rec (motive := fun _ => Option Nat) (idxA n m1 l (i + 1)) (some i) (Nat.beq n m)) (Nat.beq k 3)) v := rfl
theorem idx_loop {F : Fs} {b o len cap n N : Nat} {t : BT AV} {w : Bool} {sp : Nat} {H : AHeap} (hlen : len < 1000000) (hb : H.get b = some (.c N t w sp)) (hN : o + len ≤ N) (m1 : Nat) :
  ∀ (l : List AV) (i K : Nat), i + l.length = len → (∀ j v, l[j]? = some v → t.get (o + (i + j)) = some v) → l.length < K → ∀ (j : Nat), idxA n m1 l i = some j → ∀ (L : Loc) (c r : AV),
   ∃ L' c' i' r' X, loopN ((kIdxR 18446744073709551616 9223372036854775808).den F) K ⟨L, ixB (.i 3 n) c (.i 3 len) (.i 3 i) r (.sl b o len cap)⟩ H = X ∧
    ((X = .ret ⟨L', ixB (.i 3 n) c' (.i 3 len) i' (.i 3 j) (.sl b o len cap)⟩ H) ∨ (j = m1 ∧ X = .ext 0 ⟨L', ixB (.i 3 n) c' (.i 3 len) i' r' (.sl b o len cap)⟩ H))
 | [], i, K, hl, _, hK, j, hj, L, c, r => by
  cases K with
  | zero => omega
  | succ K =>
   have hil : i = len := by simpa using hl
   subst hil
   cases hj
   obtain ⟨L', hd⟩ := idx_done (F := F) (L := L) (v := .i 3 n) (c := c) (r := r) (s := .sl b o i cap) (H := H) (c1 := by
    have h := lt_nn i i (by omega) (by omega)
    rw [show decide (i < i) = false by simp] at h
    exact h)
   refine ⟨L', c, .i 3 i, r, _, rfl, .inr ⟨rfl, ?_⟩⟩
   rw [loopN_succ, hd]; rfl
 | v :: l, i, K, hl, hg, hK, j, hj, L, c, r => by
  cases K with
  | zero => omega
  | succ K =>
   rw [idxA_cons] at hj
   cases v with
   | i k m =>
    simp only [avI] at hj
    cases hk : Nat.beq k 3 with
    | false => rw [hk] at hj; cases hj
    | true =>
     rw [hk] at hj
     have := Nat.eq_of_beq_eq_true hk
     subst this
     simp only [List.length_cons] at hl hK
     have hil : i < len := by omega
     have ht : t.get (o + i * 1) = some (.i 3 m) := by
      have := hg 0 (.i 3 m) (by simp)
      simpa using this
     have c1 : KBin.lt.den 3 18446744073709551616 9223372036854775808 i len = some (.b true) := by
      have h := lt_nn i len (by omega) (by omega)
      rw [decide_eq_true hil] at h
      exact h
     cases hnm : Nat.beq n m with
     | true =>
      rw [hnm] at hj
      cases hj
      obtain ⟨L', hd⟩ := idx_hit (F := F) (L := L) (c := c) (r := r) (cap := cap) (n := n) c1 hil (by omega) hb (by omega) ht (by show iEq n m = _; unfold iEq; rw [hnm])
      refine ⟨L', .i 3 i, .i 3 i, r, _, rfl, .inl ?_⟩
      rw [loopN_succ, hd]; rfl
     | false =>
      rw [hnm] at hj
      obtain ⟨L', hd⟩ := idx_miss (F := F) (L := L) (c := c) (r := r) (cap := cap) (n := n) c1 hil (by omega) hb (by omega) ht (by show iEq n m = _; unfold iEq; rw [hnm]) (by
       show some (AVp.i 3 ((i + 1) % 18446744073709551616)) = _
       rw [Nat.mod_eq_of_lt (by omega)])
      rw [loopN_succ, hd]
      exact idx_loop hlen hb hN m1 l (i + 1) K (by omega) (fun q u hq => by
       have := hg (q + 1) u (by simpa using hq)
       rwa [show i + 1 + q = i + (q + 1) by omega]) (by omega) j hj L' _ r
   | _ => cases hj
theorem backV_int (k n : Nat) (H : AHeap) : backV [.i k n] H (H.withLow H.nxt) = .v (.i k n) H := by
 unfold backV
 have c : Nat.ble H.nxt (H.withLow H.nxt).low = true := Nat.ble_eq_true_of_le (Nat.le_refl _)
 rw [c]; rfl
theorem backV_b (v : Bool) (H : AHeap) : backV [.b v] H (H.withLow H.nxt) = .v (.b v) H := by
 unfold backV
 have c : Nat.ble H.nxt (H.withLow H.nxt).low = true := Nat.ble_eq_true_of_le (Nat.le_refl _)
 rw [c]; rfl
theorem takeN_get {t : BT AV} : ∀ {n o : Nat} {l : List AV}, takeN t n o = some l → l.length = n ∧ ∀ j v, l[j]? = some v → t.get (o + j) = some v
 | 0, o, l, h => by
  cases h
  exact ⟨rfl, fun j v hj => by simp at hj⟩
 | n + 1, o, l, h => by
  have h' : optE none (fun v => optL none (fun l => some (v :: l)) (takeN t n (o + 1))) (t.get o) = some l := h
  cases hv : t.get o with
  | none => rw [hv] at h'; cases h'
  | some v =>
   rw [hv] at h'
   cases hl : takeN t n (o + 1) with
   | none => rw [hl] at h'; cases h'
   | some m =>
    rw [hl] at h'
    cases h'
    obtain ⟨q1, q2⟩ := takeN_get hl
    refine ⟨by simp [q1], fun j u hj => ?_⟩
    cases j with
    | zero => simp at hj; subst hj; exact hv
    | succ j =>
     have := q2 j u (by simpa using hj)
     rwa [show o + 1 + j = o + (j + 1) by omega] at this
theorem readN_get {H : AHeap} {b o n : Nat} {l : List AV} (h : readN H b o n = some l) : ∃ N t w sp, H.get b = some (.c N t w sp) ∧ o + n ≤ N ∧ l.length = n ∧ ∀ j v, l[j]? = some v → t.get (o + j) = some v := by
 unfold readN at h
 cases hb : H.get b with
 | none => rw [hb] at h; cases h
 | some x =>
  rw [hb] at h
  cases x with
  | c N t w sp =>
   simp only [blkC] at h
   cases c1 : Nat.ble (Nat.add o n) N with
   | false => rw [c1] at h; cases h
   | true =>
    rw [c1] at h
    obtain ⟨q1, q2⟩ := takeN_get h
    exact ⟨N, t, w, sp, rfl, Nat.le_of_ble_eq_true c1, q1, q2⟩
  | _ => cases h
theorem KFun.run_eq {K : KFun} {F : Fs} {args : List AV} {H : AHeap} {B : BT AV} (h : putArgs K.ps args K.T0 = some B) : K.run F args H = finish K.rs H (K.body.den F ⟨.nil, B⟩ (H.withLow H.nxt)) := by
 unfold KFun.run; rw [h]
theorem finish_ret (rs : List KR) (H H' : AHeap) (en : Env) (l : List AV) (h : evalR rs en H' = some l) : finish rs H (.ret en H') = backV l H H' := by
 show optL .fail (fun l => backV l H H') (evalR rs en H') = _
 rw [h]; rfl
theorem idx_bodyG (F : Fs) (M h m1 K : Nat) (hK : K = 1000000) {H : AHeap} {v : AV} {b o len cap : Nat} (hlen : len < 9223372036854775808) {X : Res}
  (hX : loopN ((kIdxR M h).den F) K ⟨.cons 6 (.sl b o len cap) .nil, ixB v bad (.i 3 len) (.i 3 0) (.i 3 0) (.sl b o len cap)⟩ H = X) :
  (kIdxG M h m1).body.den F ⟨.nil, ixB v bad bad bad bad (.sl b o len cap)⟩ H = rSeq (rBlock 0 X) ((KCode.seq (.reg [.p (.rgt (.lft .top)) (.move (.c (.i 3 m1)))]) .ret).den F) := by
 subst hX
 unfold kIdxG
 simp only [den_seq, den_reg, runE_p, runE_l, den_move, oRes_v, runE_nil, rSeq_nrm]
 rw [den_lenS (b := b) (o := o) (len := len) (cap := cap) rfl hlen]
 simp only [oRes_v, rSeq_nrm, den_block, den_loop]
 rw [← hK]
 rfl
theorem idx_body (F : Fs) {H : AHeap} {b o len cap n j N : Nat} {l : List AV} {t : BT AV} {w : Bool} {sp : Nat} (hlen : len < 1000000) (hb : H.get b = some (.c N t w sp)) (hN : o + len ≤ N) (hll : l.length = len) (hg : ∀ j v, l[j]? = some v → t.get (o + j) = some v) (hj : idxA n 18446744073709551615 l 0 = some j) :
  ∃ L' c' i' ln, kIdx.body.den F ⟨.nil, ixB (.i 3 n) bad bad bad bad (.sl b o len cap)⟩ H = .ret ⟨L', ixB (.i 3 n) c' ln i' (.i 3 j) (.sl b o len cap)⟩ H := by
 obtain ⟨K, hK⟩ : ∃ K, K = 1000000 := ⟨_, rfl⟩
 obtain ⟨L', c', i', r', X, hX, hc⟩ := idx_loop (F := F) (cap := cap) (n := n) hlen hb hN 18446744073709551615 l 0 K (by omega) (by simpa using hg) (by omega) j hj (.cons 6 (.sl b o len cap) .nil) bad (.i 3 0)
 have h1 := idx_bodyG F 18446744073709551616 9223372036854775808 18446744073709551615 K hK (by omega) hX
 unfold kIdx
 rcases hc with hc | ⟨hjm, hc⟩
 · exact ⟨L', c', i', .i 3 len, by rw [h1, hc]; rfl⟩
 · exact ⟨.nil, c', i', .i 3 len, by rw [h1, hc, hjm]; rfl⟩
theorem idx_run (F : Fs) {H : AHeap} {b o len cap n j : Nat} {l : List AV} (hlen : len < 1000000) (hl : readN H b o len = some l) (hj : idxA n 18446744073709551615 l 0 = some j) : kIdx.run F [.sl b o len cap, .i 3 n] H = .v (.i 3 j) H := by
 obtain ⟨N, t, w, sp, hb, hN, hll, hg⟩ := readN_get hl
 have hb' : (H.withLow H.nxt).get b = some (.c N t w sp) := hb
 have hB : putArgs kIdx.ps [.sl b o len cap, .i 3 n] kIdx.T0 = some (ixB (.i 3 n) bad bad bad bad (.sl b o len cap)) := rfl
 rw [KFun.run_eq hB]
 obtain ⟨L', c', i', ln, hbody⟩ := idx_body F (cap := cap) hlen hb' hN hll hg hj
 rw [hbody, finish_ret (l := [.i 3 j]) (h := rfl)]
 exact backV_int 3 j H
def pIdx (args : List AV) (H : AHeap) : ORes :=
 List.rec (motive := fun _ => ORes) .fail (fun s l _ => List.rec (motive := fun _ => ORes) .fail (fun v m _ => List.rec (motive := fun _ => ORes)
  (avI (kIdx.run (fun _ _ _ => .fail) args H) (fun k n => bif' (kIdx.run (fun _ _ _ => .fail) args H) (avSl (kIdx.run (fun _ _ _ => .fail) args H) (fun b o len _ => bif' .fail (optL .fail (fun l => optN .fail (fun j => .v (.i 3 j) H) (idxA n 18446744073709551615 l 0)) (readN H b o len)) (Nat.ble (Nat.add len 1) 1000000)) s) (Nat.beq k 3)) v)
  (fun _ _ _ => .fail) m) l) args
theorem pIdx_snd {P : Program} (hmix : P.follows .mixedOrders = true) {f : Nat} (h : kIdx.ok P dchk f = true) (args : List AV) (H : AHeap) : FSnd P f args H (pIdx args H) := by
 have hF : FsOk P (fun _ _ _ => .fail) := fun _ _ _ => trivial
 have hrun : ∀ args, FSnd P f args H (kIdx.run (fun _ _ _ => .fail) args H) := fun args => KFun.run_snd hF (dok hF hmix _ _) h args H
 unfold pIdx
 cases args with
 | nil => trivial
 | cons s l =>
 cases l with
 | nil => trivial
 | cons v m =>
 cases m with
 | cons => trivial
 | nil =>
 cases v with
 | i k n =>
  simp only [avI]
  cases c1 : Nat.beq k 3 with
  | false => exact hrun _
  | true =>
  have := Nat.eq_of_beq_eq_true c1
  subst this
  simp only [bif']
  cases s with
  | sl b o len cap =>
   simp only [avSl]
   cases c2 : Nat.ble (Nat.add len 1) 1000000 with
   | false => trivial
   | true =>
   simp only
   cases hl : readN H b o len with
   | none => trivial
   | some l =>
   simp only [optL]
   cases hj : idxA n 18446744073709551615 l 0 with
   | none => trivial
   | some j =>
   have := hrun [.sl b o len cap, .i 3 n]
   rw [idx_run _ (show len < 1000000 from Nat.le_of_ble_eq_true c2) hl hj] at this
   exact this
  | _ => exact hrun _
 | _ => exact hrun _
end
end Go.Ab
namespace Go.Ab
open Go
noncomputable section
def idxB (c : Nat) (n : Nat) : Nat → Nat → Option Nat :=
 Nat.rec (motive := fun _ => Nat → Nat → Option Nat) (fun _ _ => none) (fun _ ih code i => Bool.rec (motive := fun _ => Option Nat) (ih (Nat.div code 256) (Nat.add i 1)) (some i) (Nat.beq (Nat.mod code 256) c)) n
theorem idxB_succ (c n code i : Nat) : idxB c (n + 1) code i = if code % 256 = c then some i else idxB c n (code / 256) (i + 1) := by
 have h : idxB c (n + 1) code i = Bool.rec (motive := fun _ => Option Nat) (idxB c n (code / 256) (i + 1)) (some i) (Nat.beq (code % 256) c) := rfl
 rw [h, brec]; simp only [beq_tt]
theorem ofNat_beq (a c : Nat) (ha : a < 256) (hc : c < 256) : (UInt8.ofNat a == UInt8.ofNat c) = decide (a = c) := by
 rw [Bool.eq_iff_iff]
 simp only [beq_iff_eq, decide_eq_true_eq]
 constructor
 · intro h
   have := congrArg UInt8.toNat h
   simpa [UInt8.toNat_ofNat, Nat.mod_eq_of_lt ha, Nat.mod_eq_of_lt hc] using this
 · rintro rfl; rfl
theorem find_range' (l : List UInt8) (c : UInt8) : ∀ (m k : Nat), k + m = l.length → (List.range' k m).find? (fun i => l[i]! == c) = ((l.drop k).findIdx? (· == c)).map (· + k)
 | 0, k, h => by
  have : l.drop k = [] := List.drop_eq_nil_of_le (by omega)
  simp [this]
 | m + 1, k, h => by
  have hk : k < l.length := by omega
  rw [List.range'_succ, List.find?_cons, List.drop_eq_getElem_cons hk, List.findIdx?_cons]
  have hg : l[k]! = l[k] := by simp [hk]
  rw [hg]
  cases hc : (l[k] == c) with
  | true => simp
  | false =>
   simp only [Bool.false_eq_true, if_false]
   rw [find_range' l c m (k + 1) (by omega)]
   cases (List.drop (k + 1) l).findIdx? (· == c) with
   | none => rfl
   | some j => simp; omega
theorem ba_get (l : List UInt8) (i : Nat) : (⟨l.toArray⟩ : ByteArray)[i]! = l[i]! := by
 by_cases h : i < l.length
 · have h2 : i < (⟨l.toArray⟩ : ByteArray).size := by simpa [ByteArray.size] using h
   rw [getElem!_pos (⟨l.toArray⟩ : ByteArray) i h2, getElem!_pos l i h]
   rfl
 · have h2 : ¬ i < (⟨l.toArray⟩ : ByteArray).size := by simpa [ByteArray.size] using h
   rw [getElem!_neg (⟨l.toArray⟩ : ByteArray) i h2, getElem!_neg l i h]
theorem idxB_spec (c : Nat) (hc : c < 256) : ∀ (n code i : Nat), idxB c n code i = ((bytesOf n code).findIdx? (· == UInt8.ofNat c)).map (· + i)
 | 0, code, i => rfl
 | n + 1, code, i => by
  rw [idxB_succ, bytesOf, List.findIdx?_cons, ofNat_beq _ _ (Nat.mod_lt _ (by omega)) hc]
  by_cases h : code % 256 = c
  · simp [h]
  · rw [if_neg h]
    simp only [h, decide_false, Bool.false_eq_true, if_false]
    rw [idxB_spec c hc n]
    cases (bytesOf n (code / 256)).findIdx? (· == UInt8.ofNat c) with
    | none => rfl
    | some j => simp; omega
def pIdxByte (args : List AV) (H : AHeap) : ORes :=
 List.rec (motive := fun _ => ORes) .fail (fun x r _ => List.rec (motive := fun _ => ORes) .fail (fun y q _ => List.rec (motive := fun _ => ORes)
  (avS .fail (fun l code => avI .fail (fun k c => bif' .fail (bif' .fail (.v (.i 3 (Option.rec (motive := fun _ => Nat) 18446744073709551615 (fun i => i) (idxB c l code 0))) H) (Nat.ble (Nat.add l 1) 9223372036854775808)) (Nat.beq k 4)) y) x) (fun _ _ _ => .fail) q) r) args
theorem run_extern {P : Program} {f : FuncId} {fn : Func} {e : Array Value → Sem Value} (hf : P.funcs[f]? = some fn) (hname : (fn.name == "runtime.NumGoroutine") = false) (hb : fn.body.isNone = true) (hn : Extern.findNext fn = none) (he : Extern.find fn = some e) (args : Array Value) (w : World) {v : Value} {w' : World}
  (hr : (e args).run P w = .ok v w') : (callFunc f args).run P w = .ok (.value v) w' := by
 have h1 : ¬ fn.name = "runtime.NumGoroutine" := by simpa using hname
 have hb' : fn.body = none := by simpa using hb
 simp [callFunc, program, Sem.run, hf, h1, hb', mark, hn, he, hr]
theorem idxB_lt (c : Nat) : ∀ (n code i j : Nat), idxB c n code i = some j → j < i + n
 | 0, code, i, j, h => by cases h
 | n + 1, code, i, j, h => by
  rw [idxB_succ] at h
  split at h
  · cases h; omega
  · have := idxB_lt c n _ _ _ h; omega
theorem pIdxByte_snd {P : Program} {f : FuncId} {fn : Func} (hf : P.funcs[f]? = some fn) (hname : (fn.name == "runtime.NumGoroutine") = false) (hb : fn.body.isNone = true) (hn : Extern.findNext fn = none) (he : Extern.find fn = some Extern.BytealgIndexByte.indexByte)
  (args : List AV) (H : AHeap) : FSnd P f args H (pIdxByte args H) := by
 unfold pIdxByte
 cases args with
 | nil => trivial
 | cons x r =>
 cases r with
 | nil => trivial
 | cons y q =>
 cases q with
 | cons => trivial
 | nil =>
 cases x with
 | s l code =>
  cases y with
  | i k c =>
   simp only [avS, avI, bif']
   cases hk : Nat.beq k 4 with
   | false => trivial
   | true =>
   cases hl : Nat.ble (Nat.add l 1) 9223372036854775808 with
   | false => trivial
   | true =>
    have hk' := Nat.eq_of_beq_eq_true hk
    subst hk'
    have hl' : l < 9223372036854775808 := by rw [ble_tt] at hl; exact hl
    intro e w args' hr ha
    cases ha with
    | cons hx ht =>
    cases ht with
    | cons hy ht =>
    cases ht
    cases hx with
    | s _ _ hcode =>
    cases hy with
    | i _ _ hk hc =>
    have hc : c < 256 := hc
    have hsz : (⟨(bytesOf l code).toArray⟩ : ByteArray).size = l := by simp [ByteArray.size, bytesOf_length]
    have hfind : (List.range (⟨(bytesOf l code).toArray⟩ : ByteArray).size).find? (fun i => (⟨(bytesOf l code).toArray⟩ : ByteArray)[i]! == UInt8.ofNat c) = idxB c l code 0 := by
     rw [hsz, idxB_spec c hc, List.range_eq_range']
     have := find_range' (bytesOf l code) (UInt8.ofNat c) l 0 (by simp [bytesOf_length])
     simp only [List.drop_zero] at this
     rw [← this]
     simp only [ba_get]
    have hrun : (Extern.BytealgIndexByte.indexByte #[.string ⟨(bytesOf l code).toArray⟩, .int (kindOf 4) ((kindOf 4).wrap (c : Int))]).run P w = .ok (match idxB c l code 0 with | some i => goInt i | none => goInt (-1)) w := by
     have hw : (kindOf 4).wrap (c : Int) = c := by
      show (IntKind.u8).wrap (c : Int) = c
      simp [IntKind.wrap, IntKind.bits, IntKind.signed]; omega
     rw [hw]
     have h3 : (c : Int).toNat.toUInt8 = UInt8.ofNat c := rfl
     have hdef : ∀ b c, Extern.BytealgIndexByte.indexByte #[b, c] = (do
       let b ← Extern.Bytes.bytesOf b
       let c ← Extern.Bytes.asByte c
       match (List.range b.size).find? fun i => b[i]! == c with
       | some i => pure (goInt i)
       | none => pure (goInt (-1))) := fun _ _ => rfl
     simp only [hdef, Extern.Bytes.bytesOf, kindOf, Extern.Bytes.asByte, Sem.run_bind, Sem.run_pure, Result.andThen_ok, h3, hfind]
     cases idxB c l code 0 <;> rfl
    refine .inr ⟨_, w, run_extern hf hname hb hn he _ w hrun, e, _, rfl, ?_, Evo.refl hr⟩
    cases hi : idxB c l code 0 with
    | none => exact .i 3 18446744073709551615 (by omega) (by decide)
    | some i =>
     have := idxB_lt c _ _ _ _ hi
     exact vrel_int64 e i (by omega)
  | _ => trivial
 | _ => trivial
def pFrom (args : List AV) (H : AHeap) : ORes :=
 List.rec (motive := fun _ => ORes) .fail (fun x r _ => List.rec (motive := fun _ => ORes) (avI .fail (fun k n => bif' .fail (.v (.x (.fl n)) H) (Nat.beq k 7)) x) (fun _ _ _ => .fail) r) args
theorem wrap_u64 (n : Nat) (hn : n < 2 ^ (kindOf 7).bits) : (kindOf 7).wrap (n : Int) = n := by
 obtain ⟨M, hM⟩ : ∃ M : Nat, M = 2 ^ (kindOf 7).bits := ⟨_, rfl⟩
 have hw : (kindOf 7).wrap (n : Int) = (n : Int) % ((2 ^ (kindOf 7).bits : Nat) : Int) := rfl
 rw [hw, ← hM]
 rw [← hM] at hn
 exact Int.emod_eq_of_lt (by omega) (by omega)
theorem pFrom_snd {P : Program} {f : FuncId} {fn : Func} (hf : P.funcs[f]? = some fn) (hname : (fn.name == "runtime.NumGoroutine") = false) (hb : fn.body.isNone = true) (hn : Extern.findNext fn = none) (he : Extern.find fn = some Extern.MathFloatBits.float64frombits)
  (args : List AV) (H : AHeap) : FSnd P f args H (pFrom args H) := by
 unfold pFrom
 cases args with
 | nil => trivial
 | cons x r =>
 cases r with
 | cons => trivial
 | nil =>
 cases x with
 | i k n =>
  simp only [avI, bif']
  cases hk : Nat.beq k 7 with
  | false => trivial
  | true =>
   have hk' := Nat.eq_of_beq_eq_true hk
   subst hk'
   intro e w args' hr ha
   cases ha with
   | cons hx ht =>
   cases ht
   cases hx with
   | i _ _ hk hc =>
   have hrun : (Extern.MathFloatBits.float64frombits #[.int (kindOf 7) ((kindOf 7).wrap (n : Int))]).run P w = .ok (.float .f64 n) w := by
    rw [wrap_u64 n hc]; rfl
   exact .inr ⟨_, w, run_extern hf hname hb hn he _ w hrun, e, _, rfl, .fl n, Evo.refl hr⟩
 | _ => trivial
def cntB (c n : Nat) : Nat → Nat := Nat.rec (motive := fun _ => Nat → Nat) (fun _ => 0) (fun _ ih code => Bool.rec (motive := fun _ => Nat) (ih (Nat.div code 256)) (Nat.add (ih (Nat.div code 256)) 1) (Nat.beq (Nat.mod code 256) c)) n
theorem cntB_succ (c n code : Nat) : cntB c (n + 1) code = if code % 256 = c then cntB c n (code / 256) + 1 else cntB c n (code / 256) := by
 have h : cntB c (n + 1) code = Bool.rec (motive := fun _ => Nat) (cntB c n (code / 256)) (cntB c n (code / 256) + 1) (Nat.beq (code % 256) c) := rfl
 rw [h, brec]; simp only [beq_tt]
theorem cntB_spec (c : Nat) (hc : c < 256) : ∀ (n code : Nat), cntB c n code = (bytesOf n code).count (UInt8.ofNat c)
 | 0, code => rfl
 | n + 1, code => by
  rw [cntB_succ, bytesOf, List.count_cons, ofNat_beq _ _ (Nat.mod_lt _ (by omega)) hc, cntB_spec c hc n]
  by_cases h : code % 256 = c <;> simp [h]
theorem cntB_le (c : Nat) : ∀ (n code : Nat), cntB c n code ≤ n
 | 0, code => Nat.le_refl _
 | n + 1, code => by
  rw [cntB_succ]
  have := cntB_le c n (code / 256)
  split <;> omega
def pCount (args : List AV) (H : AHeap) : ORes :=
 List.rec (motive := fun _ => ORes) .fail (fun x r _ => List.rec (motive := fun _ => ORes) .fail (fun y q _ => List.rec (motive := fun _ => ORes)
  (avS .fail (fun l code => avI .fail (fun k c => bif' .fail (bif' .fail (.v (.i 3 (cntB c l code)) H) (Nat.ble (Nat.add l 1) 9223372036854775808)) (Nat.beq k 4)) y) x) (fun _ _ _ => .fail) q) r) args
theorem pCount_snd {P : Program} {f : FuncId} {fn : Func} (hf : P.funcs[f]? = some fn) (hname : (fn.name == "runtime.NumGoroutine") = false) (hb : fn.body.isNone = true) (hn : Extern.findNext fn = none) (he : Extern.find fn = some Extern.BytealgCount.count)
  (args : List AV) (H : AHeap) : FSnd P f args H (pCount args H) := by
 unfold pCount
 cases args with
 | nil => trivial
 | cons x r =>
 cases r with
 | nil => trivial
 | cons y q =>
 cases q with
 | cons => trivial
 | nil =>
 cases x with
 | s l code =>
  cases y with
  | i k c =>
   simp only [avS, avI, bif']
   cases hk : Nat.beq k 4 with
   | false => trivial
   | true =>
   cases hl : Nat.ble (Nat.add l 1) 9223372036854775808 with
   | false => trivial
   | true =>
    have hk' := Nat.eq_of_beq_eq_true hk
    subst hk'
    have hl' : l < 9223372036854775808 := by rw [ble_tt] at hl; exact hl
    intro e w args' hr ha
    cases ha with
    | cons hx ht =>
    cases ht with
    | cons hy ht =>
    cases ht
    cases hx with
    | s _ _ hcode =>
    cases hy with
    | i _ _ hk hc =>
    have hc : c < 256 := hc
    have hw : (kindOf 4).wrap (c : Int) = c := by
     show (IntKind.u8).wrap (c : Int) = c
     simp [IntKind.wrap, IntKind.bits, IntKind.signed]; omega
    have hrun : (Extern.BytealgCount.count #[.string ⟨(bytesOf l code).toArray⟩, .int (kindOf 4) ((kindOf 4).wrap (c : Int))]).run P w = .ok (.int .i64 (cntB c l code : Nat)) w := by
     rw [hw, cntB_spec c hc]
     exact Lib.run_countString _ _ _
    have hle := cntB_le c l code
    exact .inr ⟨_, w, run_extern hf hname hb hn he _ w hrun, e, _, rfl, vrel_int64 e _ (by omega), Evo.refl hr⟩
  | _ => trivial
 | _ => trivial
def pBits (args : List AV) (H : AHeap) : ORes :=
 List.rec (motive := fun _ => ORes) .fail (fun x r _ => List.rec (motive := fun _ => ORes) (avX .fail (fun u => AX.casesOn (motive_1 := fun _ => ORes) u .fail .fail .fail .fail .fail .fail (fun _ => .fail) (fun _ _ _ => .fail) (fun _ _ => .fail) (fun _ => .fail) (fun _ => .fail)
  (fun n => bif' .fail (.v (.i 7 n) H) (Nat.ble (Nat.add n 1) 18446744073709551616)) (fun _ _ => .fail) (fun _ _ _ => .fail) (fun _ _ _ => .fail)) x) (fun _ _ _ => .fail) r) args
theorem pBits_snd {P : Program} {f : FuncId} {fn : Func} (hf : P.funcs[f]? = some fn) (hname : (fn.name == "runtime.NumGoroutine") = false) (hb : fn.body.isNone = true) (hn : Extern.findNext fn = none) (he : Extern.find fn = some Extern.MathFloatBits.float64bits)
  (args : List AV) (H : AHeap) : FSnd P f args H (pBits args H) := by
 unfold pBits
 cases args with
 | nil => trivial
 | cons x r =>
 cases r with
 | cons => trivial
 | nil =>
 cases x with
 | x u =>
  cases u with
  | fl n =>
   simp only [avX, bif']
   cases hl : Nat.ble (Nat.add n 1) 18446744073709551616 with
   | false => trivial
   | true =>
    have hl' : n < 2 ^ (kindOf 7).bits := by
     rw [ble_tt] at hl
     have hb : 2 ^ (kindOf 7).bits = 18446744073709551616 := by decide
     rw [hb]; exact hl
    intro e w args' hr ha
    cases ha with
    | cons hx ht =>
    cases ht
    cases hx with
    | fl _ =>
    have hrun : (Extern.MathFloatBits.float64bits #[.float .f64 n]).run P w = .ok (.int .u64 (n : Int)) w := rfl
    have hv := VRel.i (e := e) 7 n (by omega) hl'
    rw [wrap_u64 n hl'] at hv
    exact .inr ⟨_, w, run_extern hf hname hb hn he _ w hrun, e, _, rfl, hv, Evo.refl hr⟩
  | _ => trivial
 | _ => trivial
def pFlo (args : List AV) (H : AHeap) : ORes :=
 List.rec (motive := fun _ => ORes) .fail (fun x r _ => List.rec (motive := fun _ => ORes) (avX .fail (fun u => AX.casesOn (motive_1 := fun _ => ORes) u .fail .fail .fail .fail .fail .fail (fun _ => .fail) (fun _ _ _ => .fail) (fun _ _ => .fail) (fun _ => .fail) (fun _ => .fail)
  (fun n => bif' (.v (.x (.fl (FloatKind.f64.encode ((FloatKind.f64.decode n).integral .down)))) H) .fail (FloatKind.f64.decode n).isNaN) (fun _ _ => .fail) (fun _ _ _ => .fail) (fun _ _ _ => .fail)) x) (fun _ _ _ => .fail) r) args
theorem pFlo_snd {P : Program} {f : FuncId} {fn : Func} (hf : P.funcs[f]? = some fn) (hname : (fn.name == "runtime.NumGoroutine") = false) (hb : fn.body.isNone = true) (hn : Extern.findNext fn = none) (he : Extern.find fn = some (Extern.MathFloor.toIntegral "math.archFloor" .down))
  (args : List AV) (H : AHeap) : FSnd P f args H (pFlo args H) := by
 unfold pFlo
 cases args with
 | nil => trivial
 | cons x r =>
 cases r with
 | cons => trivial
 | nil =>
 cases x with
 | x u =>
  cases u with
  | fl n =>
   simp only [avX, bif']
   cases hl : (FloatKind.f64.decode n).isNaN with
   | true => trivial
   | false =>
    intro e w args' hr ha
    cases ha with
    | cons hx ht =>
    cases ht
    cases hx with
    | fl _ =>
    have hrun : (Extern.MathFloor.toIntegral "math.archFloor" .down #[.float .f64 n]).run P w = .ok (.float .f64 (FloatKind.f64.encode ((FloatKind.f64.decode n).integral .down))) w := by
     revert hl
     show _ → Sem.run P (Extern.MathFloor.toIntegral.match_1 (fun _ => Sem Value) (FloatKind.f64.decode n) (fun s t => _) (fun d => _)) w = _
     generalize FloatKind.f64.decode n = d
     intro hl
     cases d with
     | nan s t => cases hl
     | number _ _ _ => rfl
     | infinity _ => rfl
    exact .inr ⟨_, w, run_extern hf hname hb hn he _ w hrun, e, _, rfl, .fl _, Evo.refl hr⟩
  | _ => trivial
 | _ => trivial
end
end Go.Ab
namespace Go.Ab
open Go
noncomputable section
def tabB (k : Nat) (ds : List Nat) : ABlk := .c ds.length (BT.ofList (ds.map (AVp.i k))) false 0
def lenOf (x : Option ABlk) : Nat := match x with | some (.c n _ _ _) => n | _ => 0
def emb0 (bs : List ABlk) : Emb := fun b => if b < bs.length then some ⟨b, 0, lenOf bs[b]?, 0, lenOf bs[b]?⟩ else none
theorem emb0_some {bs : List ABlk} {b : Nat} {i : Info} (h : emb0 bs b = some i) : b < bs.length ∧ i = ⟨b, 0, lenOf bs[b]?, 0, lenOf bs[b]?⟩ := by
 unfold emb0 at h
 split at h
 · cases h; exact ⟨‹_›, rfl⟩
 · cases h
def TabAt (W : World) (g k : Nat) (ds : List Nat) : Prop :=
 k < 8 ∧ (∀ d ∈ ds, d < 2 ^ (kindOf k).bits) ∧ ∃ C ty z, W.heap[g]? = some (.cells C ty z) ∧ C = (ds.map fun (d : Nat) => Value.int (kindOf k) ((kindOf k).wrap (d : Int))).toArray
theorem rel_start {P : Program} {W : World} {bs : List ABlk} (hlen : bs.length = P.globals.size) (hW : P.globals.size ≤ W.heap.size)
  (hb : ∀ g x, bs[g]? = some x → x = .dead ∨ ∃ k ds, x = tabB k ds ∧ TabAt W g k ds) : Rel P.globals.size (emb0 bs) (heapOf bs) W where
 lt := fun b i h => (emb0_some h).1
 bnd := fun b i h => by
  obtain ⟨h1, rfl⟩ := emb0_some h
  show b < _
  omega
 glob := fun g hg => ⟨_, by unfold emb0; rw [if_pos (by omega)], rfl, rfl⟩
 obj := fun b i x h hg => by
  obtain ⟨h1, rfl⟩ := emb0_some h
  rw [heapOf_get] at hg
  rcases hb b x hg with rfl | ⟨k, ds, rfl, hk, hds, C, ty, z, hC, rfl⟩
  · trivial
  · have hl : lenOf bs[b]? = ds.length := by rw [hg]; rfl
    rw [hl]
    refine ⟨rfl, rfl, by simp, _, ty, z, hC, by simp, (by intro h; cases h), fun j hj => ?_⟩
    refine ⟨.i k ds[j], .int (kindOf k) ((kindOf k).wrap ((ds[j] : Nat) : Int)), ?_, ?_, .i k _ hk (hds _ (List.getElem_mem hj))⟩
    · rw [BT.get_ofList]; simp [hj]
    · simp [hj]
 sep := fun b1 i1 b2 i2 h1 h2 hne ho ha => by
  obtain ⟨q1, rfl⟩ := emb0_some h1
  obtain ⟨q2, rfl⟩ := emb0_some h2
  exact hne
def okRes (N : Nat) (r : ORes) : Bool :=
 ORes.rec (motive := fun _ => Bool) (fun v H => avB false (fun b => Bool.rec (motive := fun _ => Bool) false (Nat.ble N H.low) b) v) (fun _ _ => false) false r
theorem okRes_spec {N : Nat} {r : ORes} (h : okRes N r = true) : ∃ H, r = .v (.b true) H ∧ N ≤ H.low := by
 cases r with
 | v v H =>
  cases v with
  | b t =>
   cases t with
   | true => exact ⟨H, rfl, Nat.le_of_ble_eq_true h⟩
   | false => cases h
  | _ => cases h
 | _ => cases h
def Kept (W w' : World) : Prop := w'.os = W.os ∧ w'.output = W.output ∧ ∀ B, B < W.heap.size → w'.heap[B]? = W.heap[B]?
theorem Kept.but {W w' : World} (h : Kept W w') (may : MemPlace → Prop) : W.keptBut w' may := by
 refine ⟨h.1, h.2.1, fun i hi => ?_⟩
 rw [h.2.2 i hi]
 cases hx : W.heap[i]? with
 | none => rfl
 | some o =>
  cases o with
  | cells c t z => exact ⟨rfl, rfl, rfl, fun _ _ => rfl⟩
  | map es clock => exact .inr ⟨rfl, rfl⟩
  | _ => rfl
theorem law_calls {P : Program} {F : Fs} (hF : FsOk P F) {dc : DCheck} {f : Nat} {K : KFun} (hk : K.ok P dc f = true) {args : List AV} {args' : List Value} {e : Emb} {H : AHeap} {W : World} (hres : okRes H.nxt (F f args H) = true) (hr : Rel P.globals.size e H W) (ha : VRels e args args') :
  Calls P f args'.toArray W (fun E w' => E = .returned (.bool true) ∧ Kept W w') := by
 obtain ⟨H', h1, h2⟩ := okRes_spec hres
 have h3 := hF f args H
 rw [h1] at h3
 have conv : ∀ E w', (∃ e' v', E = Ending.returned v' ∧ VRel e' (.b true) v' ∧ Evo P.globals.size e H W e' H' w') → E = .returned (.bool true) ∧ Kept W w' := by
  rintro E w' ⟨e', v', rfl, hv, hev⟩
  cases hv
  refine ⟨rfl, hev.os, hev.out, fun B hB => hev.frame B hB fun b i hb _ => .inr ?_⟩
  have := hr.lt b i hb
  omega
 rcases h3 e W args' hr ha with ⟨_, q⟩ | ⟨v, w', q, _⟩
 · exact Calls.mono q conv
 · exfalso
   unfold KFun.ok at hk
   cases hf : P.funcs[f]? with
   | none => rw [hf] at hk; cases hk
   | some fn =>
    rw [hf] at hk
    simp only [Bool.and_eq_true] at hk
    cases hb : fn.body with
    | none => rw [hb] at hk; exact absurd hk.2 (by simp)
    | some c =>
     rw [run_callFunc hf hk.1.1.1.1.1.1 hb] at q
     cases q
theorem handed_shaped {H : Type} {enc : TypeId × Value → H} {a : Assume} {C : Checked} {os : Os} {f : FuncId} {fn : Func} {s : ChangeSpec} {conds : List PathCond} {apart fresh handsOn again : Bool} {X : World → Array Value → Prop}
  (hX : ∀ (w w' : World) (args : Array Value), w.heap = w'.heap → X w args → X w' args)
  (own : ownKnob C.prog.godebug = none) (started : os.Started) (noInit : C.prog.inits.idxOf? f = none) (hfn : C.prog.funcs[f]? = some fn)
  (witness : ∃ (w : World) (tape : Tape) (i : Input), w.os = os ∧ (w.forCall tape i).Shaped C.prog ∧ i.vars = [] ∧ Input.okWide C.prog (w.forCall tape i) .any w.heap.size f i ∧
   ((s.pre enc C.prog fn conds apart (w.forCall tape i).memory i.args ∧ X (w.forCall tape i).memory i.args) ∧ sizedMet enc C.prog fn (OpenSpec.ofChange s) apart (w.forCall tape i).memory i.args) ∧ a.holds C.prog (lone (Frame.enter C.prog f i.args .normal) [] (w.forCall tape i)))
  (contract : ∀ (W : World) (base : Nat) (args : Array Value) (ds gs : List (DataW H)) (before : List MemPlace), W.ShapedOpen C.prog →
   (∀ (j : Nat) t v, fn.params[j]? = some t → args[j]? = some v → Value.okWide C.prog W .any base t v) →
   DataW.Whole enc C.prog fn.params.toList s.vars apart W args.toList ds gs before → X W args →
   Calls C.prog f args W fun e W' => ∃ v, e = .returned v ∧ s.post enc C.prog fn apart fresh handsOn again W args v W') :
  ReturnsInHanded a C os f .any (fun w args => (s.pre enc C.prog fn conds apart w args ∧ X w args) ∧ sizedMet enc C.prog fn (OpenSpec.ofChange s) apart w args) (s.post enc C.prog fn apart fresh handsOn again) := by
 refine returnsInHanded_of_calls own started noInit witness ?_
 intro w tape i _ hsh _ hok hpre _
 obtain ⟨_, _, _, fn', hfn', _, _, _, _, hval⟩ := hok
 have e : fn' = fn := Option.some.inj (hfn'.symm.trans hfn)
 subst e
 obtain ⟨⟨⟨ds, gs, before, hw, _⟩, hx⟩, _⟩ := hpre
 have hw' := DataW.Whole.of_heap (w' := w.forCall tape i) (by rfl) hw
 refine (contract (w.forCall tape i) w.heap.size i.args ds gs before hsh hval hw' (hX _ _ _ (by rfl) hx)).mono fun e W' ⟨v, he, hp⟩ => ?_
 subst he
 exact ChangeSpec.post_blind hp
theorem post_kept {H : Type} {enc : TypeId × Value → H} {P : Program} {f : Func} {s : ChangeSpec} {apart fresh handsOn : Bool} {W W' : World} {args : Array Value} {v : Value} {ds gs : List (DataW H)} {before pa pv : List MemPlace}
  (hW : DataW.Whole enc P f.params.toList s.vars apart W args.toList ds gs before)
  (hres : ∀ (b : Nat) (sp : Nat → Bool) (hd : Bool), DataW.TrodAll enc P W' b sp hd f.resultTypes.toList (v.resultList f.resultTypes.size) (s.fn H (ds ++ gs)).results [])
  (hargs : ∀ sp : Nat → Bool, DataW.TrodAll enc P W' 0 sp true f.params.toList args.toList (s.fn H (ds ++ gs)).args pa)
  (hvars : ∀ sp : Nat → Bool, DataW.TrodVars enc P W' sp s.vars (s.fn H (ds ++ gs)).vars pv) (hk : Kept W W') : s.post enc P f apart fresh handsOn false W args v W' :=
 ⟨ds, gs, before, [], pa, pv, hW, hres _ _ _, hargs _, hvars _, hk.but _, fun h => by cases h⟩
def shapedB (P : Program) : Bool := (List.range P.globals.size).all fun g => (((begin P (fun _ _ => 0) default).world.heap[g]?).bind Obj.row?).isSome
theorem shaped_size {P : Program} {W : World} (hs : W.ShapedOpen P) (hb : shapedB P = true) : P.globals.size ≤ W.heap.size := by
 rcases Nat.lt_or_ge W.heap.size P.globals.size with h | h
 · exfalso
   unfold shapedB at hb
   rw [List.all_eq_true] at hb
   have h1 := hb W.heap.size (by simpa using h)
   obtain ⟨⟨zero, t⟩, hz⟩ := Option.isSome_iff_exists.1 h1
   obtain ⟨cs, hcs, _⟩ := hs.1 W.heap.size zero t h hz
   simp at hcs
 · exact h
theorem tabAt_of {P : Program} {W : World} {name : String} {k : Nat} {ds : List Nat} {g : Nat} (hg : P.globalNamed name = some g) (hk : k < 8) (hds : (ds.all fun d => Nat.ble (d + 1) (2 ^ (kindOf k).bits)) = true)
  (h : Lib.TabIs P W name (kindOf k) (ds.map fun (d : Nat) => (kindOf k).wrap (d : Int))) : TabAt W g k ds := by
 refine ⟨hk, fun d hd => ?_, ?_⟩
 · have := List.all_eq_true.1 hds d hd
   rw [ble_tt] at this
   exact this
 · unfold Lib.TabIs World.var? at h
   rw [hg] at h
   simp only [Option.bind_some] at h
   split at h
   · rename_i cs ty z hc
     refine ⟨cs, ty, z, hc, ?_⟩
     simp only [Option.some.injEq] at h
     rw [h, List.map_map]
     rfl
   · cases h
theorem tail_laid {P : Program} {x : String × DataW Unit} {r : List (String × DataW Unit)} {w : World} (h : laidMet P (x :: r) w) : laidMet P r w := by
 obtain ⟨ps, hv, hnd, hrows⟩ := h
 obtain ⟨n, d⟩ := x
 obtain ⟨g, t, cs, fuel, p, q, _, _, _, _, hq, rfl⟩ := hv
 exact ⟨q, hq, List.Nodup.sublist (List.sublist_append_right _ _) hnd, fun b off hm => hrows b off (List.mem_append_right _ hm)⟩
theorem wrap_self {z : Int} (hz : (Lit.int .i64 z).wf = true) : IntKind.i64.wrap z = z := by
 have h : IntKind.i64.min ≤ z ∧ z ≤ IntKind.i64.max := by simpa [Lit.wf] using hz
 have h1 : IntKind.i64.min = -9223372036854775808 := by decide
 have h2 : IntKind.i64.max = 9223372036854775807 := by decide
 rw [h1, h2] at h
 unfold IntKind.wrap
 have hb : (2 : Int) ^ IntKind.i64.bits = 18446744073709551616 := by decide
 have hb2 : (2 : Int) ^ (IntKind.i64.bits - 1) = 9223372036854775808 := by decide
 have hs : IntKind.i64.signed = true := rfl
 simp only [hb, hb2, hs]
 by_cases h0 : 0 ≤ z
 · have : z % 18446744073709551616 = z := by omega
   rw [this, if_neg (by simp; omega)]
 · have : z % 18446744073709551616 = z + 18446744073709551616 := by omega
   rw [this, if_pos (by simp; omega)]
   omega
theorem vrel_any (e : Emb) {z : Int} (hz : (Lit.int .i64 z).wf = true) : VRel e (.x (.rg 3 0 18446744073709551615)) (.int .i64 z) := by
 have hw : (kindOf 3).wrap z = z := by
  exact wrap_self hz
 have h := vrel_int e 3 (by omega) z _ rfl
 rw [hw] at h
 refine vrel_rg h (Nat.zero_le _) ?_
 have := digs_lt (kindOf 3) z
 have hb : 2 ^ (kindOf 3).bits = 18446744073709551616 := by decide
 rw [hb] at this
 omega
theorem vrel_leftR (e : Emb) {z : Int} (hz : (Lit.int .i64 z).wf = true) {m r lo hi : Nat} (hr : z % (m : Int) = r) (h1 : lo ≤ r) (h2 : r ≤ hi) (h3 : hi < 65536) : VRel e (.x (.sy m (lo * 65536 + hi))) (.int .i64 z) := by
 have hw : (kindOf 3).wrap z = z := by
  exact wrap_self hz
 have h := wrap_digs (kindOf 3) z
 rw [hw] at h
 have := VRel.sy (e := e) m (lo * 65536 + hi) (digs (kindOf 3) z) (digs_lt _ _) ⟨r, by rw [← h]; exact hr, by omega, by omega⟩
 rw [← h] at this
 exact this
theorem vrel_left (e : Emb) {z : Int} (hz : (Lit.int .i64 z).wf = true) {m r : Nat} (hr : z % (m : Int) = r) (h3 : r < 65536) : VRel e (.x (.sy m (r * 65536 + r))) (.int .i64 z) := vrel_leftR e hz hr (Nat.le_refl _) (Nat.le_refl _) h3
theorem byte_of {z : Int} (hz : (Lit.int .u8 z).wf = true) : ∃ r : Nat, z = r ∧ r < 256 := by
 have h : IntKind.u8.min ≤ z ∧ z ≤ IntKind.u8.max := by simpa [Lit.wf] using hz
 have h1 : IntKind.u8.min = 0 := by decide
 have h2 : IntKind.u8.max = 255 := by decide
 rw [h1, h2] at h
 exact ⟨z.toNat, by omega, by omega⟩
theorem wrap_u8 (r : Nat) (h : r < 256) : (kindOf 4).wrap (r : Int) = r := by
 show (IntKind.u8).wrap (r : Int) = r
 simp [IntKind.wrap, IntKind.bits, IntKind.signed]; omega
theorem vrel_byteR (e : Emb) {z : Int} {r lo hi : Nat} (hz : z = r) (h3 : r < 256) (h1 : lo ≤ r) (h2 : r ≤ hi) : VRel e (.x (.rg 4 lo hi)) (.int .u8 z) := by
 have := VRel.rg (e := e) 4 lo hi r (by omega) h3 h1 h2
 rw [wrap_u8 r h3] at this
 rw [hz]; exact this
theorem vrel_byte (e : Emb) {z : Int} {r k : Nat} (hz : z = r) (h : r = k ∧ k < 256) : VRel e (.i 4 k) (.int .u8 z) := by
 have := VRel.i (e := e) 4 k (by omega) h.2
 rw [wrap_u8 k h.2] at this
 rw [hz, h.1]; exact this
theorem left_of (z : Int) (m : Nat) (hm : 0 < m) : ∃ r : Nat, z % (m : Int) = r ∧ r < m := by
 have h0 := Int.emod_nonneg z (show (m : Int) ≠ 0 by omega)
 have h1 := Int.emod_lt_of_pos z (show (0 : Int) < (m : Int) by omega)
 exact ⟨(z % (m : Int)).toNat, by omega, by omega⟩
end
end Go.Ab
