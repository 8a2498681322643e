/- Regions that draw their order (4): what each entry of a run says. -/
import Derived.Test.YtfhaailmhaamfaaGreatDoorAbE1
namespace Go.Ab
open Go
noncomputable section

theorem deadsL_get (n b : Nat) (h : b < n) : ((deads n).withLow n).get b = some .dead := by rw [AHeap.get_withLow]; exact deads_get n b h

/-- Nothing is done. -/
theorem Mem.still (kk : Prop) (H : AHeap) : Mem kk [] H H (fun _ => False) (deads H.nxt) (deads H.nxt) where
  ny := rfl
  yb := fun b hb => .inl (deads_get _ _ hb)
  te := fun _ h => h.elim
  g1 := fun _ h => h.elim
  g2 := fun b h1 h2 => by omega
  g0 := fun _ _ _ => rfl
  n' := by rw [deads_nxt]; omega
  l0 := Nat.le_refl _
  l1 := .inr (Nat.le_refl _)
  kind := .inr ⟨fun _ h => h.elim, fun b hb => .inr (.inl (deads_get _ _ hb))⟩
  dn := fun _ h => by cases h

theorem KD.run_stp {F : Fs} {d : KD} {D g : List Nat} {en : Env} {H : AHeap} {next : Env → AHeap → Res} (hz : d.cls = .z → d.x.op.isZ = true) (h : d.run F D g en H next ≠ .fail) :
    ∃ E' H' Te, Stp F d D g en H E' H' Te ∧ d.run F D g en H next = next E' H' := by
  have heq : d.run F D g en H next = Option.rec (motive := fun _ => Res) .fail (fun t => Bool.rec (motive := fun _ => Res) (next (d.x.put undefA en) H)
    (KCls.rec (motive := fun _ => Res) (runZ F d.x en H next) (runR F d.x D en H next) (runW F d.x g en H next) (runK F d.x en H next) d.cls) t) (d.x.want en) := rfl
  rw [heq] at h ⊢
  cases hw : d.x.want en with
  | none => rw [hw] at h; exact absurd rfl h
  | some t =>
    rw [hw] at h
    cases t with
    | false =>
      refine ⟨_, H, fun _ => False, ⟨⟨false, undefA, deads H.nxt, deads H.nxt, [], hw, rfl, nofun, fun _ => ⟨rfl, rfl⟩, Mem.still _ H, fun _ => .inr fun b hb => deads_get _ _ hb, fun _ b hb => deads_get _ _ hb⟩, fun _ => ⟨fun _ h => h, rfl⟩, fun _ => ⟨fun _ h => h, fun b _ => by omega⟩, fun _ _ h => h.elim⟩, rfl⟩
    | true =>
      cases hc : d.cls with
      | z =>
        rw [hc] at h
        have h' : runZ F d.x en H next ≠ .fail := h
        show ∃ E' H' Te, Stp F d D g en H E' H' Te ∧ runZ F d.x en H next = next E' H'
        obtain ⟨v, X, hv, hr⟩ := vRes_spec h'
        obtain ⟨o, ho⟩ := KOp.zden (F := F) en d.x.op (hz hc)
        have ho' := ho H
        dsimp only at ho'
        rw [hv] at ho'
        have hov : o = some v := by
          cases o with
          | none => cases ho'
          | some u => cases ho'; rfl
        subst hov
        refine ⟨_, H, fun _ => False, ⟨⟨true, v, deads H.nxt, deads H.nxt, [], hw, rfl, fun _ => ho _, nofun, Mem.still _ H, fun _ => .inr fun b hb => deads_get _ _ hb, fun _ b hb => deads_get _ _ hb⟩, fun _ => ⟨fun _ h => h, rfl⟩, fun h => (by rw [hc] at h; cases h), fun h => (by rw [hc] at h; cases h)⟩, hr⟩
      | r =>
        rw [hc] at h
        have h' : runR F d.x D en H next ≠ .fail := h
        show ∃ E' H' Te, Stp F d D g en H E' H' Te ∧ runR F d.x D en H next = next E' H'
        unfold runR at h' ⊢
        obtain ⟨v, X, hv, hr⟩ := vRes_spec h'
        rw [hr] at h' ⊢
        obtain ⟨hcd, hr2⟩ := rIf_spec h'
        rw [hr2]
        rw [bAnd_iff, ble_tt, allN_iff] at hcd
        obtain ⟨h1, h2⟩ := hcd
        have hdn0 : ∀ b ∈ D, (b < H.nxt ∧ ∃ y, H.get b = some y) ∨ (growN X H).nxt ≤ b := fun b hb => by
          have := h2 b hb
          rw [bOr_iff, bAnd_iff, bAnd_iff, ble_tt, ble_tt, ble_tt] at this
          rw [growN_nxt]
          rcases this with ⟨q1, q2⟩ | ⟨q1, q2⟩
          · exact .inl ⟨q1, hasB_spec q2⟩
          · exact .inr (by omega)
        have hdn : ∀ b ∈ D, b < H.nxt ∨ (growN X H).nxt ≤ b := fun b hb => (hdn0 b hb).imp And.left id
        refine ⟨_, growN X H, fun _ => False, ⟨⟨true, v, _, X, D, hw, rfl, fun _ => hv, nofun, ?_, fun _ => .inl rfl, fun h => (by rw [hc] at h; cases h)⟩, fun h => (by rw [hc] at h; cases h), fun _ => ⟨fun _ h => h, hdn⟩, fun h => (by rw [hc] at h; cases h)⟩, rfl⟩
        exact {
          ny := kills_nxt D H
          yb := fun b hb => by
            rw [AHeap.get_withLow]
            rcases kills_get D H b with q | ⟨q1, q2⟩
            · exact .inl q
            · refine .inr ⟨q1, fun hD => ?_⟩
              have hnone := q2 hb hD
              rcases hdn0 b hD with ⟨_, y, hy⟩ | hg
              · rw [hnone] at hy; cases hy
              · rw [growN_nxt] at hg; omega
          te := fun _ h => h.elim
          g1 := fun _ h => h.elim
          g2 := fun b hb1 hb2 => growN_new X H b hb1 hb2
          g0 := fun b hb _ => growN_old X H b hb
          n' := growN_nxt X H
          l0 := by rw [growN_low]; exact Nat.le_refl _
          l1 := .inr h1
          kind := .inr ⟨fun _ h => h.elim, fun b hb => .inr (.inr (Nat.lt_of_lt_of_le hb h1))⟩
          dn := hdn }
      | w =>
        rw [hc] at h
        have h' : runW F d.x g en H next ≠ .fail := h
        show ∃ E' H' Te, Stp F d D g en H E' H' Te ∧ runW F d.x g en H next = next E' H'
        unfold runW at h' ⊢
        generalize d.x.op.tgts en = T at h' ⊢
        obtain ⟨hcd, hr2⟩ := rIf_spec h'
        rw [hr2] at h' ⊢
        obtain ⟨v, X, hv, hr⟩ := vRes_spec h'
        rw [hr] at h' ⊢
        obtain ⟨hcd2, hr3⟩ := rIf_spec h'
        rw [hr3]
        rw [allN_iff] at hcd hcd2
        have hT : ∀ b ∈ T, b ∈ g ∧ b < H.nxt ∧ H.owned b := fun b hb => by
          have := hcd b hb
          rw [bAnd_iff, bAnd_iff, memN_iff, ble_tt] at this
          exact ⟨this.1, this.2.1, ownB_spec this.2.2⟩
        have hsome : ∀ b ∈ T, ∃ y, H.get b = some y := fun b hb => by
          rcases (hT b hb).2.2 with ⟨n, t, sp, q⟩ | ⟨es, q⟩ <;> exact ⟨_, q⟩
        have hY := patch_get H T (deads H.nxt) fun b hb => ⟨(hT b hb).2.1, hsome b hb, _, deads_get _ _ (hT b hb).2.1⟩
        have hX := patch_get X T H fun b hb => ⟨(hT b hb).2.1, hasB_spec (hcd2 b hb), hsome b hb⟩
        have hYn : ((patch H T (deads H.nxt)).withLow H.nxt).nxt = H.nxt := patch_nxt H T (deads H.nxt)
        have hYT : ∀ b, b ∈ T → ((patch H T (deads H.nxt)).withLow H.nxt).get b = H.get b := fun b hb => by rw [AHeap.get_withLow, hY, if_pos hb]
        have hYD : ∀ b, b < H.nxt → b ∉ T → ((patch H T (deads H.nxt)).withLow H.nxt).get b = some .dead := fun b hb hn => by rw [AHeap.get_withLow, hY, if_neg hn]; exact deads_get _ _ hb
        refine ⟨_, _, fun b => b ∈ T, ⟨⟨true, v, _, X, [], hw, rfl, fun _ => hv, nofun, ?_, fun h => (by rw [hc] at h; cases h), fun h => (by rw [hc] at h; cases h)⟩, fun h => (by rw [hc] at h; cases h), fun h => (by rw [hc] at h; cases h), fun _ b hb => (hT b hb).1⟩, rfl⟩
        exact {
          ny := hYn
          yb := fun b hb => by
            by_cases hbT : b ∈ T
            · exact .inr ⟨hYT b hbT, fun h => by cases h⟩
            · exact .inl (hYD b hb hbT)
          te := fun b hb => ⟨(hT b hb).2.1, hYT b hb, nofun⟩
          g1 := fun b hb => by
            rw [AHeap.get_withLow, growN_old _ _ _ (by rw [patch_nxt]; exact (hT b hb).2.1), hX, if_pos hb]
          g2 := fun b hb1 hb2 => by
            rw [AHeap.get_withLow]
            exact growN_new X _ b (by rw [patch_nxt]; exact hb1) hb2
          g0 := fun b hb hn => by
            rw [AHeap.get_withLow, growN_old _ _ _ (by rw [patch_nxt]; exact hb), hX, if_neg hn]
          n' := by show (growN X (patch X T H)).nxt = _; rw [growN_nxt, patch_nxt]
          l0 := by show minL H.low X.low ≤ _; rw [minL_eq]; omega
          l1 := .inl (by show minL H.low X.low ≤ _; rw [minL_eq]; omega)
          kind := .inr ⟨fun b hb => by
              have := (hT b hb).2.2
              unfold AHeap.owned at this ⊢
              rw [hYT b hb]; exact this, fun b hb => by
              by_cases hbT : b ∈ T
              · exact .inl hbT
              · exact .inr (.inl (hYD b hb hbT))⟩
          dn := fun _ h => by cases h }
      | k =>
        rw [hc] at h
        have h' : runK F d.x en H next ≠ .fail := h
        show ∃ E' H' Te, Stp F d D g en H E' H' Te ∧ runK F d.x en H next = next E' H'
        unfold runK at h' ⊢
        obtain ⟨v, X, hv, hr⟩ := vRes_spec h'
        rw [hr] at h' ⊢
        obtain ⟨hcd, hr2⟩ := rIf_spec h'
        rw [hr2]
        rw [ble_tt] at hcd
        refine ⟨_, _, fun b => b < H.nxt, ⟨⟨true, v, H, X, [], hw, rfl, fun _ => hv, nofun, ?_, fun h => (by rw [hc] at h; cases h), fun h => (by rw [hc] at h; cases h)⟩, fun h => (by rw [hc] at h; cases h), fun h => (by rw [hc] at h; cases h), fun h => (by rw [hc] at h; cases h)⟩, rfl⟩
        exact {
          ny := rfl
          yb := fun b hb => .inr ⟨rfl, fun h => by cases h⟩
          te := fun b hb => ⟨hb, rfl, nofun⟩
          g1 := fun b hb => rfl
          g2 := fun b _ _ => .inl rfl
          g0 := fun b hb hn => absurd hb hn
          n' := by show X.nxt = _; omega
          l0 := by show minL H.low X.low ≤ _; rw [minL_eq]; omega
          l1 := .inl (by show minL H.low X.low ≤ _; rw [minL_eq]; omega)
          kind := .inl ⟨hc, fun b hb => hb⟩
          dn := fun _ h => by cases h }

/-- The run's stages. -/
structure Trace (F : Fs) (gs : List (List Nat)) (l : List KD) (gr : List (List Nat)) (E : Nat → Env) (Hf : Nat → AHeap) (Te : Nat → Nat → Prop) : Prop where
  stp : ∀ (i : Nat) (d : KD), l[i]? = some d → Stp F d (deadsOf gs d.us) ((gr[i]?).getD []) (E i) (Hf i) (E (i + 1)) (Hf (i + 1)) (Te i)

theorem headL_eq (l : List (List Nat)) : headL l = (l[0]?).getD [] := by cases l <;> rfl
theorem tailL_eq (l : List (List Nat)) (i : Nat) : (tailL l)[i]? = l[i + 1]? := by cases l <;> simp [tailL]

theorem runD_trace {F : Fs} {gs : List (List Nat)} : ∀ (l : List KD) (gr : List (List Nat)) (en : Env) (H : AHeap), (∀ d ∈ l, d.cls = .z → d.x.op.isZ = true) → runD F gs l gr en H ≠ .fail →
    ∃ E Hf Te, E 0 = en ∧ Hf 0 = H ∧ runD F gs l gr en H = .nrm (E l.length) (Hf l.length) ∧ Trace F gs l gr E Hf Te
  | [], gr, en, H, _, _ => ⟨fun _ => en, fun _ => H, fun _ _ => False, rfl, rfl, rfl, ⟨fun i d h => by simp at h⟩⟩
  | d :: l, gr, en, H, hz, h => by
    rw [runD_cons] at h ⊢
    obtain ⟨E', H', T', hs, hr⟩ := KD.run_stp (hz d (by simp)) h
    rw [hr] at h ⊢
    obtain ⟨E, Hf, Te, h0, h1, h2, h3⟩ := runD_trace l (tailL gr) E' H' (fun d hd => hz d (List.mem_cons_of_mem _ hd)) h
    refine ⟨fun i => Nat.casesOn i en E, fun i => Nat.casesOn i H Hf, fun i => Nat.casesOn i T' Te, rfl, rfl, h2, ⟨fun i x hx => ?_⟩⟩
    cases i with
    | zero =>
      simp only [List.getElem?_cons_zero, Option.some.injEq] at hx
      subst hx
      show Stp F d (deadsOf gs d.us) ((gr[0]?).getD []) en H (E 0) (Hf 0) T'
      rw [h0, h1, ← headL_eq]; exact hs
    | succ i =>
      simp only [List.getElem?_cons_succ] at hx
      have := h3.stp i x hx
      rw [tailL_eq] at this
      exact this
end
end Go.Ab
