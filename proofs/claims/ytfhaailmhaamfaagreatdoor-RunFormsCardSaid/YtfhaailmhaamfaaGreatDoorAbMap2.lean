/- Maps whose keys are structs of whole numbers, bools, strings: a key may be hashed. -/
import Derived.Test.YtfhaailmhaamfaaGreatDoorAbMap
namespace Go.Ab
open Go
noncomputable section

def FreeAt (P : Program) (D : Nat) (t : TypeId) (n : Nat) : Prop :=
  ∀ (b : Bool) (xs : List Value) (w : World), xs.length = n →
    (aggOf P t = some (some n) ∧ (Instr.checkKey b D t (.agg xs.toArray)).run P w = .ok () w) ∨
    (aggOf P t = some none ∧ n = 1 ∧ ∃ x, xs = [x] ∧ (Instr.checkKey b D t x).run P w = .ok () w)

theorem run_part_agg {P : Program} {t : TypeId} {n : Nat} (h : aggOf P t = some (some n)) (px xs : List Value) (w : World) : (part t (px ++ xs).toArray px.length).run P w = .ok (.agg (xs.take n).toArray) w := by
  obtain ⟨t1, t2⟩ := run_isAgg_some h w
  simp only [part, Sem.run_bind, t1, t2, Result.andThen_ok, if_true, Sem.run_pure]
  congr 2
  apply Array.ext'
  simp [List.extract_eq_take_drop]
theorem run_part_one {P : Program} {t : TypeId} (h : aggOf P t = some none) (px xs : List Value) (x : Value) (w : World) : (part t (px ++ x :: xs).toArray px.length).run P w = .ok x w := by
  have t1 := run_isAgg_none h w
  have ex : (px ++ x :: xs).toArray[px.length]? = some x := by
    simp only [List.getElem?_toArray]
    rw [List.getElem?_append_right (Nat.le_refl _), Nat.sub_self]; rfl
  simp only [part, Sem.run_bind, t1, Result.andThen_ok, Bool.false_eq_true, if_false, ex, Sem.run_pure]

theorem forIn_run {P : Program} {α : Type} (w : World) (g : α → PUnit → Sem (ForInStep PUnit)) : ∀ (l : List α), (∀ a ∈ l, (g a ⟨⟩).run P w = .ok (.yield ⟨⟩) w) → (forIn l PUnit.unit g).run P w = .ok ⟨⟩ w
  | [], _ => by simp
  | a :: l, h => by
    rw [List.forIn_cons]
    simp only [Sem.run_bind, h a (by simp), Result.andThen_ok]
    exact forIn_run w g l fun b hb => h b (List.mem_cons_of_mem _ hb)

theorem freeFields {P : Program} {D : Nat} {f : TypeId → Option (List Nat)} (hf : ∀ t ks, f t = some ks → FreeAt P D t ks.length) (b : Bool) (w : World) : ∀ (fs : List Field) (off : Nat) (ks : List Nat), flatFields f fs off = some ks →
    ∀ (px xs : List Value), px.length = off → xs.length = ks.length → ∀ g ∈ fs, ∃ u, (part g.type (px ++ xs).toArray g.offset).run P w = .ok u w ∧ (Instr.checkKey b D g.type u).run P w = .ok () w
  | [], off, ks, h, px, xs, hpx, hxs, g, hg => by cases hg
  | g0 :: fs, off, ks, h, px, xs, hpx, hxs, g, hg => by
    simp only [flatFields] at h
    split at h
    · rename_i hg0
      cases hk : f g0.type with
      | none => rw [hk] at h; cases h
      | some k1 =>
        rw [hk] at h
        simp only [Option.bind_some] at h
        cases hr : flatFields f fs (off + k1.length) with
        | none => rw [hr] at h; cases h
        | some k2 =>
          rw [hr] at h
          cases h
          simp only [List.length_append] at hxs
          rcases List.mem_cons.1 hg with rfl | hg
          · have := hf g.type k1 hk b (xs.take k1.length) w (by simp; omega)
            rw [hg0.2, ← hpx]
            rcases this with ⟨ha, hq⟩ | ⟨ha, hlen, x, hxx, hq⟩
            · exact ⟨_, run_part_agg ha px xs w, hq⟩
            · cases xs with
              | nil => simp at hxx
              | cons q xs =>
                rw [hlen] at hxx
                simp at hxx
                subst hxx
                exact ⟨_, run_part_one ha px xs q w, hq⟩
          · have ih := freeFields hf b w fs (off + k1.length) k2 hr (px ++ xs.take k1.length) (xs.drop k1.length) (by simp; omega) (by simp; omega) g hg
            simpa only [List.append_assoc, List.take_append_drop] using ih
    · cases h

theorem free_flat {P : Program} : ∀ (d D : Nat) (t : TypeId) (ks : List Nat), flatOf P d t = some ks → FreeAt P (D + d) t ks.length
  | 0, _, _, _, h => by cases h
  | d + 1, D, t, ks, h => by
    intro b xs w hxs
    unfold flatOf at h
    have hagg : ∀ dd, P.underlying t = some dd → (∀ fs, dd ≠ .struct fs) → (∀ n e, dd ≠ .array n e) → aggOf P t = some none := by
      intro dd hd h1 h2
      unfold aggOf
      rw [hd]
      cases dd <;> simp_all
    have plain : ∀ dd, P.underlying t = some dd → (∀ ms, dd ≠ .interface ms) → (∀ n e, dd ≠ .array n e) → (∀ fs, dd ≠ .struct fs) → ks.length = 1 → aggOf P t = some none →
        (aggOf P t = some (some ks.length) ∧ (Instr.checkKey b (D + (d + 1)) t (.agg xs.toArray)).run P w = .ok () w) ∨ (aggOf P t = some none ∧ ks.length = 1 ∧ ∃ x, xs = [x] ∧ (Instr.checkKey b (D + (d + 1)) t x).run P w = .ok () w) := by
      intro dd hd h1 h2 h3 hl ha
      rw [hl] at hxs
      match xs, hxs with
      | [x], _ =>
        refine .inr ⟨ha, hl, x, rfl, ?_⟩
        rw [show D + (d + 1) = (D + d) + 1 by omega]
        simp only [Instr.checkKey, Sem.run_bind, run_underlying hd, Result.andThen_ok]
        cases dd <;> simp_all
    cases hu : P.underlying t with
    | none => rw [hu] at h; cases h
    | some dd =>
      rw [hu] at h
      cases dd with
      | int K => cases h; exact plain _ hu (by simp) (by simp) (by simp) rfl (hagg _ hu (by simp) (by simp))
      | bool => cases h; exact plain _ hu (by simp) (by simp) (by simp) rfl (hagg _ hu (by simp) (by simp))
      | string => cases h; exact plain _ hu (by simp) (by simp) (by simp) rfl (hagg _ hu (by simp) (by simp))
      | struct fs =>
        simp only at h
        split at h
        · cases h
        · cases hff : flatFields (flatOf P d) fs.toList 0 with
          | none => rw [hff] at h; cases h
          | some ks' =>
            rw [hff] at h
            simp only [Option.bind_some] at h
            split at h
            · rename_i hsz
              cases h
              have hag : aggOf P t = some (some ks.length) := by
                unfold aggOf
                rw [hu]
                simp only
                unfold szOf at hsz
                simpa using hsz
              refine .inl ⟨hag, ?_⟩
              have hfr := freeFields (P := P) (D := D + d) (fun t ks h => free_flat d D t ks h) b w fs.toList 0 ks hff [] xs rfl hxs
              rw [show D + (d + 1) = (D + d) + 1 by omega]
              simp only [Instr.checkKey, Sem.run_bind, run_underlying hu, Result.andThen_ok]
              rw [← Array.forIn_toList]
              refine (congrArg (fun r => Result.andThen r fun a w' => Sem.run P (pure ()) w') (forIn_run (P := P) w _ fs.toList fun g hg => ?_)).trans rfl
              obtain ⟨u, q1, q2⟩ := hfr g hg
              simp only [List.nil_append] at q1
              by_cases hn : g.name = "_"
              · simp [hn]
              · simp [hn, q1, q2]
            · cases h
      | _ => cases h

def aggLen (n : Nat) (v : AV) : Bool := avX false (axAgg false (fun l => Nat.beq l.length n)) v
theorem keyFree_cells {P : Program} {kt : TypeId} {d : Nat} {ks : List Nat} (h : flatOf P d kt = some ks) (hag : aggOf P kt ≠ some none) (hd : d ≤ 10000) : KeyFree P kt (aggLen ks.length) := by
  intro e x x' b w hx hk
  cases x with
  | x u =>
    cases u with
    | agg l =>
      have hl : l.length = ks.length := Nat.eq_of_beq_eq_true hk
      cases hx with
      | agg _ xs hxs =>
      have := free_flat d (10000 - d) kt ks h b xs w (by rw [← hxs.length, hl])
      rw [show 10000 - d + d = 10000 by omega] at this
      rcases this with ⟨_, q⟩ | ⟨q, _⟩
      · exact q
      · exact absurd q hag
    | _ => cases hk
  | _ => cases hk
end
end Go.Ab
