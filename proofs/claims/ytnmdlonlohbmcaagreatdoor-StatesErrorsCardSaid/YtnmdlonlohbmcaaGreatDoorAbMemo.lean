/- What a function comes to where no memory is looked at, it comes to everywhere. -/
import Derived.Test.YtnmdlonlohbmcaaGreatDoorAbF
namespace Go.Ab
open Go
noncomputable section

/-- Nothing that was there has changed. -/
theorem Evo.still {G : Nat} {e : Emb} {H : AHeap} {w w' : World} (hr : Rel G e H w) (hs : w.heap.size ≤ w'.heap.size) (ht : w'.tape = w.tape) (hos : w'.os = w.os) (hout : w'.output = w.output) (hf : ∀ B, B < w.heap.size → w'.heap[B]? = w.heap[B]?) : Evo G e H w e H w' where
  rel := {
    lt := hr.lt
    bnd := fun b i hb => Nat.lt_of_lt_of_le (hr.bnd b i hb) hs
    glob := hr.glob
    obj := fun b i x hb hg => by rw [hf _ (hr.bnd b i hb)]; exact hr.obj b i x hb hg
    sep := hr.sep }
  ext := fun _ _ h => h
  size := hs
  tape := ht
  os := hos
  out := hout
  nxt := Nat.le_refl _
  low := Nat.le_refl _
  same := fun _ _ _ => rfl
  dead := fun _ h => h
  fresh := fun b i h1 h2 => by rw [h1] at h2; cases h2
  frame := fun B hB _ => hf B hB

theorem FSnd.reloc {P : Program} {f : Nat} {args : List AV} {v : AV} {H' : AHeap} (h : FSnd P f args (deads P.globals.size) (.v v H')) (ha : plainL args = true) (hv : plainA v = true) (H : AHeap) : FSnd P f args H (.v v H) := by
  intro e w args' hr hargs
  have hrd : Rel P.globals.size (e.cut P.globals.size) (deads P.globals.size) w := {
    lt := fun b i hb => by exact (Emb.cut_some.1 hb).1
    bnd := fun b i hb => hr.bnd b i (Emb.cut_some.1 hb).2
    glob := fun g hg => by
      obtain ⟨i, hi, q⟩ := hr.glob g hg
      exact ⟨i, Emb.cut_some.2 ⟨hg, hi⟩, q⟩
    obj := fun b i x hb hg => by
      rw [deads_get _ _ (Emb.cut_some.1 hb).1] at hg
      cases hg; trivial
    sep := fun b1 i1 b2 i2 h1 h2 hne ho ha => by
      have := deads_get _ _ (Emb.cut_some.1 h1).1
      rcases ho with ⟨n, t, sp, q⟩ | ⟨es, q⟩ <;> rw [this] at q <;> cases q }
  have := h (e.cut P.globals.size) w args' hrd (plainL_rel hargs ha)
  have conv : ∀ E w', (∃ e' v', E = Ending.returned v' ∧ VRel e' v v' ∧ Evo P.globals.size (e.cut P.globals.size) (deads P.globals.size) w e' H' w') → ∃ e' v', E = Ending.returned v' ∧ VRel e' v v' ∧ Evo P.globals.size e H w e' H w' := by
    rintro E w' ⟨e', v', hE, q1, q2⟩
    refine ⟨e, v', hE, plainA_rel q1 hv, Evo.still hr q2.size q2.tape q2.os q2.out fun B hB => q2.frame B hB fun b i hb _ => .inl (deads_get _ _ (Emb.cut_some.1 hb).1)⟩
  rcases this with ⟨h1, h2⟩ | ⟨v1, w1, h1, h2⟩
  · exact .inl ⟨h1, Calls.mono h2 conv⟩
  · exact .inr ⟨v1, w1, h1, conv _ _ h2⟩
end
end Go.Ab
