/- What a function comes to where no memory is looked at, it comes to everywhere. -/
import Derived.Test.YtfhaailmhaamfaaGreatDoorAbF
namespace Go.Ab
open Go
noncomputable section

/-- Nothing that was there has changed. -/
theorem Evo.still {G : Nat} {e : Emb} {H : AHeap} {w w' : World} (hr : Rel G e H w) (hs : w.heap.size ≤ w'.heap.size) (ht : w'.tape = w.tape) (hos : w'.os = w.os) (hout : w'.output = w.output) (hf : ∀ B, B < w.heap.size → w'.heap[B]? = w.heap[B]?) : Evo G e H w e H w' where
  rel := {
    lt := hr.lt
    bnd := fun b i hb => Nat.lt_of_lt_of_le (hr.bnd b i hb) hs
    glob := hr.glob
    obj := fun b i x hb hg => by rw [hf _ (hr.bnd b i hb)]; exact hr.obj b i x hb hg
    sep := hr.sep }
  ext := fun _ _ h => h
  size := hs
  tape := ht
  os := hos
  out := hout
  nxt := Nat.le_refl _
  low := Nat.le_refl _
  same := fun _ _ _ => rfl
  dead := fun _ h => h
  fresh := fun b i h1 h2 => by rw [h1] at h2; cases h2
  frame := fun B hB _ => hf B hB

mutual
/-- No address stands in it. -/
inductive PlainV : AV → Prop
  | i (k n : Nat) : PlainV (.i k n)
  | b (v : Bool) : PlainV (.b v)
  | s (l c : Nat) : PlainV (.s l c)
  | nilp : PlainV (.x .nilp)
  | nils : PlainV (.x .nils)
  | nilm : PlainV (.x .nilm)
  | nilf : PlainV (.x .nilf)
  | nili : PlainV (.x .nili)
  | fl (n : Nat) : PlainV (.x (.fl n))
  | agg {l : List AV} (h : PlainVs l) : PlainV (.x (.agg l))
  | tup {l : List AV} (h : PlainVs l) : PlainV (.x (.tup l))
inductive PlainVs : List AV → Prop
  | nil : PlainVs []
  | cons {v : AV} {l : List AV} (h : PlainV v) (t : PlainVs l) : PlainVs (v :: l)
end
mutual
theorem PlainV.rel {e e' : Emb} : ∀ {v : AV} {v' : Value}, VRel e v v' → PlainV v → VRel e' v v'
  | _, _, .i k n hk hn, _ => .i k n hk hn
  | _, _, .b v, _ => .b v
  | _, _, .s l c hc, _ => .s l c hc
  | _, _, .nilp, _ => .nilp
  | _, _, .nils, _ => .nils
  | _, _, .nilm, _ => .nilm
  | _, _, .nilf, _ => .nilf
  | _, _, .nili, _ => .nili
  | _, _, .fl b, _ => .fl b
  | _, _, .agg l l' hl, .agg h => .agg l l' (PlainVs.rel hl h)
  | _, _, .tup l l' hl, .tup h => .tup l l' (PlainVs.rel hl h)
theorem PlainVs.rel {e e' : Emb} : ∀ {l : List AV} {l' : List Value}, VRels e l l' → PlainVs l → VRels e' l l'
  | _, _, .nil, _ => .nil
  | _, _, .cons hv ht, .cons h t => .cons (PlainV.rel hv h) (PlainVs.rel ht t)
end

theorem FSnd.reloc {P : Program} {f : Nat} {args : List AV} {v : AV} {H' : AHeap} (h : FSnd P f args (deads P.globals.size) (.v v H')) (ha : PlainVs args) (hv : PlainV v) (H : AHeap) : FSnd P f args H (.v v H) := by
  intro e w args' hr hargs
  have hrd : Rel P.globals.size (e.cut P.globals.size) (deads P.globals.size) w := {
    lt := fun b i hb => by exact (Emb.cut_some.1 hb).1
    bnd := fun b i hb => hr.bnd b i (Emb.cut_some.1 hb).2
    glob := fun g hg => by
      obtain ⟨i, hi, q⟩ := hr.glob g hg
      exact ⟨i, Emb.cut_some.2 ⟨hg, hi⟩, q⟩
    obj := fun b i x hb hg => by
      rw [deads_get _ _ (Emb.cut_some.1 hb).1] at hg
      cases hg; trivial
    sep := fun b1 i1 b2 i2 h1 h2 hne ho ha => by
      have := deads_get _ _ (Emb.cut_some.1 h1).1
      rcases ho with ⟨n, t, sp, q⟩ | ⟨es, q⟩ <;> rw [this] at q <;> cases q }
  have := h (e.cut P.globals.size) w args' hrd (PlainVs.rel hargs ha)
  have conv : ∀ E w', (∃ e' v', E = Ending.returned v' ∧ VRel e' v v' ∧ Evo P.globals.size (e.cut P.globals.size) (deads P.globals.size) w e' H' w') → ∃ e' v', E = Ending.returned v' ∧ VRel e' v v' ∧ Evo P.globals.size e H w e' H w' := by
    rintro E w' ⟨e', v', hE, q1, q2⟩
    refine ⟨e, v', hE, PlainV.rel q1 hv, Evo.still hr q2.size q2.tape q2.os q2.out fun B hB => q2.frame B hB fun b i hb _ => .inl (deads_get _ _ (Emb.cut_some.1 hb).1)⟩
  rcases this with ⟨h1, h2⟩ | ⟨v1, w1, h1, h2⟩
  · exact .inl ⟨h1, Calls.mono h2 conv⟩
  · exact .inr ⟨v1, w1, h1, conv _ _ h2⟩

/-- It comes to this value. -/
def isV (f : AV → Bool) (r : ORes) : Bool := ORes.rec (motive := fun _ => Bool) (fun v _ => f v) (fun _ _ => false) false r
theorem FSnd.row {P : Program} {F : Fs} (hF : FsOk P F) {f : Nat} {args : List AV} {v : AV} {r : ORes} (hr : F f args (deads P.globals.size) = r) (hv : ∃ H', r = .v v H') (ha : PlainVs args) (hp : PlainV v) (H : AHeap) : FSnd P f args H (.v v H) := by
  obtain ⟨H', rfl⟩ := hv
  have := hF f args (deads P.globals.size)
  rw [hr] at this
  exact this.reloc ha hp H
/-- The memory of it is left aside. -/
def outV (r : ORes) : Option AV := ORes.rec (motive := fun _ => Option AV) (fun v _ => some v) (fun _ _ => none) none r
theorem FSnd.row' {P : Program} {F : Fs} (hF : FsOk P F) {f : Nat} {args : List AV} {v : AV} (hr : outV (F f args (deads P.globals.size)) = some v) (ha : PlainVs args) (hp : PlainV v) (H : AHeap) : FSnd P f args H (.v v H) := by
  cases hx : F f args (deads P.globals.size) with
  | v u H' =>
    rw [hx] at hr
    cases hr
    exact FSnd.row hF hx ⟨H', rfl⟩ ha hp H
  | _ => rw [hx] at hr; cases hr
theorem rows_nil {P : Program} {f : Nat} : ∀ r, r ∈ ([] : List (List AV × AV)) → ∀ H, FSnd P f r.1 H (.v r.2 H) := fun _ h => by cases h
theorem rows_cons {P : Program} {f : Nat} {a : List AV} {v : AV} {l : List (List AV × AV)} (h : ∀ H, FSnd P f a H (.v v H)) (t : ∀ r, r ∈ l → ∀ H, FSnd P f r.1 H (.v r.2 H)) : ∀ r, r ∈ (a, v) :: l → ∀ H, FSnd P f r.1 H (.v r.2 H) := fun r hr => by
  rcases List.mem_cons.1 hr with rfl | hr
  · exact h
  · exact t r hr
end
end Go.Ab
