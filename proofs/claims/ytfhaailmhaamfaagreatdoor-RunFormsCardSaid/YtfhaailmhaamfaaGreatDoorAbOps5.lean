/- Operations over the abstract memory (5): slices of slices and strings; whole numbers; strings. -/
import Derived.Test.YtfhaailmhaamfaaGreatDoorAbOps4
namespace Go.Ab
open Go
noncomputable section
variable {S : BT Nat}

/-! ### Bounds -/
def OOk (P : Program) (S : BT Nat) : Option Operand → Option (Env → AV) → Prop
  | none, none => True
  | some x, some x' => OpndOk P S x x'
  | _, _ => False

def bd (d : Nat) (x : Option (Env → AV)) (en : Env) : Option Nat := Option.rec (motive := fun _ => Option Nat) (some d) (fun x => natOf (x en)) x

theorem bd_spec {P : Program} {d n : Nat} {x : Option Operand} {x' : Option (Env → AV)} {en : Env} (h : bd d x' en = some n) (hx : OOk P S x x') {N : Nat} {D : List Deferred} {e : Emb} {a : Act} {H : AHeap} {w : World}
    (hr : Rel P.globals.size e H w) (ha : ARel S N D e en a) : (x = none ∧ x' = none ∧ n = d) ∨ ∃ K, x.map a.eval = some (.int K (n : Int)) := by
  cases x with
  | none =>
    cases x' with
    | none => cases h; exact .inl ⟨rfl, rfl, rfl⟩
    | some x' => exact hx.elim
  | some x =>
    cases x' with
    | none => exact hx.elim
    | some x' =>
      obtain ⟨K, hK⟩ := natOf_spec (show natOf (x' en) = some n from h) (hx N D e en a H w hr ha)
      exact .inr ⟨K, by simp [hK]⟩

theorem run_bounds {P : Program} (w : World) (isS : Bool) (len cap : Nat) (low high mx : Option Value) (l h m : Nat) (hl : (low = none ∧ l = 0) ∨ ∃ K, low = some (.int K (l : Int)))
    (hh : (high = none ∧ mx = none ∧ h = len) ∨ ∃ K, high = some (.int K (h : Int))) (hm : (mx = none ∧ m = cap) ∨ ∃ K, mx = some (.int K (m : Int))) (h1 : l ≤ h) (h2 : h ≤ m) (h3 : m ≤ cap) :
    (Instr.sliceBounds isS len cap low high mx).run P w = .ok (l, h, m) w := by
  rcases hm with ⟨rfl, rfl⟩ | ⟨Km, rfl⟩
  · rcases hh with ⟨rfl, _, rfl⟩ | ⟨Kh, rfl⟩
    · rcases hl with ⟨rfl, rfl⟩ | ⟨Kl, rfl⟩
      · simp [Instr.sliceBounds]
      · simp [Instr.sliceBounds, run_sliceBound w Kl (l : Int) h _ (by omega) (by omega)]
    · rcases hl with ⟨rfl, rfl⟩ | ⟨Kl, rfl⟩
      · simp [Instr.sliceBounds, run_sliceBound w Kh (h : Int) m _ (by omega) (by omega)]
      · simp [Instr.sliceBounds, run_sliceBound w Kl (l : Int) h _ (by omega) (by omega), run_sliceBound w Kh (h : Int) m _ (by omega) (by omega)]
  · rcases hh with ⟨_, h0, _⟩ | ⟨Kh, rfl⟩
    · cases h0
    · rcases hl with ⟨rfl, rfl⟩ | ⟨Kl, rfl⟩
      · simp [Instr.sliceBounds, run_sliceBound w Kh (h : Int) m _ (by omega) (by omega), run_sliceBound w Km (m : Int) cap _ (by omega) (by omega)]
      · simp [Instr.sliceBounds, run_sliceBound w Kl (l : Int) h _ (by omega) (by omega), run_sliceBound w Kh (h : Int) m _ (by omega) (by omega), run_sliceBound w Km (m : Int) cap _ (by omega) (by omega)]

/-- Is the element's size the block's, where the block may have room behind it? -/
def spOk (H : AHeap) (b sz : Nat) : Bool := blkC false (fun _ _ _ sp => Bool.rec (motive := fun _ => Bool) (Nat.beq sp sz) true (Nat.beq sp 0)) (H.get b)
theorem spOk_spec {H : AHeap} {b sz : Nat} (h : spOk H b sz = true) {G : Nat} {e : Emb} {w : World} (hr : Rel G e H w) {i : Info} (hi : e b = some i) : i.sp = 0 ∨ i.sp = sz := by
  unfold spOk at h
  cases hb : H.get b with
  | none => rw [hb] at h; cases h
  | some y =>
    rw [hb] at h
    cases y with
    | m es => cases h
    | dead => cases h
    | c n T wr sp =>
      obtain ⟨_, e2, _⟩ := hr.obj b i _ hi hb
      simp only [blkC] at h
      cases h0 : Nat.beq sp 0 with
      | true => exact .inl (by rw [e2]; exact Nat.eq_of_beq_eq_true h0)
      | false => rw [h0] at h; exact .inr (by rw [e2]; exact Nat.eq_of_beq_eq_true h)

def axNils {R : Type} (d : R) (f : R) (v : AX) : R := AX.casesOn (motive_1 := fun _ => R) v d d f d d d (fun _ => d) (fun _ _ _ => d) (fun _ _ => d) (fun _ => d) (fun _ => d) (fun _ => d) (fun _ _ => d) (fun _ _ _ => d)

def opSlice (sz : Nat) (x : Env → AV) (lo hi mx : Option (Env → AV)) (en : Env) (H : AHeap) : ORes :=
  AVp.rec (motive := fun _ => ORes) (fun _ _ => .fail) (fun _ => .fail) (fun _ _ => .fail) (fun _ _ => .fail)
    (fun b o len cap => optN .fail (fun l => optN .fail (fun h => optN .fail (fun m =>
      bif' .fail (bif' .fail (bif' .fail (bif' .fail (.v (.sl b (Nat.add o (Nat.mul l sz)) (Nat.sub h l) (Nat.sub m l)) H) (Option.rec (motive := fun _ => Bool) (spOk H b sz) (fun _ => true) mx)) (Nat.ble m cap)) (Nat.ble h m)) (Nat.ble l h))
      (bd cap mx en)) (bd len hi en)) (bd 0 lo en))
    (axNils .fail (optN .fail (fun l => optN .fail (fun h => optN .fail (fun m => bif' .fail (.v (.x .nils) H) (Nat.beq (Nat.add l (Nat.add h m)) 0)) (bd 0 mx en)) (bd 0 hi en)) (bd 0 lo en))) (x en)

theorem opSlice_snd {P : Program} {o : Oper} {t elem : TypeId} {x : Operand} {lo hi mx : Option Operand} {sz : Nat} {x' : Env → AV} {lo' hi' mx' : Option (Env → AV)} (ho : o.op = .slice t x lo hi mx) (ht : P.underlying t = some (.slice elem)) (hs : szOf P elem = some sz)
    (hx : OpndOk P S x x') (hlo : OOk P S lo lo') (hhi : OOk P S hi hi') (hmx : OOk P S mx mx') (hhm : mx ≠ none → hi ≠ none) (en : Env) (H : AHeap) : OSnd P S o en H (opSlice sz x' lo' hi' mx' en H) := by
  unfold opSlice
  cases h : x' en with
  | sl b k len cap =>
    simp only
    cases hl : bd 0 lo' en with
    | none => trivial
    | some l =>
    simp only [optN]
    cases hh : bd len hi' en with
    | none => trivial
    | some hh' =>
    simp only
    cases hm : bd cap mx' en with
    | none => trivial
    | some m =>
    simp only [bif']
    cases c1 : Nat.ble l hh' with
    | false => trivial
    | true =>
    cases c2 : Nat.ble hh' m with
    | false => trivial
    | true =>
    cases c3 : Nat.ble m cap with
    | false => trivial
    | true =>
    simp only
    have d1 : l ≤ hh' := by rw [ble_tt] at c1; exact c1
    have d2 : hh' ≤ m := by rw [ble_tt] at c2; exact c2
    have d3 : m ≤ cap := by rw [ble_tt] at c3; exact c3
    generalize hok : (Option.rec (motive := fun _ => Bool) (spOk H b sz) (fun _ => true) mx' : Bool) = ok
    cases ok with
    | false => trivial
    | true =>
    refine OSnd.pure fun N D e w a hr ha => ?_
    have h1 := hx N D e en a H w hr ha
    rw [h] at h1
    have bl := bd_spec hl hlo hr ha
    have bh := bd_spec hh hhi hr ha
    have bm := bd_spec hm hmx hr ha
    generalize hxv : a.eval x = xv at h1
    have Bl : (lo.map a.eval = none ∧ l = 0) ∨ ∃ K, lo.map a.eval = some (.int K (l : Int)) := by
      rcases bl with ⟨q, _, r⟩ | q
      · exact .inl ⟨by rw [q]; rfl, r⟩
      · exact .inr q
    have Bh : (hi.map a.eval = none ∧ mx.map a.eval = none ∧ hh' = len) ∨ ∃ K, hi.map a.eval = some (.int K (hh' : Int)) := by
      rcases bh with ⟨q, _, r⟩ | q
      · refine .inl ⟨by rw [q]; rfl, ?_, r⟩
        cases mx with
        | none => rfl
        | some y => exact absurd q (hhm (by simp))
      · exact .inr q
    cases h1 with
    | sl _ _ _ _ cap' i hi' hc =>
      -- the model's own end
      obtain ⟨m', hm', hcap⟩ : ∃ m', ((mx.map a.eval = none ∧ m' = cap') ∨ ∃ K, mx.map a.eval = some (.int K (m' : Int))) ∧ hh' ≤ m' ∧ m' ≤ cap' ∧ CapOk i (k + l * sz) (m - l) (m' - l) := by
        rcases bm with ⟨q, q', r⟩ | ⟨K, q⟩
        · subst r
          refine ⟨cap', .inl ⟨by rw [q]; rfl, rfl⟩, ?_⟩
          rcases hc with hc | ⟨g1, g2, g3, g4⟩
          · exact ⟨by omega, by omega, .inl (by omega)⟩
          · refine ⟨by omega, by omega, ?_⟩
            rw [q'] at hok
            rcases spOk_spec hok hr hi' with g | g
            · omega
            · refine .inr ⟨g1, ?_, by omega, ?_⟩
              · rw [g] at g2 ⊢
                rw [Nat.sub_mul]
                have : l * sz ≤ m * sz := Nat.mul_le_mul_right _ (by omega)
                omega
              · rw [g] at g4 ⊢
                rw [Nat.sub_mul]
                have : l * sz ≤ cap' * sz := Nat.mul_le_mul_right _ (by omega)
                omega
        · have hcc : cap ≤ cap' := by rcases hc with hc | ⟨_, _, g3, _⟩ <;> omega
          exact ⟨m, .inr ⟨K, q⟩, d2, by omega, .inl rfl⟩
      obtain ⟨k1, k2, k3⟩ := hcap
      have hrun := run_bounds (P := P) w true len cap' (lo.map a.eval) (hi.map a.eval) (mx.map a.eval) l hh' m' Bl Bh hm' d1 k1 k2
      refine ⟨.slice (if m' = l then some ⟨i.blk, i.off + k, none⟩ else some ⟨i.blk, i.off + (k + l * sz), none⟩) (hh' - l) (m' - l), ?_, ?_⟩
      · simp only [execOp, ho, Sem.run_bind]
        simp only [Instr.sliceAt, Sem.run_bind, run_underlying ht, Result.andThen_ok, Instr.slice, hxv, hrun, run_sizeOf hs, Sem.run_pure]
        simp only [Option.map_some, add_addr, Nat.add_assoc]
      · show VRel e (.sl b (k + l * sz) (hh' - l) (m - l)) _
        by_cases hml : m' = l
        · subst hml
          have e1 : hh' - m' = 0 := by omega
          have e2 : m - m' = 0 := by
            rcases k3 with g | ⟨_, _, g, _⟩ <;> omega
          simp only [e1, e2, Nat.sub_self, if_true]
          exact .slq _ _ _
        · rw [if_neg hml]
          exact .sl b (k + l * sz) (hh' - l) (m - l) (m' - l) i hi' k3
    | slq _ _ ad =>
      have e1 : hh' = 0 := by omega
      have e2 : l = 0 := by omega
      have e3 : m = 0 := by omega
      subst e1 e2 e3
      have Bm : (mx.map a.eval = none ∧ (0 : Nat) = 0) ∨ ∃ K, mx.map a.eval = some (.int K ((0 : Nat) : Int)) := by
        rcases bm with ⟨q, _, r⟩ | q
        · exact .inl ⟨by rw [q]; rfl, rfl⟩
        · exact .inr q
      have hrun := run_bounds (P := P) w true 0 0 (lo.map a.eval) (hi.map a.eval) (mx.map a.eval) 0 0 0 Bl Bh Bm (Nat.le_refl _) (Nat.le_refl _) (Nat.le_refl _)
      refine ⟨.slice (some ad) 0 0, ?_, .slq _ _ _⟩
      simp only [execOp, ho, Sem.run_bind]
      simp only [Instr.sliceAt, Sem.run_bind, run_underlying ht, Result.andThen_ok, Instr.slice, hxv, hrun, run_sizeOf hs, Sem.run_pure]
      simp
  | x y =>
    cases y with
    | nils =>
      simp only [axNils]
      cases hl : bd 0 lo' en with
      | none => trivial
      | some l =>
      simp only [optN]
      cases hh : bd 0 hi' en with
      | none => trivial
      | some hh' =>
      simp only
      cases hm : bd 0 mx' en with
      | none => trivial
      | some m =>
      simp only [bif']
      cases c : Nat.beq (Nat.add l (Nat.add hh' m)) 0 with
      | false => trivial
      | true =>
      have c' : l + (hh' + m) = 0 := Nat.eq_of_beq_eq_true c
      have e1 : hh' = 0 := by omega
      have e2 : l = 0 := by omega
      have e3 : m = 0 := by omega
      subst e1 e2 e3
      refine OSnd.pure fun N D e w a hr ha => ?_
      have h1 := hx N D e en a H w hr ha
      rw [h] at h1
      have bl := bd_spec hl hlo hr ha
      have bh := bd_spec hh hhi hr ha
      have bm := bd_spec hm hmx hr ha
      generalize hxv : a.eval x = xv at h1
      cases h1
      have Bl : (lo.map a.eval = none ∧ (0 : Nat) = 0) ∨ ∃ K, lo.map a.eval = some (.int K ((0 : Nat) : Int)) := by
        rcases bl with ⟨q, _, r⟩ | q
        · exact .inl ⟨by rw [q]; rfl, r⟩
        · exact .inr q
      have Bh : (hi.map a.eval = none ∧ mx.map a.eval = none ∧ (0 : Nat) = 0) ∨ ∃ K, hi.map a.eval = some (.int K ((0 : Nat) : Int)) := by
        rcases bh with ⟨q, _, r⟩ | q
        · refine .inl ⟨by rw [q]; rfl, ?_, r⟩
          cases mx with
          | none => rfl
          | some y => exact absurd q (hhm (by simp))
        · exact .inr q
      have Bm : (mx.map a.eval = none ∧ (0 : Nat) = 0) ∨ ∃ K, mx.map a.eval = some (.int K ((0 : Nat) : Int)) := by
        rcases bm with ⟨q, _, r⟩ | q
        · exact .inl ⟨by rw [q]; rfl, rfl⟩
        · exact .inr q
      have hrun := run_bounds (P := P) w true 0 0 (lo.map a.eval) (hi.map a.eval) (mx.map a.eval) 0 0 0 Bl Bh Bm (Nat.le_refl _) (Nat.le_refl _) (Nat.le_refl _)
      refine ⟨.slice none 0 0, ?_, .nils⟩
      simp only [execOp, ho, Sem.run_bind]
      simp only [Instr.sliceAt, Sem.run_bind, run_underlying ht, Result.andThen_ok, Instr.slice, hxv, hrun, run_sizeOf hs, Sem.run_pure]
      simp
    | _ => trivial
  | _ => trivial

/-- An array's address, sliced. -/
def opSliceA (n sz : Nat) (x : Env → AV) (lo hi mx : Option (Env → AV)) (en : Env) (H : AHeap) : ORes :=
  avP .fail (fun b o => optN .fail (fun l => optN .fail (fun h => optN .fail (fun m =>
      bif' .fail (bif' .fail (bif' .fail (.v (.sl b (Nat.add o (Nat.mul l sz)) (Nat.sub h l) (Nat.sub m l)) H) (Nat.ble m n)) (Nat.ble h m)) (Nat.ble l h))
      (bd n mx en)) (bd n hi en)) (bd 0 lo en)) (x en)
theorem opSliceA_snd {P : Program} {o : Oper} {t elem : TypeId} {n : Nat} {x : Operand} {lo hi mx : Option Operand} {sz : Nat} {x' : Env → AV} {lo' hi' mx' : Option (Env → AV)} (ho : o.op = .slice t x lo hi mx) (ht : P.underlying t = some (.array n elem)) (hs : szOf P elem = some sz)
    (hx : OpndOk P S x x') (hlo : OOk P S lo lo') (hhi : OOk P S hi hi') (hmx : OOk P S mx mx') (hhm : mx ≠ none → hi ≠ none) (en : Env) (H : AHeap) : OSnd P S o en H (opSliceA n sz x' lo' hi' mx' en H) := by
  unfold opSliceA
  cases h : x' en with
  | p b k =>
    simp only [avP]
    cases hl : bd 0 lo' en with
    | none => trivial
    | some l =>
    simp only [optN]
    cases hh : bd n hi' en with
    | none => trivial
    | some hh' =>
    simp only
    cases hm : bd n mx' en with
    | none => trivial
    | some m =>
    simp only [bif']
    cases c1 : Nat.ble l hh' with
    | false => trivial
    | true =>
    cases c2 : Nat.ble hh' m with
    | false => trivial
    | true =>
    cases c3 : Nat.ble m n with
    | false => trivial
    | true =>
    have d1 : l ≤ hh' := by rw [ble_tt] at c1; exact c1
    have d2 : hh' ≤ m := by rw [ble_tt] at c2; exact c2
    have d3 : m ≤ n := by rw [ble_tt] at c3; exact c3
    refine OSnd.pure fun N D e w a hr ha => ?_
    have h1 := hx N D e en a H w hr ha
    rw [h] at h1
    have bl := bd_spec hl hlo hr ha
    have bh := bd_spec hh hhi hr ha
    have bm := bd_spec hm hmx hr ha
    generalize hxv : a.eval x = xv at h1
    cases h1
    rename_i i hi'
    have Bl : (lo.map a.eval = none ∧ l = 0) ∨ ∃ K, lo.map a.eval = some (.int K (l : Int)) := by
      rcases bl with ⟨q, _, r⟩ | q
      · exact .inl ⟨by rw [q]; rfl, r⟩
      · exact .inr q
    have Bh : (hi.map a.eval = none ∧ mx.map a.eval = none ∧ hh' = n) ∨ ∃ K, hi.map a.eval = some (.int K (hh' : Int)) := by
      rcases bh with ⟨q, _, r⟩ | q
      · refine .inl ⟨by rw [q]; rfl, ?_, r⟩
        cases mx with
        | none => rfl
        | some y => exact absurd q (hhm (by simp))
      · exact .inr q
    have Bm : (mx.map a.eval = none ∧ m = n) ∨ ∃ K, mx.map a.eval = some (.int K (m : Int)) := by
      rcases bm with ⟨q, _, r⟩ | q
      · exact .inl ⟨by rw [q]; rfl, r⟩
      · exact .inr q
    have hrun := run_bounds (P := P) w false n n (lo.map a.eval) (hi.map a.eval) (mx.map a.eval) l hh' m Bl Bh Bm d1 d2 d3
    refine ⟨.slice (some (if m = l then ⟨i.blk, i.off + k, none⟩ else ⟨i.blk, i.off + (k + l * sz), none⟩)) (hh' - l) (m - l), ?_, ?_⟩
    · simp only [execOp, ho, Sem.run_bind]
      simp only [Instr.sliceAt, Sem.run_bind, run_underlying ht, Result.andThen_ok, hxv, Instr.sureAddr, hrun, run_sizeOf hs, Sem.run_pure]
      simp only [add_addr, Nat.add_assoc]
    · show VRel e (.sl b (k + l * sz) (hh' - l) (m - l)) _
      by_cases hml : m = l
      · subst hml
        have e1 : hh' - m = 0 := by omega
        simp only [e1, Nat.sub_self, if_true]
        exact .slq _ _ _
      · rw [if_neg hml]
        exact .sl b (k + l * sz) (hh' - l) (m - l) (m - l) i hi' (.inl rfl)
  | _ => trivial
end
end Go.Ab
