/- Operations over the abstract memory (3): places, parts, literals of several parts. -/
import Derived.Test.YtfhaailmhaamfaaGreatDoorAbOps2
namespace Go.Ab
open Go
noncomputable section
variable {S : BT Nat}

/-! ### Literals of several parts -/
def zipFold (l : List Value) (o : Nat) (cs : Array Value) : Array Value := putAll cs o l
theorem foldl_zipIdx (l : List Value) : ∀ (o j : Nat) (cs : Array Value), (l.zipIdx j).foldl (fun cs (x : Value × Nat) => cs.setIfInBounds (o + x.2) x.1) cs = putAll cs (o + j) l := by
  induction l with
  | nil => intro o j cs; rfl
  | cons v l ih =>
    intro o j cs
    simp only [List.zipIdx_cons, List.foldl_cons, putAll]
    rw [ih]
    congr 1

theorem fold_zip (v : Array Value) (o : Nat) (cs : Array Value) : v.zipIdx.foldl (fun cs (x : Value × Nat) => cs.setIfInBounds (o + x.2) x.1) cs = putAll cs o v.toList := by
  rw [← Array.foldl_toList, Array.toList_zipIdx, foldl_zipIdx, Nat.add_zero]

/-- Parts put into cells: where, how many cells, the value. -/
def fillA : List (Nat × Nat × AV) → List AV → Option (List AV) :=
  fun ps => List.rec (motive := fun _ => List AV → Option (List AV)) (fun cs => some cs)
    (fun p _ ih cs => optL none (fun l => bif' none (bif' none (ih (cs.take p.1 ++ (l ++ cs.drop (Nat.add p.1 p.2.1)))) (Nat.ble (Nat.add p.1 p.2.1) cs.length)) (Nat.beq l.length p.2.1)) (cellsA p.2.2)) ps

/-- The parts as the model has them. -/
inductive PRel (e : Emb) : List (Nat × Nat × AV) → List (Nat × Value) → (Nat → Option (Nat × Nat)) → Prop
  | nil (place) : PRel e [] [] place
  | cons {o n k : Nat} {v : AV} {v' : Value} {l l'} {place} (hp : place k = some (o, n)) (hv : VRel e v v') (t : PRel e l l' place) : PRel e ((o, n, v) :: l) ((k, v') :: l') place

theorem putAll_splice (cs l : List Value) (o : Nat) (h : o + l.length ≤ cs.length) : (putAll cs.toArray o l).toList = cs.take o ++ (l ++ cs.drop (o + l.length)) := by
  apply List.ext_getElem?
  intro k
  rw [Array.getElem?_toList, putAll_get]
  simp only [List.size_toArray, List.getElem?_toArray]
  by_cases h1 : k < o
  · rw [if_neg (by omega), List.getElem?_append_left (by simp; omega), List.getElem?_take, if_pos h1]
  · rw [List.getElem?_append_right (by simp; omega)]
    have hm : min o cs.length = o := by omega
    simp only [List.length_take, hm]
    by_cases h2 : k < o + l.length
    · rw [if_pos (by omega), List.getElem?_append_left (by omega)]
    · rw [if_neg (by omega), List.getElem?_append_right (by omega), List.getElem?_drop]
      congr 1; omega

theorem fill_spec {e : Emb} {place : Nat → Option (Nat × Nat)} : ∀ {ps : List (Nat × Nat × AV)} {ps' : List (Nat × Value)} (_ : PRel e ps ps' place) {cs r : List AV} {cs' : List Value}, fillA ps cs = some r → VRels e cs cs' →
    ∃ r' : List Value, Instr.fill place cs'.toArray ps' = some r'.toArray ∧ VRels e r r'
  | _, _, .nil _, cs, r, cs', h, hc => by cases h; exact ⟨cs', rfl, hc⟩
  | _, _, .cons (o := o) (n := n) (k := k) (v := v) (v' := v') (l := l) (l' := l') hp hv t, cs, r, cs', h, hc => by
    have hdef : fillA ((o, n, v) :: l) cs = optL none (fun x => bif' none (bif' none (fillA l (cs.take o ++ (x ++ cs.drop (o + n)))) (Nat.ble (Nat.add o n) cs.length)) (Nat.beq x.length n)) (cellsA v) := rfl
    rw [hdef] at h
    cases hl : cellsA v with
    | none => rw [hl] at h; cases h
    | some x =>
      rw [hl] at h
      simp only [optL, bif'] at h
      cases h1 : Nat.beq x.length n with
      | false => rw [h1] at h; cases h
      | true =>
        rw [h1] at h
        cases h2 : Nat.ble (Nat.add o n) cs.length with
        | false => rw [h2] at h; cases h
        | true =>
          rw [h2] at h
          have h1' : x.length = n := Nat.eq_of_beq_eq_true h1
          have h2' : o + n ≤ cs.length := by rw [ble_tt] at h2; exact h2
          obtain ⟨x', g1, g2, _⟩ := cellsA_spec hl hv
          have hxl := g2.length
          have hcl := hc.length
          have hnew : VRels e (cs.take o ++ (x ++ cs.drop (o + n))) (cs'.take o ++ (x' ++ cs'.drop (o + n))) := by
            have ht : ∀ (m : Nat) {a : List AV} {a' : List Value}, VRels e a a' → VRels e (a.take m) (a'.take m) := by
              intro m a a' ha
              induction m generalizing a a' with
              | zero => simp; exact .nil
              | succ m ih => cases ha with
                | nil => simp; exact .nil
                | cons hv ht => simp; exact .cons hv (ih ht)
            have hd : ∀ (m : Nat) {a : List AV} {a' : List Value}, VRels e a a' → VRels e (a.drop m) (a'.drop m) := by
              intro m a a' ha
              induction m generalizing a a' with
              | zero => simpa using ha
              | succ m ih => cases ha with
                | nil => simp; exact .nil
                | cons hv ht => simp; exact ih ht
            exact (ht o hc).append (g2.append (hd (o + n) hc))
          obtain ⟨r', q1, q2⟩ := fill_spec t h hnew
          refine ⟨r', ?_, q2⟩
          simp only [Instr.fill, hp, g1, List.size_toArray]
          rw [if_neg (by simp; omega)]
          rw [fold_zip]
          have : putAll cs'.toArray o x'.toArray.toList = (cs'.take o ++ (x' ++ cs'.drop (o + n))).toArray := by
            apply Array.ext'
            simp only
            rw [putAll_splice _ _ _ (by omega)]
            simp [← hxl, h1']
          rw [this]
          exact q1

/-- Operands with places. -/
inductive POk (P : Program) (S : BT Nat) : List (Nat × Nat × (Env → AV)) → List (Nat × Operand) → (Nat → Option (Nat × Nat)) → Prop
  | nil (place) : POk P S [] [] place
  | cons {o n k : Nat} {x : Operand} {x' : Env → AV} {l l'} {place} (hp : place k = some (o, n)) (hx : OpndOk P S x x') (t : POk P S l l' place) : POk P S ((o, n, x') :: l) ((k, x) :: l') place

def evalPs (ps : List (Nat × Nat × (Env → AV))) (en : Env) : List (Nat × Nat × AV) := List.rec (motive := fun _ => List (Nat × Nat × AV)) [] (fun p _ ih => (p.1, p.2.1, p.2.2 en) :: ih) ps

theorem POk.rel {P : Program} {place : Nat → Option (Nat × Nat)} {N : Nat} {D : List Deferred} {e : Emb} {en : Env} {a : Act} {H : AHeap} {w : World} (hr : Rel P.globals.size e H w) (ha : ARel S N D e en a) :
    ∀ {ps : List (Nat × Nat × (Env → AV))} {ps' : List (Nat × Operand)}, POk P S ps ps' place → PRel e (evalPs ps en) (ps'.map fun p => (p.1, a.eval p.2)) place
  | _, _, .nil _ => .nil _
  | _, _, .cons hp hx t => .cons hp (hx N D e en a H w hr ha) (POk.rel hr ha t)

/-- The place of a part of type t's. -/
def placeOf (P : Program) (t : TypeId) (k : Nat) : Option (Nat × Nat) :=
  match P.underlying t with
  | some (.struct fs) => (fs[k]?).bind fun f => (szOf P f.type).map fun s => (f.offset, s)
  | some (.array _ e) | some (.slice e) => (szOf P e).map fun s => (k * s, s)
  | _ => none

def fieldsOk (P : Program) (t : TypeId) : Bool :=
  match P.underlying t with
  | some (.struct fs) => fs.toList.all fun f => (szOf P f.type).isSome
  | _ => false

def opBuild (Z : List AV) (ps : List (Nat × Nat × (Env → AV))) (en : Env) (H : AHeap) : ORes := optL .fail (fun r => .v (.x (.agg r)) H) (fillA (evalPs ps en) Z)

theorem run_places {P : Program} (w : World) : ∀ (l : List Field), (l.all fun f => (szOf P f.type).isSome) = true →
    (l.mapM (fun f => do pure (f.offset, ← sizeOf f.type) : Field → Sem (Nat × Nat))).run P w = .ok (l.map fun f => (f.offset, (szOf P f.type).getD 0)) w
  | [], _ => by simp only [List.mapM_nil, Sem.run_pure, List.map_nil]
  | f :: l, h => by
    simp only [List.all_cons, Bool.and_eq_true] at h
    obtain ⟨n, hn⟩ := Option.isSome_iff_exists.1 h.1
    simp only [List.mapM_cons, Sem.run_bind, Sem.run_pure, Result.andThen_ok, run_sizeOf hn, run_places w l h.2, List.map_cons, hn, Option.getD_some]

theorem opBuild_struct_snd {P : Program} {o : Oper} {t : TypeId} {parts : Array (Nat × Operand)} {Z : List AV} {zv : Value} {ps : List (Nat × Nat × (Env → AV))} (ho : o.op = .build t parts) (hz : zeroOf P t = some zv)
    (hZ : ∀ e, VRels e Z zv.cells.toList) (hf : fieldsOk P t = true) (hp : POk P S ps parts.toList (placeOf P t)) (en : Env) (H : AHeap) : OSnd P S o en H (opBuild Z ps en H) := by
  unfold opBuild
  cases hl : fillA (evalPs ps en) Z with
  | none => trivial
  | some r =>
    simp only [optL]
    refine OSnd.pure fun N D e w a hr ha => ?_
    unfold fieldsOk at hf
    cases hu : P.underlying t with
    | none => rw [hu] at hf; cases hf
    | some d =>
      rw [hu] at hf
      cases d with
      | struct fs =>
        simp only at hf
        have hrel := POk.rel hr ha hp
        obtain ⟨r', q1, q2⟩ := fill_spec hrel hl (hZ e)
        refine ⟨.agg r'.toArray, ?_, .agg r r' q2⟩
        have hpl := run_places (P := P) w fs.toList hf
        have hmap : (fs.mapM (fun f => do pure (f.offset, ← sizeOf f.type) : Field → Sem (Nat × Nat))).run P w = .ok (fs.toList.map fun f => (f.offset, (szOf P f.type).getD 0)).toArray w := by
          rw [Array.mapM_eq_mapM_toList]
          simp only [Sem.run_map, hpl, Result.andThen_ok]
        have hplace : (fun i => ((fs.toList.map fun f => (f.offset, (szOf P f.type).getD 0)).toArray)[i]?) = placeOf P t := by
          funext k
          simp only [placeOf, hu, List.getElem?_toArray, List.getElem?_map, Array.getElem?_toList]
          cases hk : fs[k]? with
          | none => rfl
          | some f =>
            have hmem : f ∈ fs.toList := by
              rw [Array.getElem?_eq_some_iff] at hk
              obtain ⟨hlt, rfl⟩ := hk
              simp
            have := List.all_eq_true.1 hf f hmem
            obtain ⟨n, hn⟩ := Option.isSome_iff_exists.1 this
            simp [hn]
        have hcells : (⟨zv.cells.toList⟩ : Array Value) = zv.cells := rfl
        simp only [execOp, ho]
        simp only [Instr.build, Sem.run_bind, run_zeroOf hz, Result.andThen_ok, run_underlying hu, hmap, hplace]
        have hq : Instr.fill (placeOf P t) zv.cells (parts.map fun (i, x) => (i, a.eval x)).toList = some r'.toArray := by
          rw [← q1]
          simp
        simp only [hq, Sem.run_pure, Result.andThen_ok]
      | _ => simp at hf
/-- An array's elements have a size. -/
def arrayOk (P : Program) (t : TypeId) : Bool :=
  match P.underlying t with
  | some (.array _ e) => (szOf P e).isSome
  | _ => false
theorem opBuild_array_snd {P : Program} {o : Oper} {t : TypeId} {parts : Array (Nat × Operand)} {Z : List AV} {zv : Value} {ps : List (Nat × Nat × (Env → AV))} (ho : o.op = .build t parts) (hz : zeroOf P t = some zv)
    (hZ : ∀ e, VRels e Z zv.cells.toList) (hf : arrayOk P t = true) (hp : POk P S ps parts.toList (placeOf P t)) (en : Env) (H : AHeap) : OSnd P S o en H (opBuild Z ps en H) := by
  unfold opBuild
  cases hl : fillA (evalPs ps en) Z with
  | none => trivial
  | some r =>
    simp only [optL]
    refine OSnd.pure fun N D e w a hr ha => ?_
    unfold arrayOk at hf
    cases hu : P.underlying t with
    | none => rw [hu] at hf; cases hf
    | some d =>
      rw [hu] at hf
      cases d with
      | array n el =>
        simp only at hf
        obtain ⟨sz, hs⟩ := Option.isSome_iff_exists.1 hf
        have hrel := POk.rel hr ha hp
        obtain ⟨r', q1, q2⟩ := fill_spec hrel hl (hZ e)
        refine ⟨.agg r'.toArray, ?_, .agg r r' q2⟩
        have hplace : placeOf P t = fun i => some (i * sz, sz) := by funext i; simp [placeOf, hu, hs]
        simp only [execOp, ho]
        simp only [Instr.build, Sem.run_bind, run_zeroOf hz, Result.andThen_ok, run_underlying hu, run_sizeOf hs]
        have hq : Instr.fill (fun i => some (i * sz, sz)) zv.cells (parts.map fun (i, x) => (i, a.eval x)).toList = some r'.toArray := by
          rw [← q1, hplace]
          simp
        simp only [hq, Sem.run_pure, Result.andThen_ok]
      | _ => simp at hf
end
end Go.Ab
