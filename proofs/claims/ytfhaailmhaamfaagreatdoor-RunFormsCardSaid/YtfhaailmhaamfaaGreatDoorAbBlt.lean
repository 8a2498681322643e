/- Operations over the abstract memory (13): len, cap, make, append of a make, bytes as a string. -/
import Derived.Test.YtfhaailmhaamfaaGreatDoorAbApp
namespace Go.Ab
open Go
noncomputable section
variable {S : BT Nat}

/-- a count as an int -/
def intA (n : Nat) : ORes → ORes := fun r => bif' .fail r (Nat.ble (Nat.add n 1) 9223372036854775808)
theorem vrel_int64 (e : Emb) (n : Nat) (h : n + 1 ≤ 9223372036854775808) : VRel e (.i 3 n) (goInt n) := by
  have := VRel.i (e := e) 3 n (by omega) (by simp [kindOf, IntKind.bits]; omega)
  have hw : (kindOf 3).wrap (n : Int) = (n : Int) := by
    simp only [kindOf, IntKind.wrap, IntKind.signed, IntKind.bits]; simp; omega
  rw [hw] at this
  exact this

/-- 0: a string, 1: a slice, 2: a map -/
def lenKind (P : Program) (t : TypeId) : Option Nat :=
  match P.underlying t with
  | some .string => some 0
  | some (.slice _) => some 1
  | some (.map _ _) => some 2
  | _ => none
def lenA (k : Nat) (H : AHeap) (v : AV) : Option Nat :=
  AVp.rec (motive := fun _ => Option Nat) (fun _ _ => none) (fun _ => none) (fun l _ => Bool.rec (motive := fun _ => Option Nat) none (some l) (Nat.beq k 0)) (fun _ _ => none) (fun _ _ l _ => Bool.rec (motive := fun _ => Option Nat) none (some l) (Nat.beq k 1))
    (fun y => AX.casesOn (motive_1 := fun _ => Option Nat) y none none (Bool.rec (motive := fun _ => Option Nat) none (some 0) (Nat.beq k 1)) (Bool.rec (motive := fun _ => Option Nat) none (some 0) (Nat.beq k 2)) none none
      (fun r => Bool.rec (motive := fun _ => Option Nat) none (blkM none (fun es => some es.length) (H.get r)) (Nat.beq k 2)) (fun _ _ _ => none) (fun _ _ => none) (fun _ => none) (fun _ => none) (fun _ => none) (fun _ _ => none) (fun _ _ _ => none)) v

theorem MRel.length {e : Emb} : ∀ {l : List (AV × AV)} {l' : List MapEntry}, MRel e l l' → l.length = l'.length
  | _, _, .nil => rfl
  | _, _, .cons _ _ t => by simp [MRel.length t]

theorem lenA_run {P : Program} {t ty : TypeId} {k n : Nat} (ht : lenKind P t = some k) {H : AHeap} {v : AV} (h : lenA k H v = some n) {e : Emb} {w : World} (hr : Rel P.globals.size e H w) {v' : Value} (hv : VRel e v v') :
    (Builtin.len_ #[t] ty #[v']).run P w = .ok (goInt n) w := by
  unfold lenKind at ht
  cases hu : P.underlying t with
  | none => rw [hu] at ht; cases ht
  | some d =>
    rw [hu] at ht
    cases d with
    | string =>
      cases ht
      cases v with
      | s l c => cases h; cases hv; simp [Builtin.len_, run_underlying hu, strV_size]
      | x y => cases y <;> cases h
      | _ => cases h
    | slice el =>
      cases ht
      cases v with
      | sl b o l c => cases h; cases hv <;> simp [Builtin.len_, run_underlying hu]
      | x y => cases y with
        | nils => cases h; cases hv; simp [Builtin.len_, run_underlying hu]
        | _ => cases h
      | _ => cases h
    | map kt el =>
      cases ht
      cases v with
      | x y => cases y with
        | nilm => cases h; cases hv; simp [Builtin.len_, run_underlying hu]
        | m r =>
          have h' : blkM none (fun es => some es.length) (H.get r) = some n := h
          cases hb : H.get r with
          | none => rw [hb] at h'; cases h'
          | some yy =>
            rw [hb] at h'
            cases yy with
            | m es =>
              cases h'
              cases hv
              rename_i i hi
              obtain ⟨es', ck, q1, q2⟩ := hr.obj r i _ hi hb
              have hlen := q2.length
              simp only [Array.length_toList] at hlen
              simp [Builtin.len_, run_underlying hu, getObj, Sem.run, q1, hlen]
            | _ => cases h'
        | _ => cases h
      | _ => cases h
    | _ => simp at ht

/-- min of two whole numbers. -/
def iMin (k M h n m : Nat) : Option AV := some (.i k (Bool.rec (motive := fun _ => Nat) n m (Nat.ble (Nat.add (Nat.mod (Nat.add m h) M) 1) (Nat.mod (Nat.add n h) M))))
theorem opMin_snd {P : Program} {o : Oper} {x y : Operand} {x' y' : Env → AV} {ts : Array TypeId} {k M h : Nat} (ho : o.op = .call { callee := .builtin .min, args := #[x, y], argTypes := ts }) (hk : k < 8) (hM : M = 2 ^ (kindOf k).bits) (hh : h = if (kindOf k).signed then 2 ^ ((kindOf k).bits - 1) else 0)
    (hx : OpndOk P S x x') (hy : OpndOk P S y y') (en : Env) (H : AHeap) : OSnd P S o en H (opBinI k (iMin k M h) x' y' en H) := by
  unfold opBinI
  cases h1 : x' en with
  | i k1 n =>
    cases h2 : y' en with
    | i k2 m =>
      simp only [avI, bif']
      cases c1 : Nat.beq k1 k with
      | false => trivial
      | true =>
      cases c2 : Nat.beq k2 k with
      | false => trivial
      | true =>
      have d1 : k1 = k := Nat.eq_of_beq_eq_true c1
      have d2 : k2 = k := Nat.eq_of_beq_eq_true c2
      rw [d1] at h1
      rw [d2] at h2
      simp only [iMin, optE]
      refine OSnd.pure fun N D e w a hr ha => ?_
      have q1 := hx N D e en a H w hr ha
      have q2 := hy N D e en a H w hr ha
      rw [h1] at q1
      rw [h2] at q2
      generalize hxv : a.eval x = xv at q1
      generalize hyv : a.eval y = yv at q2
      cases q1
      cases q2
      rename_i hn _ hm
      have hw := wrap_lt k m n M h hk hM hh hm hn
      refine ⟨.int (kindOf k) (if (kindOf k).wrap (m : Int) < (kindOf k).wrap (n : Int) then (kindOf k).wrap (m : Int) else (kindOf k).wrap (n : Int)), ?_, ?_⟩
      · rw [exec_builtin ho]
        simp [builtin, Builtin.min_, Builtin.min2, hxv, hyv]
      · rw [brec]
        simp only [ble_tt]
        by_cases hc : (kindOf k).wrap (m : Int) < (kindOf k).wrap (n : Int)
        · rw [if_pos hc, if_pos (show Nat.add (Nat.mod (Nat.add m h) M) 1 ≤ Nat.mod (Nat.add n h) M from hw.1 hc)]
          exact .i k m hk hm
        · rw [if_neg hc, if_neg (show ¬ Nat.add (Nat.mod (Nat.add m h) M) 1 ≤ Nat.mod (Nat.add n h) M from fun q => hc (hw.2 q))]
          exact .i k n hk hn
    | _ => trivial
  | _ => trivial

def opLen (k : Nat) (x : Env → AV) (en : Env) (H : AHeap) : ORes := optN .fail (fun n => intA n (.v (.i 3 n) H)) (lenA k H (x en))
theorem opLen_snd {P : Program} {o : Oper} {t : TypeId} {x : Operand} {x' : Env → AV} {k : Nat} (ho : o.op = .call { callee := .builtin .len, args := #[x], argTypes := #[t] }) (ht : lenKind P t = some k) (hx : OpndOk P S x x') (en : Env) (H : AHeap) :
    OSnd P S o en H (opLen k x' en H) := by
  unfold opLen
  cases h : lenA k H (x' en) with
  | none => trivial
  | some n =>
    simp only [optN, intA, bif']
    cases hb : Nat.ble (Nat.add n 1) 9223372036854775808 with
    | false => trivial
    | true =>
      have hb' : n + 1 ≤ 9223372036854775808 := by rw [ble_tt] at hb; exact hb
      refine OSnd.pure fun N D e w a hr ha => ⟨goInt n, ?_, vrel_int64 e n hb'⟩
      rw [exec_builtin ho]
      simp only [builtin, List.map_toArray, List.map_cons, List.map_nil, Sem.run_bind, lenA_run ht h hr (hx N D e en a H w hr ha)]
      rfl

/-- cap, where the limit is known. -/
def opCap (sz : Nat) (x : Env → AV) (en : Env) (H : AHeap) : ORes :=
  AVp.rec (motive := fun _ => ORes) (fun _ _ => .fail) (fun _ => .fail) (fun _ _ => .fail) (fun _ _ => .fail)
    (fun b o _ cap => Option.rec (motive := fun _ => ORes) .fail (fun g => Bool.rec (motive := fun _ => ORes) (intA cap (.v (.i 3 cap) H)) .fail g) (grows H b o cap sz))
    (fun y => axNils .fail (.v (.i 3 0) H) y) (x en)
theorem opCap_snd {P : Program} {o : Oper} {t el : TypeId} {x : Operand} {x' : Env → AV} {sz : Nat} (ho : o.op = .call { callee := .builtin .cap, args := #[x], argTypes := #[t] }) (ht : P.underlying t = some (.slice el)) (hx : OpndOk P S x x') (en : Env) (H : AHeap) :
    OSnd P S o en H (opCap sz x' en H) := by
  unfold opCap
  cases h : x' en with
  | sl b k len cap =>
    simp only
    cases hg : grows H b k cap sz with
    | none => trivial
    | some g =>
      cases g with
      | true => trivial
      | false =>
        simp only [intA, bif']
        cases hb : Nat.ble (Nat.add cap 1) 9223372036854775808 with
        | false => trivial
        | true =>
          have hb' : cap + 1 ≤ 9223372036854775808 := by rw [ble_tt] at hb; exact hb
          refine OSnd.pure fun N D e w a hr ha => ⟨goInt cap, ?_, vrel_int64 e cap hb'⟩
          have h1 := hx N D e en a H w hr ha
          rw [h] at h1
          generalize hxv : a.eval x = xv at h1
          rw [exec_builtin ho]
          cases h1 with
          | sl _ _ _ _ cap' i hi hc =>
            have := grows_false hg hr hi hc
            subst this
            simp only [builtin, List.map_toArray, List.map_cons, List.map_nil, Sem.run_bind, hxv]
            simp [Builtin.cap_, run_underlying ht]
          | slq =>
            simp only [builtin, List.map_toArray, List.map_cons, List.map_nil, Sem.run_bind, hxv]
            simp [Builtin.cap_, run_underlying ht]
  | x y =>
    cases y with
    | nils =>
      simp only [axNils]
      refine OSnd.pure fun N D e w a hr ha => ⟨goInt 0, ?_, vrel_int64 e 0 (by omega)⟩
      have h1 := hx N D e en a H w hr ha
      rw [h] at h1
      generalize hxv : a.eval x = xv at h1
      cases h1
      rw [exec_builtin ho]
      simp only [builtin, List.map_toArray, List.map_cons, List.map_nil, Sem.run_bind, hxv]
      simp [Builtin.cap_, run_underlying ht]
    | _ => trivial
  | _ => trivial

/-! ### Many zero values -/
def repA (Z : List AV) (n : Nat) : List AV := Nat.rec (motive := fun _ => List AV) [] (fun _ ih => Z ++ ih) n
theorem repA_rel {e : Emb} {Z : List AV} {Z' : List Value} (h : VRels e Z Z') : ∀ n, VRels e (repA Z n) (List.replicate n Z').flatten
  | 0 => .nil
  | n + 1 => by
    have : repA Z (n + 1) = Z ++ repA Z n := rfl
    rw [this, List.replicate_succ, List.flatten_cons]
    exact h.append (repA_rel h n)
theorem flatten_replicate_get (Z : List Value) : ∀ (n j : Nat), j < n * Z.length → (List.replicate n Z).flatten[j]? = Z[j % Z.length]?
  | 0, j, h => by omega
  | n + 1, j, h => by
    rw [List.replicate_succ, List.flatten_cons]
    by_cases hj : j < Z.length
    · rw [List.getElem?_append_left hj, Nat.mod_eq_of_lt hj]
    · rw [List.getElem?_append_right (by omega), flatten_replicate_get Z n (j - Z.length) (by rw [Nat.add_mul] at h; omega)]
      congr 1
      exact (Nat.mod_eq_sub_mod (by omega)).symm
theorem zeros_eq (z : Array Value) (n : Nat) (hz : 0 < z.size) : (Array.range (n * z.size)).map (fun i => z[i % z.size]!) = (List.replicate n z.toList).flatten.toArray := by
  apply Array.ext_getElem?
  intro j
  have hlen : (List.replicate n z.toList).flatten.length = n * z.size := by simp
  by_cases hj : j < n * z.size
  · have h1 := flatten_replicate_get z.toList n j (by simpa using hj)
    have hm : j % z.size < z.size := Nat.mod_lt _ hz
    have h2 : (List.replicate n z.toList).flatten.toArray[j]? = z.toList[j % z.toList.length]? := by rw [List.getElem?_toArray]; exact h1
    rw [h2]
    simp [hj, hm]
  · rw [Array.getElem?_eq_none (by simp; omega), Array.getElem?_eq_none (by simp; omega)]

def opMakeSlice (bytes : Nat) (Z : List AV) (x y : Env → AV) (en : Env) (H : AHeap) : ORes :=
  optN .fail (fun l => optN .fail (fun c => bif' .fail (bif' .fail (.v (.sl H.nxt 0 l c) (newA H (repA Z c))) (Nat.ble l c)) (Nat.ble (Nat.mul c bytes) 140737488355328)) (natOf (y en))) (natOf (x en))
theorem opMakeSlice_snd {P : Program} {o : Oper} {t el : TypeId} {x y : Operand} {x' y' : Env → AV} {bytes : Nat} {Z : List AV} {i : TypeInfo} {zv : Value} (ho : o.op = .makeSlice t x y) (ht : P.underlying t = some (.slice el)) (hi : P.info? el = some i)
    (hz : i.zero = some zv) (hby : i.bytes = bytes) (hb0 : 0 < bytes) (hsz : i.size = zv.cells.size) (hs0 : 0 < i.size) (hZ : ∀ e, VRels e Z zv.cells.toList) (hx : OpndOk P S x x') (hy : OpndOk P S y y') (en : Env) (H : AHeap) : OSnd P S o en H (opMakeSlice bytes Z x' y' en H) := by
  unfold opMakeSlice
  cases hl : natOf (x' en) with
  | none => trivial
  | some l =>
  simp only [optN]
  cases hc : natOf (y' en) with
  | none => trivial
  | some c =>
  simp only [bif']
  cases h1 : Nat.ble (Nat.mul c bytes) 140737488355328 with
  | false => trivial
  | true =>
  cases h2 : Nat.ble l c with
  | false => trivial
  | true =>
  have d1 : c * bytes ≤ 140737488355328 := by rw [ble_tt] at h1; exact h1
  have d2 : l ≤ c := by rw [ble_tt] at h2; exact h2
  have d3 : c ≤ c * bytes := Nat.le_mul_of_pos_right _ hb0
  refine OSnd.value fun N D e w a hr ha => ?_
  obtain ⟨K, hK⟩ := natOf_spec hl (hx N D e en a H w hr ha)
  obtain ⟨K2, hK2⟩ := natOf_spec hc (hy N D e en a H w hr ha)
  have hrow := Evo.newRow hr (repA_rel (hZ e) c) el
  have hw : ∀ n : Nat, n ≤ 140737488355328 → IntKind.i64.wrap (n : Int) = n := fun n hn => by
    simp only [IntKind.wrap, IntKind.signed, IntKind.bits]; simp; omega
  refine ⟨_, .slice (some ⟨w.heap.size, 0, none⟩) l c, _, ?_, .sl H.nxt 0 l c c ⟨w.heap.size, 0, (repA Z c).length, 0, (List.replicate c zv.cells.toList).flatten.length⟩ (by simp) (.inl rfl), hrow⟩
  have hzr : zeroOf P el = some zv := by unfold zeroOf; rw [hi]; exact hz
  have hsr : szOf P el = some zv.cells.size := by unfold szOf; rw [hi]; simp [hsz]
  have e1 : ¬ ((c : Int) < 0) := by omega
  have e2 : ¬ ((i.bytes : Int) * (c : Int) > 2 ^ 48) := by
    rw [hby]
    have : ((c * bytes : Nat) : Int) ≤ 140737488355328 := by omega
    rw [Nat.mul_comm] at this
    simp only [Int.natCast_mul] at this
    omega
  have e3 : ¬ ((l : Int) < 0) := by omega
  have e4 : ¬ ((l : Int) > (c : Int)) := by omega
  have hcond : (((decide ((c : Int) < 0) || decide ((i.bytes : Int) * (c : Int) > 2 ^ 48)) || decide ((l : Int) < 0)) || decide ((l : Int) > (c : Int))) = false := by
    rw [decide_eq_false e1, decide_eq_false e2, decide_eq_false e3, decide_eq_false e4]; rfl
  have hzc := zeros_eq zv.cells c (by omega)
  simp only [execOp, ho, Sem.run_bind, hK, hK2]
  simp only [Instr.makeSlice, Sem.run_bind, run_underlying ht, Result.andThen_ok, asInt, asIntOf, Sem.run_pure, typeInfo, run_program, hi, hw l (by omega), hw c (by omega)]
  by_cases h0 : c * i.size = 0
  · have hc0 : c = 0 := by rcases Nat.mul_eq_zero.1 h0 with h | h <;> omega
    subst hc0
    have hl0 : l = 0 := by omega
    subst hl0
    have hr0 : Array.range 0 = #[] := rfl
    simp [run_sizeOf hsr, newRow, hr0]
  · simp only [hcond, Bool.false_eq_true, if_false, Sem.run_bind, run_askRoom, Result.andThen_ok, run_sizeOf hsr, Int.toNat_natCast]
    rw [if_neg (by rw [hsz] at h0; exact h0)]
    simp only [Sem.run_bind, run_zeroOf hzr, Result.andThen_ok, Sem.run_pure]
    simp [newRow, hzc]

/-- append(nil, make(.., n)...) -/
def opAppendZ (bytes sz : Nat) (Z : List AV) (x y : Env → AV) (en : Env) (H : AHeap) : ORes :=
  avX .fail (axNils .fail (optN .fail (fun n => bif' (bif' .fail (.v (.sl H.nxt 0 n n) (newG H (repA Z n) sz)) (Nat.ble (Nat.mul n bytes) 140737488355328)) .fail (Nat.beq n 0)) (natOf (y en)))) (x en)
theorem opAppendZ_snd {P : Program} {o : Oper} {t u el : TypeId} {ku : IntKind} {x y : Operand} {x' y' : Env → AV} {bytes sz : Nat} {Z : List AV} {i : TypeInfo} {zv : Value} (ho : o.op = .call { callee := .builtin .append, args := #[x, y], argTypes := #[t, u] }) (ht : P.underlying t = some (.slice el)) (hu : P.underlying u = some (.int ku)) (hi : P.info? el = some i)
    (hz : i.zero = some zv) (hby : i.bytes = bytes) (hb0 : 0 < bytes) (hsz : i.size = zv.cells.size) (hs : i.size = sz) (hs0 : 0 < i.size) (hZ : ∀ e, VRels e Z zv.cells.toList) (hx : OpndOk P S x x') (hy : OpndOk P S y y') (en : Env) (H : AHeap) : OSnd P S o en H (opAppendZ bytes sz Z x' y' en H) := by
  unfold opAppendZ
  cases h : x' en with
  | x w0 =>
    cases w0 with
    | nils =>
      simp only [avX, axNils]
      cases hn : natOf (y' en) with
      | none => trivial
      | some n =>
      simp only [optN, bif']
      cases h0 : Nat.beq n 0 with
      | true => trivial
      | false =>
      cases h1 : Nat.ble (Nat.mul n bytes) 140737488355328 with
      | false => trivial
      | true =>
      have d1 : n * bytes ≤ 140737488355328 := by rw [ble_tt] at h1; exact h1
      have d0 : 0 < n := by
        rcases Nat.eq_zero_or_pos n with q | q
        · subst q; cases h0
        · exact q
      have d3 : n ≤ n * bytes := Nat.le_mul_of_pos_right _ hb0
      refine OSnd.value fun N D e w a hr ha => ?_
      obtain ⟨K, hK⟩ := natOf_spec hn (hy N D e en a H w hr ha)
      have hx1 := hx N D e en a H w hr ha
      rw [h] at hx1
      generalize hxv : a.eval x = xv at hx1
      cases hx1
      have hrel := repA_rel (hZ e) n
      have hrlen := hrel.length
      have hfl : (List.replicate n zv.cells.toList).flatten.length = n * sz := by simp [← hs, hsz]
      have hrow := Evo.newRoom hr hrel (Builtin.zeroCells zv.cells (grownCap w n 0 el - n)) el sz
      have hzr : zeroOf P el = some zv := by unfold zeroOf; rw [hi]; exact hz
      have hw : IntKind.i64.wrap (n : Int) = n := by
        simp only [IntKind.wrap, IntKind.signed, IntKind.bits]; simp; omega
      have hzc : Builtin.zeroCells zv.cells n = (List.replicate n zv.cells.toList).flatten.toArray := zeros_eq zv.cells n (by omega)
      have e1 : ¬ ((n : Int) < 0) := by omega
      have e2 : ¬ ((n : Int) * (i.bytes : Int) > 2 ^ 48) := by
        rw [hby]
        have : ((n * bytes : Nat) : Int) ≤ 140737488355328 := by omega
        simp only [Int.natCast_mul] at this
        omega
      have e4 : ¬ (Builtin.nextslicecap n 0 * i.bytes > 2 ^ 48) := by rw [nextslicecap_zero d0, hby]; omega
      have e5 : n * i.size ≠ 0 := by
        have := Nat.mul_pos d0 hs0; omega
      refine ⟨_, .slice (some ⟨w.heap.size, 0, none⟩) n (grownCap w n 0 el), _, ?_, ?_, hrow⟩
      · rw [exec_builtin ho]
        simp only [builtin, List.map_toArray, List.map_cons, List.map_nil, hxv, hK, Sem.run_bind]
        have f1 : ¬ (281474976710656 < (n : Int) * (i.bytes : Int)) := by omega
        have f2 : ¬ (n = 0) := by omega
        have f3 : ¬ (9223372036854775807 < (n : Int)) := by omega
        simp [Builtin.append_, run_underlying ht, run_underlying hu, sizeOf, typeInfo, hi, asInt, asIntOf, hw, e4, e5, run_zeroOf hzr, Question.forced, Builtin.firstCells, newRow, grownCap, hzc]
        rw [if_neg e1, if_neg f1, if_neg f2, if_neg f3]
      · have hgc := grownCap_ge w n 0 el
        refine VRel.sl (e := e.put H.nxt ⟨w.heap.size, 0, (repA Z n).length, sz, (List.replicate n zv.cells.toList).flatten.length + (Builtin.zeroCells zv.cells (grownCap w n 0 el - n)).size⟩) H.nxt 0 n n (grownCap w n 0 el)
          ⟨w.heap.size, 0, (repA Z n).length, sz, (List.replicate n zv.cells.toList).flatten.length + (Builtin.zeroCells zv.cells (grownCap w n 0 el - n)).size⟩ (by simp) (.inr ⟨by simp only; omega, ?_, hgc, ?_⟩)
        · simp only [Nat.zero_add]; rw [hrlen, hfl]
        · rw [zeroCells_size, ← hsz, hs, hfl, ← Nat.add_mul]
          simp only [Nat.zero_add]
          exact Nat.le_of_eq (by congr 1; omega)
    | _ => trivial
  | _ => trivial
end
end Go.Ab
