/- What has no Go text: bytealg.IndexByteString. -/
import Derived.Test.YtfhaailmhaamfaaGreatDoorAbF
namespace Go.Ab
open Go
noncomputable section

def idxB (c : Nat) (n : Nat) : Nat → Nat → Option Nat :=
  Nat.rec (motive := fun _ => Nat → Nat → Option Nat) (fun _ _ => none) (fun _ ih code i => Bool.rec (motive := fun _ => Option Nat) (ih (Nat.div code 256) (Nat.add i 1)) (some i) (Nat.beq (Nat.mod code 256) c)) n
theorem idxB_succ (c n code i : Nat) : idxB c (n + 1) code i = if code % 256 = c then some i else idxB c n (code / 256) (i + 1) := by
  have h : idxB c (n + 1) code i = Bool.rec (motive := fun _ => Option Nat) (idxB c n (code / 256) (i + 1)) (some i) (Nat.beq (code % 256) c) := rfl
  rw [h, brec]; simp only [beq_tt]
theorem ofNat_beq (a c : Nat) (ha : a < 256) (hc : c < 256) : (UInt8.ofNat a == UInt8.ofNat c) = decide (a = c) := by
  rw [Bool.eq_iff_iff]
  simp only [beq_iff_eq, decide_eq_true_eq]
  constructor
  · intro h
    have := congrArg UInt8.toNat h
    simpa [UInt8.toNat_ofNat, Nat.mod_eq_of_lt ha, Nat.mod_eq_of_lt hc] using this
  · rintro rfl; rfl
theorem find_range' (l : List UInt8) (c : UInt8) : ∀ (m k : Nat), k + m = l.length → (List.range' k m).find? (fun i => l[i]! == c) = ((l.drop k).findIdx? (· == c)).map (· + k)
  | 0, k, h => by
    have : l.drop k = [] := List.drop_eq_nil_of_le (by omega)
    simp [this]
  | m + 1, k, h => by
    have hk : k < l.length := by omega
    rw [List.range'_succ, List.find?_cons, List.drop_eq_getElem_cons hk, List.findIdx?_cons]
    have hg : l[k]! = l[k] := by simp [hk]
    rw [hg]
    cases hc : (l[k] == c) with
    | true => simp
    | false =>
      simp only [Bool.false_eq_true, if_false]
      rw [find_range' l c m (k + 1) (by omega)]
      cases (List.drop (k + 1) l).findIdx? (· == c) with
      | none => rfl
      | some j => simp; omega
theorem ba_get (l : List UInt8) (i : Nat) : (⟨l.toArray⟩ : ByteArray)[i]! = l[i]! := by
  by_cases h : i < l.length
  · have h2 : i < (⟨l.toArray⟩ : ByteArray).size := by simpa [ByteArray.size] using h
    rw [getElem!_pos (⟨l.toArray⟩ : ByteArray) i h2, getElem!_pos l i h]
    rfl
  · have h2 : ¬ i < (⟨l.toArray⟩ : ByteArray).size := by simpa [ByteArray.size] using h
    rw [getElem!_neg (⟨l.toArray⟩ : ByteArray) i h2, getElem!_neg l i h]
theorem idxB_spec (c : Nat) (hc : c < 256) : ∀ (n code i : Nat), idxB c n code i = ((bytesOf n code).findIdx? (· == UInt8.ofNat c)).map (· + i)
  | 0, code, i => rfl
  | n + 1, code, i => by
    rw [idxB_succ, bytesOf, List.findIdx?_cons, ofNat_beq _ _ (Nat.mod_lt _ (by omega)) hc]
    by_cases h : code % 256 = c
    · simp [h]
    · rw [if_neg h]
      simp only [h, decide_false, Bool.false_eq_true, if_false]
      rw [idxB_spec c hc n]
      cases (bytesOf n (code / 256)).findIdx? (· == UInt8.ofNat c) with
      | none => rfl
      | some j => simp; omega

def pIdxByte (args : List AV) (H : AHeap) : ORes :=
  List.rec (motive := fun _ => ORes) .fail (fun x r _ => List.rec (motive := fun _ => ORes) .fail (fun y q _ => List.rec (motive := fun _ => ORes)
    (avS .fail (fun l code => avI .fail (fun k c => bif' .fail (bif' .fail (.v (.i 3 (Option.rec (motive := fun _ => Nat) 18446744073709551615 (fun i => i) (idxB c l code 0))) H) (Nat.ble (Nat.add l 1) 9223372036854775808)) (Nat.beq k 4)) y) x) (fun _ _ _ => .fail) q) r) args

theorem run_extern {P : Program} {f : FuncId} {fn : Func} {e : Array Value → Sem Value} (hf : P.funcs[f]? = some fn) (hname : (fn.name == "runtime.NumGoroutine") = false) (hb : fn.body.isNone = true) (hn : Extern.findNext fn = none) (he : Extern.find fn = some e) (args : Array Value) (w : World) {v : Value} {w' : World}
    (hr : (e args).run P w = .ok v w') : (callFunc f args).run P w = .ok (.value v) w' := by
  have h1 : ¬ fn.name = "runtime.NumGoroutine" := by simpa using hname
  have hb' : fn.body = none := by simpa using hb
  simp [callFunc, program, Sem.run, hf, h1, hb', mark, hn, he, hr]

theorem idxB_lt (c : Nat) : ∀ (n code i j : Nat), idxB c n code i = some j → j < i + n
  | 0, code, i, j, h => by cases h
  | n + 1, code, i, j, h => by
    rw [idxB_succ] at h
    split at h
    · cases h; omega
    · have := idxB_lt c n _ _ _ h; omega

theorem pIdxByte_snd {P : Program} {f : FuncId} {fn : Func} (hf : P.funcs[f]? = some fn) (hname : (fn.name == "runtime.NumGoroutine") = false) (hb : fn.body.isNone = true) (hn : Extern.findNext fn = none) (he : Extern.find fn = some Extern.BytealgIndexByte.indexByte)
    (args : List AV) (H : AHeap) : FSnd P f args H (pIdxByte args H) := by
  unfold pIdxByte
  cases args with
  | nil => trivial
  | cons x r =>
  cases r with
  | nil => trivial
  | cons y q =>
  cases q with
  | cons => trivial
  | nil =>
  cases x with
  | s l code =>
    cases y with
    | i k c =>
      simp only [avS, avI, bif']
      cases hk : Nat.beq k 4 with
      | false => trivial
      | true =>
      cases hl : Nat.ble (Nat.add l 1) 9223372036854775808 with
      | false => trivial
      | true =>
        have hk' := Nat.eq_of_beq_eq_true hk
        subst hk'
        have hl' : l < 9223372036854775808 := by rw [ble_tt] at hl; exact hl
        intro e w args' hr ha
        cases ha with
        | cons hx ht =>
        cases ht with
        | cons hy ht =>
        cases ht
        cases hx with
        | s _ _ hcode =>
        cases hy with
        | i _ _ hk hc =>
        have hc : c < 256 := hc
        have hsz : (⟨(bytesOf l code).toArray⟩ : ByteArray).size = l := by simp [ByteArray.size, bytesOf_length]
        have hfind : (List.range (⟨(bytesOf l code).toArray⟩ : ByteArray).size).find? (fun i => (⟨(bytesOf l code).toArray⟩ : ByteArray)[i]! == UInt8.ofNat c) = idxB c l code 0 := by
          rw [hsz, idxB_spec c hc, List.range_eq_range']
          have := find_range' (bytesOf l code) (UInt8.ofNat c) l 0 (by simp [bytesOf_length])
          simp only [List.drop_zero] at this
          rw [← this]
          simp only [ba_get]
        have hrun : (Extern.BytealgIndexByte.indexByte #[.string ⟨(bytesOf l code).toArray⟩, .int (kindOf 4) ((kindOf 4).wrap (c : Int))]).run P w = .ok (match idxB c l code 0 with | some i => goInt i | none => goInt (-1)) w := by
          have hw : (kindOf 4).wrap (c : Int) = c := by
            show (IntKind.u8).wrap (c : Int) = c
            simp [IntKind.wrap, IntKind.bits, IntKind.signed]; omega
          rw [hw]
          have h3 : (c : Int).toNat.toUInt8 = UInt8.ofNat c := rfl
          have hdef : ∀ b c, Extern.BytealgIndexByte.indexByte #[b, c] = (do
              let b ← Extern.Bytes.bytesOf b
              let c ← Extern.Bytes.asByte c
              match (List.range b.size).find? fun i => b[i]! == c with
              | some i => pure (goInt i)
              | none => pure (goInt (-1))) := fun _ _ => rfl
          simp only [hdef, Extern.Bytes.bytesOf, kindOf, Extern.Bytes.asByte, Sem.run_bind, Sem.run_pure, Result.andThen_ok, h3, hfind]
          cases idxB c l code 0 <;> rfl
        refine .inr ⟨_, w, run_extern hf hname hb hn he _ w hrun, e, _, rfl, ?_, Evo.refl hr⟩
        cases hi : idxB c l code 0 with
        | none => exact .i 3 18446744073709551615 (by omega) (by decide)
        | some i =>
          have := idxB_lt c _ _ _ _ hi
          exact vrel_int64 e i (by omega)
    | _ => trivial
  | _ => trivial
end
end Go.Ab
