/- The check of one operation, and that it is sound. -/
import Derived.Test.YtfhaailmhaamfaaGreatDoorAbK
namespace Go.Ab
open Go
noncomputable section
variable {S : BT Nat}

def Runs (P : Program) (f : FuncId) (args : Array Value) (w : World) (R : Ending → World → Prop) : Prop :=
  ((callFunc f args).run P w = .ok (.enter f args) w ∧ Calls P f args w R) ∨ ∃ v w', (callFunc f args).run P w = .ok (.value v) w' ∧ R (.returned v) w'

/-- What a call comes to is sound. -/
def FSnd (P : Program) (f : Nat) (args : List AV) (H : AHeap) : ORes → Prop
  | .fail => True
  | .v v H' => ∀ e w args', Rel P.globals.size e H w → VRels e args args' →
      Runs P f args'.toArray w (fun E w' => ∃ e' v', E = .returned v' ∧ VRel e' v v' ∧ Evo P.globals.size e H w e' H' w')
  | .pan v H' => ∀ e w args', Rel P.globals.size e H w → VRels e args args' →
      Runs P f args'.toArray w (fun E w' => ∃ e' v', E = .panicked [⟨v', false, false⟩] ∧ VRel e' v v' ∧ Evo P.globals.size e H w e' H' w')
def FsOk (P : Program) (F : Fs) : Prop := ∀ f args H, FSnd P f args H (F f args H)

theorem Runs.upon {P : Program} {o : Oper} {a : Act} {f : FuncId} {args : Array Value} {w : World} {R : Ending → World → Prop} {next : Act → World → Prop} {Q : Exit → Act → World → Prop} (h : Runs P f args w R)
    (hr : ∀ v w', R (.returned v) w' → next (a.put o.dst v) w') (hp : ∀ c w', R (.panicked c) w' → Q (.panic c) a w') (ho : ∀ w', R .outgrown w' → LetsOut Q) : o.upon P a next Q ((callFunc f args).run P w) := by
  rcases h with ⟨h1, h2⟩ | ⟨v, w', h1, h2⟩
  · rw [h1, Oper.upon_enter]
    exact Calls.mono h2 fun E w' hE => by
      cases E with
      | returned v => exact hr v w' hE
      | panicked c => exact hp c w' hE
      | outgrown => exact ho w' hE
  · rw [h1, Oper.upon_value]; exact hr v w' h2

theorem call_snd {P : Program} {o : Oper} {en : Env} {H : AHeap} {f : Nat} {args : List AV} (r : ORes) (hF : FSnd P f args H r)
    (h : ∀ N D e w a, Rel P.globals.size e H w → ARel S N D e en a → ∃ args' : List Value, VRels e args args' ∧ (execOp a.eval o).run P w = (callFunc f args'.toArray).run P w) : OSnd P S o en H r := by
  cases r with
  | fail => trivial
  | v v H' =>
    intro N D e w a hr ha
    obtain ⟨args', h1, h2⟩ := h N D e w a hr ha
    simp only [Oper.wp, h2]
    refine (hF e w args' hr h1).upon ?_ ?_ ?_
    · rintro v1 w' ⟨e', v', hE, hv, hevo⟩
      cases hE
      exact ⟨e', _, rfl, hv, hevo⟩
    · rintro c w' ⟨e', v', hE, hv, hevo⟩
      cases hE
    · rintro w' ⟨e', v', hE, hv, hevo⟩
      cases hE
  | pan v H' =>
    intro N D e w a hr ha
    obtain ⟨args', h1, h2⟩ := h N D e w a hr ha
    simp only [Oper.wp, h2]
    refine (hF e w args' hr h1).upon ?_ ?_ ?_
    · rintro v1 w' ⟨e', v', hE, hv, hevo⟩
      cases hE
    · rintro c w' ⟨e', v', hE, hv, hevo⟩
      cases hE
      exact ⟨e', _, rfl, rfl, hv, hevo⟩
    · rintro w' ⟨e', v', hE, hv, hevo⟩
      cases hE

theorem exec_call {P : Program} {o : Oper} {x : Operand} {args : Array Operand} {argTypes : Array TypeId} (ho : o.op = .call { callee := .value x, args, argTypes }) (ρ : Operand → Value) {f : Nat} {first captured : Array Value} (hx : ρ x = .func (.func f) first captured) (w : World) :
    (execOp ρ o).run P w = (callFunc f ((first ++ args.map ρ) ++ captured)).run P w := by
  simp [execOp, ho, resolve, hx, Deferred.ofValue, invoke]

theorem opPan_snd {P : Program} {o : Oper} {x : Operand} {x' : Env → AV} (ho : o.op = .panic x) (hx : OpndOk P S x x') (en : Env) (H : AHeap) : OSnd P S o en H (opPan x' en H) := by
  unfold opPan
  cases h : x' en with
  | x u =>
    cases u with
    | ifc t v =>
      intro N D e w a hr ha
      have h1 := hx N D e en a H w hr ha
      rw [h] at h1
      generalize hxv : a.eval x = xv at h1
      cases h1
      rename_i v' hv
      have hrun : (execOp a.eval o).run P w = .halt (.panic (.iface t v')) w := by simp [execOp, ho, hxv, Instr.panic, goPanic, Sem.run]
      unfold Oper.wp
      rw [hrun, Oper.upon_panic]
      exact ⟨e, .iface t v', rfl, rfl, .ifc t v v' hv, Evo.refl hr⟩
    | _ => trivial
  | _ => trivial

def KBin.okB (b : KBin) (k M h : Nat) (op : BinOp) : Bool :=
  Nat.ble (k + 1) 8 && Nat.beq M (2 ^ (kindOf k).bits) &&
  match b, op with
  | .add, .add | .sub, .sub | .mul, .mul | .eq, .eql | .ne, .neq | .and, .and | .or, .or | .xor, .xor | .andn, .andNot => true
  | .lt, .lss | .le, .leq | .gt, .gtr | .ge, .geq => Nat.beq h (if (kindOf k).signed then 2 ^ ((kindOf k).bits - 1) else 0)
  | .quo, .quo | .rem, .rem => Nat.beq h (if (kindOf k).signed then 2 ^ ((kindOf k).bits - 1) else 2 ^ (kindOf k).bits)
  | _, _ => false
theorem KBin.okB_spec {P : Program} {t : TypeId} {b : KBin} {k M h : Nat} {op : BinOp} (hb : b.okB k M h op = true) : BinOk P op t k (b.den k M h) := by
  simp only [KBin.okB, Bool.and_eq_true, ble_tt, beq_tt] at hb
  obtain ⟨⟨hk, hM⟩, hb⟩ := hb
  have hk : k < 8 := hk
  revert hb
  cases b <;> cases op <;> intro hb <;> first
    | (cases hb; done)
    | exact iAdd_ok P t k hk M hM
    | exact iSub_ok P t k hk M hM
    | exact iMul_ok P t k hk M hM
    | exact iEq_ok P t k hk
    | exact iNe_ok P t k hk
    | exact iAnd_ok P t k hk
    | exact iOr_ok P t k hk
    | exact iXor_ok P t k hk
    | exact iAndNot_ok P t k M hk hM
    | exact iLt_ok P t k M h hk hM (Nat.eq_of_beq_eq_true hb)
    | exact iLe_ok P t k M h hk hM (Nat.eq_of_beq_eq_true hb)
    | exact iGt_ok P t k M h hk hM (Nat.eq_of_beq_eq_true hb)
    | exact iGe_ok P t k M h hk hM (Nat.eq_of_beq_eq_true hb)
    | exact iQuo_ok P t k M h hk hM (Nat.eq_of_beq_eq_true hb)
    | exact iRem_ok P t k M h hk hM (Nat.eq_of_beq_eq_true hb)
theorem half_lt (k : Nat) : (if (kindOf k).signed then 2 ^ ((kindOf k).bits - 1) else 0) < 2 ^ (kindOf k).bits := by
  generalize kindOf k = K
  cases K <;> decide
theorem KBin.okB_rng {b : KBin} {k M h : Nat} {op : BinOp} (hb : b.okB k M h op = true) : RngOk k (b.den k M h) (b.rng k M h) := by
  simp only [KBin.okB, Bool.and_eq_true, ble_tt, beq_tt] at hb
  obtain ⟨⟨hk, hM⟩, hb⟩ := hb
  revert hb
  cases b <;> cases op <;> intro hb <;> first
    | (cases hb; done)
    | exact gAdd_ok k M hM
    | exact gSub_ok k M hM
    | exact gEq_ok k
    | exact gNe_ok k
    | exact gLt_ok k M h hM (by rw [hM, Nat.eq_of_beq_eq_true hb]; exact half_lt k)
    | exact gLe_ok k M h hM (by rw [hM, Nat.eq_of_beq_eq_true hb]; exact half_lt k)
    | exact (gLt_ok k M h hM (by rw [hM, Nat.eq_of_beq_eq_true hb]; exact half_lt k)).swap
    | exact (gLe_ok k M h hM (by rw [hM, Nat.eq_of_beq_eq_true hb]; exact half_lt k)).swap
    | exact gNone_ok k _
def KSh.okB (b : KSh) (k M h bits : Nat) (op : BinOp) : Bool :=
  Nat.ble (k + 1) 8 && Nat.beq bits (kindOf k).bits &&
  match b, op with
  | .shl, .shl => Nat.beq M (2 ^ bits)
  | .shr, .shr => Nat.beq h (if (kindOf k).signed then 2 ^ ((kindOf k).bits - 1) else 2 ^ (kindOf k).bits)
  | _, _ => false
theorem KSh.okB_spec {P : Program} {t : TypeId} {b : KSh} {k M h bits : Nat} {op : BinOp} (hb : b.okB k M h bits op = true) : ShOk P op t k (b.den k M h bits) := by
  simp only [KSh.okB, Bool.and_eq_true, ble_tt, beq_tt] at hb
  obtain ⟨⟨hk, hM⟩, hb⟩ := hb
  have hk : k < 8 := hk
  revert hb
  cases b <;> cases op <;> intro hb <;> first
    | (cases hb; done)
    | exact sShl_ok P t k M bits hk hM (Nat.eq_of_beq_eq_true hb)
    | exact sShr_ok P t k h bits hk hM (Nat.eq_of_beq_eq_true hb)
theorem halfT_eq : ∀ k, k < 8 → halfT k = halfK k
  | 0, _ | 1, _ | 2, _ | 3, _ | 4, _ | 5, _ | 6, _ | 7, _ => by decide
  | n + 8, h => by omega
theorem modT_eq : ∀ k, k < 8 → modT k = modK k
  | 0, _ | 1, _ | 2, _ | 3, _ | 4, _ | 5, _ | 6, _ | 7, _ => by decide
  | n + 8, h => by omega
end
end Go.Ab
