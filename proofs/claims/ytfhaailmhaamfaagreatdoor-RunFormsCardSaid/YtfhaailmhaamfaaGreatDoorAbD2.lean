/- Regions that draw their order (2): operations that look at no memory. -/
import Derived.Test.YtfhaailmhaamfaaGreatDoorAbD1
namespace Go.Ab
open Go
noncomputable section

def ofO (o : Option AV) (H : AHeap) : ORes := match o with | some v => .v v H | none => .fail
def Cst (f : AHeap → ORes) : Prop := ∃ o : Option AV, ∀ H, f H = ofO o H
theorem cst_fail : Cst (fun _ => .fail) := ⟨none, fun _ => rfl⟩
theorem cst_v (v : AV) : Cst (fun H => .v v H) := ⟨some v, fun _ => rfl⟩
theorem cst_avI {v : AV} {f : Nat → Nat → AHeap → ORes} (h : ∀ k n, Cst (f k n)) : Cst (fun H => avI .fail (fun k n => f k n H) v) := by
  cases v <;> first | exact h _ _ | exact cst_fail
theorem cst_avB {v : AV} {f : Bool → AHeap → ORes} (h : ∀ k, Cst (f k)) : Cst (fun H => avB .fail (fun k => f k H) v) := by
  cases v <;> first | exact h _ | exact cst_fail
theorem cst_avS {v : AV} {f : Nat → Nat → AHeap → ORes} (h : ∀ k n, Cst (f k n)) : Cst (fun H => avS .fail (fun k n => f k n H) v) := by
  cases v <;> first | exact h _ _ | exact cst_fail
theorem cst_avP {v : AV} {f : Nat → Nat → AHeap → ORes} (h : ∀ k n, Cst (f k n)) : Cst (fun H => avP .fail (fun k n => f k n H) v) := by
  cases v <;> first | exact h _ _ | exact cst_fail
theorem cst_avSl {v : AV} {f : Nat → Nat → Nat → Nat → AHeap → ORes} (h : ∀ a b c d, Cst (f a b c d)) : Cst (fun H => avSl .fail (fun a b c d => f a b c d H) v) := by
  cases v <;> first | exact h _ _ _ _ | exact cst_fail
theorem cst_agg {v : AV} {f : List AV → AHeap → ORes} (h : ∀ l, Cst (f l)) : Cst (fun H => avX .fail (axAgg .fail (fun l => f l H)) v) := by
  cases v <;> first | exact cst_fail | skip
  rename_i u
  cases u <;> first | exact cst_fail | exact h _
theorem cst_tup {v : AV} {f : List AV → AHeap → ORes} (h : ∀ l, Cst (f l)) : Cst (fun H => avX .fail (axTup .fail (fun l => f l H)) v) := by
  cases v <;> first | exact cst_fail | skip
  rename_i u
  cases u <;> first | exact cst_fail | exact h _
theorem cst_optN {v : Option Nat} {f : Nat → AHeap → ORes} (h : ∀ l, Cst (f l)) : Cst (fun H => optN .fail (fun l => f l H) v) := by
  cases v <;> first | exact cst_fail | exact h _
theorem cst_optE {v : Option AV} {f : AV → AHeap → ORes} (h : ∀ l, Cst (f l)) : Cst (fun H => optE .fail (fun l => f l H) v) := by
  cases v <;> first | exact cst_fail | exact h _
theorem cst_optL {v : Option (List AV)} {f : List AV → AHeap → ORes} (h : ∀ l, Cst (f l)) : Cst (fun H => optL .fail (fun l => f l H) v) := by
  cases v <;> first | exact cst_fail | exact h _
theorem cst_rng {k : Nat} {v : AV} {f : Nat → Nat → AHeap → ORes} (h : ∀ k n, Cst (f k n)) : Cst (fun H => rngArg .fail k (fun a b => f a b H) v) := by
  cases v with
  | i k1 n =>
    show Cst (fun H => Bool.rec (motive := fun _ => ORes) .fail (f n n H) (Nat.beq k1 k))
    cases Nat.beq k1 k <;> first | exact cst_fail | exact h _ _
  | x u =>
    cases u with
    | rg k1 lo hi =>
      show Cst (fun H => Bool.rec (motive := fun _ => ORes) .fail (f lo hi H) (Nat.beq k1 k))
      cases Nat.beq k1 k <;> first | exact cst_fail | exact h _ _
    | _ => exact cst_fail
  | _ => exact cst_fail
theorem cst_bif {v : Bool} {f : AHeap → ORes} (h : Cst f) : Cst (fun H => bif' .fail (f H) v) := by
  cases v <;> first | exact cst_fail | exact h

/-- Looks at no memory. -/
def KOp.isZ : KOp → Bool
  | .move _ | .pick .. | .fa .. | .nilc _ | .ia .. | .iaA .. | .ext .. | .fld1 .. | .fldN .. | .ifc .. | .mkf .. | .bin .. | .sh .. | .un .. | .str .. | .idxS .. | .slS .. | .binB .. | .eqC .. | .eqR .. | .build .. => true
  | _ => false

theorem KOp.zden {F : Fs} (en : Env) : ∀ (k : KOp), k.isZ = true → Cst (fun H => k.den F en H) := by
  intro k h
  cases k with
  | move x => exact cst_v _
  | pick c x y =>
    show Cst (fun H => opPick c.den x.den y.den en H)
    unfold opPick
    exact cst_avB fun t => cst_v _
  | fa off x =>
    show Cst (fun H => opFieldAddr off x.den en H)
    unfold opFieldAddr
    exact cst_avP fun b o => cst_v _
  | nilc x =>
    show Cst (fun H => opNilCheck x.den en H)
    unfold opNilCheck
    exact cst_avP fun b o => cst_v _
  | ia sz x y =>
    show Cst (fun H => opIndexAddr sz x.den y.den en H)
    unfold opIndexAddr
    exact cst_avSl fun b o len c => cst_optN fun n => cst_bif (cst_v _)
  | iaA ln sz x y =>
    show Cst (fun H => opIndexAddrA ln sz x.den y.den en H)
    unfold opIndexAddrA
    exact cst_avP fun b o => cst_optN fun n => cst_bif (cst_v _)
  | ext k x =>
    show Cst (fun H => opExtract k x.den en H)
    unfold opExtract
    exact cst_tup fun l => cst_optE fun v => cst_v _
  | fld1 off x =>
    show Cst (fun H => opField1 off x.den en H)
    unfold opField1
    exact cst_agg fun l => cst_optE fun v => cst_v _
  | fldN off n x =>
    show Cst (fun H => opFieldN off n x.den en H)
    unfold opFieldN
    exact cst_agg fun l => cst_bif (cst_v _)
  | ifc t x => exact cst_v _
  | mkf f xs ys => exact cst_v _
  | bin b k M hf x y =>
    show Cst (fun H => opBinG k (b.den k M hf) (b.rng k M hf) x.den y.den en H)
    have hR : Cst (fun H => opBinR k (b.rng k M hf) x.den y.den en H) := by
      unfold opBinR
      exact cst_rng fun lo hi => cst_rng fun lo2 hi2 => cst_optE fun v => cst_v _
    unfold opBinG
    cases x.den en with
    | i k1 n =>
      cases y.den en with
      | i k2 m => exact cst_bif (cst_bif (cst_optE fun v => cst_v _))
      | _ => exact hR
    | _ => exact hR
  | sh b k M hf bits x y =>
    show Cst (fun H => opShift k (b.den k M hf bits) x.den y.den en H)
    unfold opShift
    exact cst_avI fun k1 n => cst_bif (cst_optN fun s => cst_optE fun v => cst_v _)
  | un u x =>
    show Cst (fun H => opUn u.den x.den en H)
    unfold opUn
    exact cst_optE fun v => cst_v _
  | str b x y =>
    show Cst (fun H => opBinS b.den x.den y.den en H)
    unfold opBinS
    exact cst_avS fun l c => cst_avS fun l2 c2 => cst_optE fun v => cst_v _
  | idxS x y =>
    show Cst (fun H => opIndexS x.den y.den en H)
    unfold opIndexS
    exact cst_avS fun l c => cst_optN fun n => cst_bif (cst_v _)
  | slS x lo hi =>
    show Cst (fun H => opSliceS x.den (KO.denO lo) (KO.denO hi) en H)
    unfold opSliceS
    exact cst_avS fun l c => cst_optN fun a => cst_optN fun b => cst_bif (cst_bif (cst_v _))
  | binB ne x y =>
    show Cst (fun H => opBinB _ x.den y.den en H)
    unfold opBinB
    exact cst_avB fun p => cst_avB fun q => cst_v _
  | eqC ks ne x y =>
    show Cst (fun H => opEqC ks ne x.den y.den en H)
    unfold opEqC
    refine cst_agg fun l => cst_agg fun m => ?_
    cases eqCells ks l m with
    | none => exact cst_fail
    | some r => exact cst_v _
  | eqR k ne x y =>
    show Cst (fun H => opEqR k ne x.den y.den en H)
    unfold opEqR
    cases eqNil k (x.den en) (y.den en) with
    | none => exact cst_bif (cst_avP fun b o => cst_avP fun b' o' => cst_bif (cst_v _))
    | some r => exact cst_v _
  | build Z ps =>
    show Cst (fun H => opBuild Z (KO.denP ps) en H)
    unfold opBuild
    exact cst_optL fun r => cst_v _
  | _ => cases h
end
end Go.Ab
