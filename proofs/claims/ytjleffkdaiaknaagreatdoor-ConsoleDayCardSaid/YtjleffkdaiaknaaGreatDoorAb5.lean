/- A logic over an abstract memory, and that it is sound (5 of 9). -/
import Derived.Orders
import Derived.Test.YtjleffkdaiaknaaGreatDoorAb4
namespace Go.Ab
open Go
noncomputable section
def KO.opt (x : Option KO) : List KO := match x with | some x => [x] | none => []
def KOp.opds : KOp → List KO
 | .move x | .load1 x | .loadN _ x | .box x | .fa _ x | .nilc x | .ext _ x | .fld1 _ x | .fldN _ _ x | .ifc _ x | .un _ x | .len _ x | .cap _ x | .pan x | .b2s x | .s2b x => [x]
 | .pick c x y => [c, x, y]
 | .mn _ _ _ x y => [x, y]
 | .store _ x y | .ia _ x y | .iaA _ _ x y | .bin _ _ _ _ x y | .sh _ _ _ _ _ x y | .str _ x y | .idxS x y | .binB _ x y | .eqC _ _ x y | .eqR _ _ x y | .app _ _ x y | .mks _ _ x y | .appZ _ _ _ x y | .look _ _ _ x y => [x, y]
 | .alloc _ | .mkm | .unk => []
 | .build _ ps | .bslice _ _ ps => ps.map fun p => p.2.2
 | .mkf _ xs ys => xs ++ ys
 | .sl _ x lo hi mx | .slA _ _ x lo hi mx => x :: (KO.opt lo ++ (KO.opt hi ++ KO.opt mx))
 | .slS x lo hi => x :: (KO.opt lo ++ KO.opt hi)
 | .mapu _ x y z | .mps x y z => [x, y, z]
 | .mpe _ _ x y | .fbin _ x y => [x, y]
 | .call _ xs => xs
 | .callv x xs => x :: xs
theorem evalL_congr {en en2 : Env} : ∀ (xs : List KO), (∀ x ∈ xs, x.den en = x.den en2) → evalL (KO.dens xs) en = evalL (KO.dens xs) en2
 | [], _ => rfl
 | x :: xs, h => by
  show x.den en :: evalL (KO.dens xs) en = x.den en2 :: evalL (KO.dens xs) en2
  rw [h x (by simp), evalL_congr xs fun y hy => h y (List.mem_cons_of_mem _ hy)]
theorem evalPs_congr {en en2 : Env} : ∀ (ps : List (Nat × Nat × KO)), (∀ p ∈ ps, p.2.2.den en = p.2.2.den en2) → evalPs (KO.denP ps) en = evalPs (KO.denP ps) en2
 | [], _ => rfl
 | p :: ps, h => by
  show (p.1, p.2.1, p.2.2.den en) :: evalPs (KO.denP ps) en = (p.1, p.2.1, p.2.2.den en2) :: evalPs (KO.denP ps) en2
  rw [h p (by simp), evalPs_congr ps fun y hy => h y (List.mem_cons_of_mem _ hy)]
theorem bd_congr {en en2 : Env} (d : Nat) : ∀ (x : Option KO), (∀ y ∈ KO.opt x, y.den en = y.den en2) → bd d (KO.denO x) en = bd d (KO.denO x) en2
 | none, _ => rfl
 | some x, h => by
  show natOf (x.den en) = natOf (x.den en2)
  rw [h x (by simp [KO.opt])]
theorem KOp.den_congr {F : Fs} {en en2 : Env} (H : AHeap) : ∀ (k : KOp), (∀ x ∈ k.opds, x.den en = x.den en2) → k.den F en H = k.den F en2 H := by
 intro k h
 cases k with
 | move x => show opMove _ _ _ = opMove _ _ _; unfold opMove; rw [h x (by simp [KOp.opds])]
 | pick c x y => show opPick _ _ _ _ _ = opPick _ _ _ _ _; unfold opPick; rw [h c (by simp [KOp.opds]), h x (by simp [KOp.opds]), h y (by simp [KOp.opds])]
 | load1 x => show opLoad1 _ _ _ = opLoad1 _ _ _; unfold opLoad1; rw [h x (by simp [KOp.opds])]
 | loadN n x => show opLoadN _ _ _ _ = opLoadN _ _ _ _; unfold opLoadN; rw [h x (by simp [KOp.opds])]
 | store n x y => show opStore _ _ _ _ _ = opStore _ _ _ _ _; unfold opStore; rw [h x (by simp [KOp.opds]), h y (by simp [KOp.opds])]
 | alloc Z => rfl
 | box x => show opBox _ _ _ = opBox _ _ _; unfold opBox; rw [h x (by simp [KOp.opds])]
 | build Z ps =>
  show opBuild _ _ _ _ = opBuild _ _ _ _; unfold opBuild
  rw [evalPs_congr ps fun p hp => h p.2.2 (by simp only [KOp.opds, List.mem_map]; exact ⟨p, hp, rfl⟩)]
 | bslice n len ps =>
  show opBuildSlice _ _ _ _ _ = opBuildSlice _ _ _ _ _; unfold opBuildSlice
  rw [evalPs_congr ps fun p hp => h p.2.2 (by simp only [KOp.opds, List.mem_map]; exact ⟨p, hp, rfl⟩)]
 | fa off x => show opFieldAddr _ _ _ _ = opFieldAddr _ _ _ _; unfold opFieldAddr; rw [h x (by simp [KOp.opds])]
 | nilc x => show opNilCheck _ _ _ = opNilCheck _ _ _; unfold opNilCheck; rw [h x (by simp [KOp.opds])]
 | ia sz x y => show opIndexAddr _ _ _ _ _ = opIndexAddr _ _ _ _ _; unfold opIndexAddr; rw [h x (by simp [KOp.opds]), h y (by simp [KOp.opds])]
 | iaA len sz x y => show opIndexAddrA _ _ _ _ _ _ = opIndexAddrA _ _ _ _ _ _; unfold opIndexAddrA; rw [h x (by simp [KOp.opds]), h y (by simp [KOp.opds])]
 | ext k x => show opExtract _ _ _ _ = opExtract _ _ _ _; unfold opExtract; rw [h x (by simp [KOp.opds])]
 | fld1 off x => show opField1 _ _ _ _ = opField1 _ _ _ _; unfold opField1; rw [h x (by simp [KOp.opds])]
 | fldN off n x => show opFieldN _ _ _ _ _ = opFieldN _ _ _ _ _; unfold opFieldN; rw [h x (by simp [KOp.opds])]
 | ifc t x => show opMakeInterface _ _ _ _ = opMakeInterface _ _ _ _; unfold opMakeInterface; rw [h x (by simp [KOp.opds])]
 | mkf f xs ys =>
  show opMakeFunc _ _ _ _ _ = opMakeFunc _ _ _ _ _; unfold opMakeFunc
  rw [evalL_congr xs fun x hx => h x (by simp [KOp.opds, hx]), evalL_congr ys fun x hx => h x (by simp [KOp.opds, hx])]
 | mkm => rfl
 | sl sz x lo hi mx =>
  show opSlice _ _ _ _ _ _ _ = opSlice _ _ _ _ _ _ _; unfold opSlice
  rw [h x (by simp [KOp.opds])]
  simp only [bd_congr _ lo fun y hy => h y (by simp [KOp.opds, hy]), bd_congr _ hi fun y hy => h y (by simp [KOp.opds, hy]), bd_congr _ mx fun y hy => h y (by simp [KOp.opds, hy])]
 | slA n sz x lo hi mx =>
  show opSliceA _ _ _ _ _ _ _ _ = opSliceA _ _ _ _ _ _ _ _; unfold opSliceA
  rw [h x (by simp [KOp.opds])]
  simp only [bd_congr _ lo fun y hy => h y (by simp [KOp.opds, hy]), bd_congr _ hi fun y hy => h y (by simp [KOp.opds, hy]), bd_congr _ mx fun y hy => h y (by simp [KOp.opds, hy])]
 | bin b k M hf x y => show opBinG _ _ _ _ _ _ _ = opBinG _ _ _ _ _ _ _; unfold opBinG opBinR; rw [h x (by simp [KOp.opds]), h y (by simp [KOp.opds])]
 | sh b k M hf bits x y => show opShift _ _ _ _ _ _ = opShift _ _ _ _ _ _; unfold opShift; rw [h x (by simp [KOp.opds]), h y (by simp [KOp.opds])]
 | un u x => show opUn _ _ _ _ = opUn _ _ _ _; unfold opUn; rw [h x (by simp [KOp.opds])]
 | str b x y => show opBinS _ _ _ _ _ = opBinS _ _ _ _ _; unfold opBinS; rw [h x (by simp [KOp.opds]), h y (by simp [KOp.opds])]
 | idxS x y => show opIndexS _ _ _ _ = opIndexS _ _ _ _; unfold opIndexS; rw [h x (by simp [KOp.opds]), h y (by simp [KOp.opds])]
 | slS x lo hi =>
  show opSliceS _ _ _ _ _ = opSliceS _ _ _ _ _; unfold opSliceS
  rw [h x (by simp [KOp.opds])]
  simp only [bd_congr _ lo fun y hy => h y (by simp [KOp.opds, hy]), bd_congr _ hi fun y hy => h y (by simp [KOp.opds, hy])]
 | binB ne x y => show opBinB _ _ _ _ _ = opBinB _ _ _ _ _; unfold opBinB; rw [h x (by simp [KOp.opds]), h y (by simp [KOp.opds])]
 | eqC ks ne x y => show opEqC _ _ _ _ _ _ = opEqC _ _ _ _ _ _; unfold opEqC; rw [h x (by simp [KOp.opds]), h y (by simp [KOp.opds])]
 | eqR k ne x y => show opEqR _ _ _ _ _ _ = opEqR _ _ _ _ _ _; unfold opEqR; rw [h x (by simp [KOp.opds]), h y (by simp [KOp.opds])]
 | app sz bytes x y => show opAppendF _ _ _ _ _ _ = opAppendF _ _ _ _ _ _; unfold opAppendF opAppend; rw [h x (by simp [KOp.opds]), h y (by simp [KOp.opds])]
 | len k x => show opLen _ _ _ _ = opLen _ _ _ _; unfold opLen; rw [h x (by simp [KOp.opds])]
 | cap sz x => show opCap _ _ _ _ = opCap _ _ _ _; unfold opCap; rw [h x (by simp [KOp.opds])]
 | mks bytes Z x y => show opMakeSlice _ _ _ _ _ _ = opMakeSlice _ _ _ _ _ _; unfold opMakeSlice; rw [h x (by simp [KOp.opds]), h y (by simp [KOp.opds])]
 | appZ bytes sz Z x y => show opAppendZ _ _ _ _ _ _ _ = opAppendZ _ _ _ _ _ _ _; unfold opAppendZ; rw [h x (by simp [KOp.opds]), h y (by simp [KOp.opds])]
 | look c Z ok x y => show opLookup _ _ _ _ _ _ _ _ = opLookup _ _ _ _ _ _ _ _; unfold opLookup; rw [h x (by simp [KOp.opds]), h y (by simp [KOp.opds])]
 | mapu c x y z => show opMapUpdate _ _ _ _ _ _ _ = opMapUpdate _ _ _ _ _ _ _; unfold opMapUpdate; rw [h x (by simp [KOp.opds]), h y (by simp [KOp.opds]), h z (by simp [KOp.opds])]
 | pan x => show opPan _ _ _ = opPan _ _ _; unfold opPan; rw [h x (by simp [KOp.opds])]
 | call f xs => show F f (evalL (KO.dens xs) en) H = F f (evalL (KO.dens xs) en2) H; rw [evalL_congr xs fun x hx => h x (by simp [KOp.opds, hx])]
 | callv x xs =>
  show callV F (x.den en) (evalL (KO.dens xs) en) H = callV F (x.den en2) (evalL (KO.dens xs) en2) H
  rw [h x (by simp [KOp.opds]), evalL_congr xs fun y hy => h y (by simp [KOp.opds, hy])]
 | mn k M hf x y => show opBinI _ _ _ _ _ _ = opBinI _ _ _ _ _ _; unfold opBinI; rw [h x (by simp [KOp.opds]), h y (by simp [KOp.opds])]
 | mpe c Z x y => show opMapEntry _ _ _ _ _ _ _ = opMapEntry _ _ _ _ _ _ _; unfold opMapEntry; rw [h x (by simp [KOp.opds]), h y (by simp [KOp.opds])]
 | mps x s z => show opEntryStore _ _ _ _ _ = opEntryStore _ _ _ _ _; unfold opEntryStore; rw [h x (by simp [KOp.opds]), h s (by simp [KOp.opds]), h z (by simp [KOp.opds])]
 | fbin b x y => show opBinF _ _ _ _ _ = opBinF _ _ _ _ _; unfold opBinF; rw [h x (by simp [KOp.opds]), h y (by simp [KOp.opds])]
 | unk => rfl
 | s2b x => show opS2B _ _ _ = opS2B _ _ _; unfold opS2B; rw [h x (by simp [KOp.opds])]
 | b2s x => show opB2S _ _ _ = opB2S _ _ _; unfold opB2S; rw [h x (by simp [KOp.opds])]
end
end Go.Ab
namespace Go.Ab
open Go
noncomputable section
def ofO (o : Option AV) (H : AHeap) : ORes := match o with | some v => .v v H | none => .fail
def Cst (f : AHeap → ORes) : Prop := ∃ o : Option AV, ∀ H, f H = ofO o H
theorem cst_fail : Cst (fun _ => .fail) := ⟨none, fun _ => rfl⟩
theorem cst_v (v : AV) : Cst (fun H => .v v H) := ⟨some v, fun _ => rfl⟩
theorem cst_avI {v : AV} {f : Nat → Nat → AHeap → ORes} (h : ∀ k n, Cst (f k n)) : Cst (fun H => avI .fail (fun k n => f k n H) v) := by
 cases v <;> first | exact h _ _ | exact cst_fail
theorem cst_avB {v : AV} {f : Bool → AHeap → ORes} (h : ∀ k, Cst (f k)) : Cst (fun H => avB .fail (fun k => f k H) v) := by
 cases v <;> first | exact h _ | exact cst_fail
theorem cst_avS {v : AV} {f : Nat → Nat → AHeap → ORes} (h : ∀ k n, Cst (f k n)) : Cst (fun H => avS .fail (fun k n => f k n H) v) := by
 cases v <;> first | exact h _ _ | exact cst_fail
theorem cst_avP {v : AV} {f : Nat → Nat → AHeap → ORes} (h : ∀ k n, Cst (f k n)) : Cst (fun H => avP .fail (fun k n => f k n H) v) := by
 cases v <;> first | exact h _ _ | exact cst_fail
theorem cst_avSl {v : AV} {f : Nat → Nat → Nat → Nat → AHeap → ORes} (h : ∀ a b c d, Cst (f a b c d)) : Cst (fun H => avSl .fail (fun a b c d => f a b c d H) v) := by
 cases v <;> first | exact h _ _ _ _ | exact cst_fail
theorem cst_agg {v : AV} {f : List AV → AHeap → ORes} (h : ∀ l, Cst (f l)) : Cst (fun H => avX .fail (axAgg .fail (fun l => f l H)) v) := by
 cases v <;> first | exact cst_fail | skip
 rename_i u
 cases u <;> first | exact cst_fail | exact h _
theorem cst_tup {v : AV} {f : List AV → AHeap → ORes} (h : ∀ l, Cst (f l)) : Cst (fun H => avX .fail (axTup .fail (fun l => f l H)) v) := by
 cases v <;> first | exact cst_fail | skip
 rename_i u
 cases u <;> first | exact cst_fail | exact h _
theorem cst_optN {v : Option Nat} {f : Nat → AHeap → ORes} (h : ∀ l, Cst (f l)) : Cst (fun H => optN .fail (fun l => f l H) v) := by
 cases v <;> first | exact cst_fail | exact h _
theorem cst_optE {v : Option AV} {f : AV → AHeap → ORes} (h : ∀ l, Cst (f l)) : Cst (fun H => optE .fail (fun l => f l H) v) := by
 cases v <;> first | exact cst_fail | exact h _
theorem cst_optL {v : Option (List AV)} {f : List AV → AHeap → ORes} (h : ∀ l, Cst (f l)) : Cst (fun H => optL .fail (fun l => f l H) v) := by
 cases v <;> first | exact cst_fail | exact h _
theorem cst_rng {k : Nat} {v : AV} {f : Nat → Nat → AHeap → ORes} (h : ∀ k n, Cst (f k n)) : Cst (fun H => rngArg .fail k (fun a b => f a b H) v) := by
 cases v with
 | i k1 n =>
  show Cst (fun H => Bool.rec (motive := fun _ => ORes) .fail (f n n H) (Nat.beq k1 k))
  cases Nat.beq k1 k <;> first | exact cst_fail | exact h _ _
 | x u =>
  cases u with
  | rg k1 lo hi =>
   show Cst (fun H => Bool.rec (motive := fun _ => ORes) .fail (f lo hi H) (Nat.beq k1 k))
   cases Nat.beq k1 k <;> first | exact cst_fail | exact h _ _
  | _ => exact cst_fail
 | _ => exact cst_fail
theorem cst_bif {v : Bool} {f : AHeap → ORes} (h : Cst f) : Cst (fun H => bif' .fail (f H) v) := by
 cases v <;> first | exact cst_fail | exact h
def KOp.isZ : KOp → Bool
 | .move _ | .pick .. | .fa .. | .nilc _ | .ia .. | .iaA .. | .ext .. | .fld1 .. | .fldN .. | .ifc .. | .mkf .. | .bin .. | .sh .. | .un .. | .str .. | .idxS .. | .slS .. | .binB .. | .eqC .. | .eqR .. | .build .. | .fbin .. => true
 | _ => false
theorem KOp.zden {F : Fs} (en : Env) : ∀ (k : KOp), k.isZ = true → Cst (fun H => k.den F en H) := by
 intro k h
 cases k with
 | move x => exact cst_v _
 | pick c x y =>
  show Cst (fun H => opPick c.den x.den y.den en H)
  unfold opPick
  exact cst_avB fun t => cst_v _
 | fa off x =>
  show Cst (fun H => opFieldAddr off x.den en H)
  unfold opFieldAddr
  exact cst_avP fun b o => cst_v _
 | nilc x =>
  show Cst (fun H => opNilCheck x.den en H)
  unfold opNilCheck
  exact cst_avP fun b o => cst_v _
 | ia sz x y =>
  show Cst (fun H => opIndexAddr sz x.den y.den en H)
  unfold opIndexAddr
  exact cst_avSl fun b o len c => cst_optN fun n => cst_bif (cst_v _)
 | iaA ln sz x y =>
  show Cst (fun H => opIndexAddrA ln sz x.den y.den en H)
  unfold opIndexAddrA
  exact cst_avP fun b o => cst_optN fun n => cst_bif (cst_v _)
 | ext k x =>
  show Cst (fun H => opExtract k x.den en H)
  unfold opExtract
  exact cst_tup fun l => cst_optE fun v => cst_v _
 | fld1 off x =>
  show Cst (fun H => opField1 off x.den en H)
  unfold opField1
  exact cst_agg fun l => cst_optE fun v => cst_v _
 | fldN off n x =>
  show Cst (fun H => opFieldN off n x.den en H)
  unfold opFieldN
  exact cst_agg fun l => cst_bif (cst_v _)
 | ifc t x => exact cst_v _
 | mkf f xs ys => exact cst_v _
 | bin b k M hf x y =>
  show Cst (fun H => opBinG k (b.den k M hf) (b.rng k M hf) x.den y.den en H)
  have hR : Cst (fun H => opBinR k (b.rng k M hf) x.den y.den en H) := by
   unfold opBinR
   exact cst_rng fun lo hi => cst_rng fun lo2 hi2 => cst_optE fun v => cst_v _
  unfold opBinG
  cases x.den en with
  | i k1 n =>
   cases y.den en with
   | i k2 m => exact cst_bif (cst_bif (cst_optE fun v => cst_v _))
   | _ => exact hR
  | _ => exact hR
 | sh b k M hf bits x y =>
  show Cst (fun H => opShift k (b.den k M hf bits) x.den y.den en H)
  unfold opShift
  exact cst_avI fun k1 n => cst_bif (cst_optN fun s => cst_optE fun v => cst_v _)
 | un u x =>
  show Cst (fun H => opUn u.den x.den en H)
  unfold opUn
  exact cst_optE fun v => cst_v _
 | str b x y =>
  show Cst (fun H => opBinS b.den x.den y.den en H)
  unfold opBinS
  exact cst_avS fun l c => cst_avS fun l2 c2 => cst_optE fun v => cst_v _
 | idxS x y =>
  show Cst (fun H => opIndexS x.den y.den en H)
  unfold opIndexS
  exact cst_avS fun l c => cst_optN fun n => cst_bif (cst_v _)
 | slS x lo hi =>
  show Cst (fun H => opSliceS x.den (KO.denO lo) (KO.denO hi) en H)
  unfold opSliceS
  exact cst_avS fun l c => cst_optN fun a => cst_optN fun b => cst_bif (cst_bif (cst_v _))
 | binB ne x y =>
  show Cst (fun H => opBinB _ x.den y.den en H)
  unfold opBinB
  exact cst_avB fun p => cst_avB fun q => cst_v _
 | eqC ks ne x y =>
  show Cst (fun H => opEqC ks ne x.den y.den en H)
  unfold opEqC
  refine cst_agg fun l => cst_agg fun m => ?_
  cases eqCells ks l m with
  | none => exact cst_fail
  | some r => exact cst_v _
 | eqR k ne x y =>
  show Cst (fun H => opEqR k ne x.den y.den en H)
  unfold opEqR
  cases eqNil k (x.den en) (y.den en) with
  | none => exact cst_bif (cst_avP fun b o => cst_avP fun b' o' => cst_bif (cst_v _))
  | some r => exact cst_v _
 | fbin b x y =>
  show Cst (fun H => opBinF b.den x.den y.den en H)
  have hfl : ∀ {v : AV} {f : Nat → AHeap → ORes}, (∀ n, Cst (f n)) → Cst (fun H => avX .fail (axFl .fail (fun n => f n H)) v) := by
   intro v f h
   cases v with
   | x u => cases u <;> first | exact cst_fail | exact h _
   | _ => exact cst_fail
  unfold opBinF
  exact hfl fun p => hfl fun q => cst_optE fun v => cst_v _
 | build Z ps =>
  show Cst (fun H => opBuild Z (KO.denP ps) en H)
  unfold opBuild
  exact cst_optL fun r => cst_v _
 | _ => cases h
end
end Go.Ab
namespace Go.Ab
open Go
inductive KCls where | z | r | w | k
structure KD where
 cls : KCls
 us : List Nat
 cl : List Nat
 x : KE
 g : Bool
noncomputable section
def KE.op (x : KE) : KOp := KE.rec (motive := fun _ => KOp) (fun _ k => k) (fun _ k => k) (fun k => k) (fun _ _ _ k => k) (fun _ _ _ k => k) (fun _ _ k => k) x
def KE.putT (x : KE) : AV → Env → Env :=
 KE.rec (motive := fun _ => AV → Env → Env) (fun d _ v en => ⟨.cons d v en.loc, en.B⟩) (fun d _ v en => ⟨en.loc, d.put v en.B⟩) (fun _ _ en => en) (fun _ _ d _ v en => ⟨.cons d v en.loc, en.B⟩) (fun _ _ d _ v en => ⟨en.loc, d.put v en.B⟩) (fun _ _ _ _ en => en) x
def KE.put (x : KE) (v : AV) (en : Env) : Env := x.putT v en
def wantV (b : Bool) (v : AV) : Option Bool :=
 AVp.rec (motive := fun _ => Option Bool) (fun _ _ => none) (fun t => some (bEq t b)) (fun _ _ => none) (fun _ _ => none) (fun _ _ _ _ => none)
  (fun x => axTup none (fun l => List.rec (motive := fun _ => Option Bool) (some false) (fun _ _ _ => none) l) x) v
def KE.want (x : KE) (en : Env) : Option Bool :=
 KE.rec (motive := fun _ => Option Bool) (fun _ _ => some true) (fun _ _ => some true) (fun _ => some true) (fun c b _ _ => wantV b (c.den en)) (fun c b _ _ => wantV b (c.den en)) (fun c b _ => wantV b (c.den en)) x
def kills (D : List Nat) (H : AHeap) : AHeap := List.rec (motive := fun _ => AHeap) H (fun b _ ih => Bool.rec (motive := fun _ => AHeap) ih (ih.upd b .dead) (Nat.ble (Nat.add b 1) ih.nxt)) D
def copyN (X : AHeap) (m : Nat) : AHeap → AHeap :=
 Nat.rec (motive := fun _ => AHeap → AHeap) (fun H => H) (fun _ ih H => ih (H.alloc (Option.rec (motive := fun _ => ABlk) .dead (fun x => x) (X.get H.nxt)))) m
def growN (X H : AHeap) : AHeap := copyN X (Nat.sub X.nxt H.nxt) H
def patch (X : AHeap) (T : List Nat) (H : AHeap) : AHeap := List.rec (motive := fun _ => AHeap) H (fun b _ ih => Option.rec (motive := fun _ => AHeap) ih (fun x => ih.upd b x) (X.get b)) T
theorem kills_cons (b : Nat) (D : List Nat) (H : AHeap) : kills (b :: D) H = if b < (kills D H).nxt then (kills D H).upd b .dead else kills D H := by
 have h : kills (b :: D) H = Bool.rec (motive := fun _ => AHeap) (kills D H) ((kills D H).upd b .dead) (Nat.ble (b + 1) (kills D H).nxt) := rfl
 rw [h, brec]; simp only [ble_tt]; rfl
theorem kills_nxt : ∀ (D : List Nat) (H : AHeap), (kills D H).nxt = H.nxt
 | [], H => rfl
 | b :: D, H => by
  rw [kills_cons]
  split
  · rw [AHeap.nxt_upd]; exact kills_nxt D H
  · exact kills_nxt D H
theorem kills_get : ∀ (D : List Nat) (H : AHeap) (c : Nat), (kills D H).get c = some .dead ∨ ((kills D H).get c = H.get c ∧ (c < H.nxt → c ∈ D → H.get c = none))
 | [], H, c => .inr ⟨rfl, fun _ h => by cases h⟩
 | b :: D, H, c => by
  rw [kills_cons]
  by_cases hb : b < (kills D H).nxt
  · rw [if_pos hb, AHeap.get_upd _ _ _ hb]
    by_cases hc : c = b
    · subst hc
      rw [if_pos rfl]
      cases hk : (kills D H).get c with
      | some x => exact .inl rfl
      | none =>
       rcases kills_get D H c with h | ⟨h, _⟩
       · rw [hk] at h; cases h
       · rw [hk] at h; exact .inr ⟨h, fun _ _ => h.symm⟩
    · rw [if_neg hc]
      rcases kills_get D H c with h | ⟨h, g⟩
      · exact .inl h
      · refine .inr ⟨h, fun h1 h2 => g h1 ?_⟩
        rcases List.mem_cons.1 h2 with h2 | h2
        · exact absurd h2 hc
        · exact h2
  · rw [if_neg hb]
    rcases kills_get D H c with h | ⟨h, g⟩
    · exact .inl h
    · refine .inr ⟨h, fun h1 h2 => g h1 ?_⟩
      rcases List.mem_cons.1 h2 with h2 | h2
      · rw [kills_nxt] at hb; omega
      · exact h2
theorem copyN_succ (X : AHeap) (m : Nat) (H : AHeap) : copyN X (m + 1) H = copyN X m (H.alloc ((X.get H.nxt).getD .dead)) := by
 show copyN X m (H.alloc (Option.rec (motive := fun _ => ABlk) .dead (fun x => x) (X.get H.nxt))) = _
 cases X.get H.nxt <;> rfl
theorem copyN_nxt (X : AHeap) : ∀ (m : Nat) (H : AHeap), (copyN X m H).nxt = H.nxt + m
 | 0, H => rfl
 | m + 1, H => by rw [copyN_succ, copyN_nxt X m]; simp; omega
theorem copyN_low (X : AHeap) : ∀ (m : Nat) (H : AHeap), (copyN X m H).low = H.low
 | 0, H => rfl
 | m + 1, H => by rw [copyN_succ, copyN_low X m]; rfl
theorem copyN_old (X : AHeap) : ∀ (m : Nat) (H : AHeap) (b : Nat), b < H.nxt → (copyN X m H).get b = H.get b
 | 0, H, b, _ => rfl
 | m + 1, H, b, hb => by rw [copyN_succ, copyN_old X m _ b (by simp; omega), AHeap.get_alloc, if_neg (by omega)]
theorem copyN_new (X : AHeap) : ∀ (m : Nat) (H : AHeap) (b : Nat), H.nxt ≤ b → b < H.nxt + m → (copyN X m H).get b = some ((X.get b).getD .dead)
 | 0, H, b, h1, h2 => by omega
 | m + 1, H, b, h1, h2 => by
  rw [copyN_succ]
  by_cases hb : b = H.nxt
  · subst hb; rw [copyN_old X m _ _ (by simp), AHeap.get_alloc, if_pos rfl]
  · exact copyN_new X m _ b (by simp; omega) (by simp; omega)
theorem growN_nxt (X H : AHeap) : (growN X H).nxt = max H.nxt X.nxt := by
 show (copyN X (X.nxt - H.nxt) H).nxt = _
 rw [copyN_nxt]; omega
theorem growN_low (X H : AHeap) : (growN X H).low = H.low := copyN_low _ _ _
theorem growN_old (X H : AHeap) (b : Nat) (hb : b < H.nxt) : (growN X H).get b = H.get b := copyN_old _ _ _ _ hb
theorem growN_new (X H : AHeap) (b : Nat) (h1 : H.nxt ≤ b) (h2 : b < (growN X H).nxt) : (growN X H).get b = X.get b ∨ (growN X H).get b = some .dead := by
 have h3 : (growN X H).get b = some ((X.get b).getD .dead) := by
  refine copyN_new X _ H b h1 ?_
  rw [growN_nxt] at h2
  show b < H.nxt + (X.nxt - H.nxt)
  omega
 rw [h3]
 cases X.get b with
 | none => exact .inr rfl
 | some x => exact .inl rfl
theorem patch_cons (X : AHeap) (b : Nat) (T : List Nat) (H : AHeap) : patch X (b :: T) H = match X.get b with | some x => (patch X T H).upd b x | none => patch X T H := by
 show Option.rec (motive := fun _ => AHeap) (patch X T H) (fun x => (patch X T H).upd b x) (X.get b) = _
 cases X.get b <;> rfl
theorem patch_nxt (X : AHeap) : ∀ (T : List Nat) (H : AHeap), (patch X T H).nxt = H.nxt
 | [], H => rfl
 | b :: T, H => by
  rw [patch_cons]
  cases X.get b with
  | none => exact patch_nxt X T H
  | some x => exact patch_nxt X T H
theorem patch_low (X : AHeap) : ∀ (T : List Nat) (H : AHeap), (patch X T H).low ≤ H.low
 | [], H => Nat.le_refl _
 | b :: T, H => by
  rw [patch_cons]
  cases X.get b with
  | none => exact patch_low X T H
  | some x =>
   show ((patch X T H).upd b x).low ≤ _
   have := patch_low X T H
   rw [AHeap.low_upd]; split <;> omega
theorem patch_get (X : AHeap) : ∀ (T : List Nat) (H : AHeap), (∀ b ∈ T, b < H.nxt ∧ (∃ x, X.get b = some x) ∧ ∃ y, H.get b = some y) → ∀ c, (patch X T H).get c = if c ∈ T then X.get c else H.get c
 | [], H, _, c => by simp [patch]
 | b :: T, H, h, c => by
  obtain ⟨hb, ⟨x, hx⟩, y, hy⟩ := h b (by simp)
  have ih := patch_get X T H fun d hd => h d (List.mem_cons_of_mem _ hd)
  rw [patch_cons, hx]
  show ((patch X T H).upd b x).get c = _
  rw [AHeap.get_upd _ _ _ (by rw [patch_nxt]; exact hb)]
  by_cases hc : c = b
  · subst hc
    rw [if_pos rfl, if_pos (by simp), ih, hx]
    split
    · rfl
    · rw [hy]; rfl
  · rw [if_neg hc, ih]
    simp [hc]
def dt2 (f : Nat) : Nat → BT ABlk × BT ABlk :=
 Nat.rec (motive := fun _ => Nat → BT ABlk × BT ABlk) (fun _ => (.lf, .lf)) (fun _ ih n => Nat.rec (motive := fun _ => BT ABlk × BT ABlk) (.nd .lf .dead .lf, .lf)
  (fun m _ => Prod.rec (motive := fun _ => BT ABlk × BT ABlk) (fun a b => Bool.rec (motive := fun _ => BT ABlk × BT ABlk) (.nd a .dead b, .nd b .dead b) (.nd a .dead a, .nd a .dead b) (Nat.beq (Nat.mod m 2) 1)) (ih (Nat.div m 2))) n) f
def deadT (n : Nat) : BT ABlk := (dt2 (Nat.add n 1) n).2
theorem dt2_get : ∀ (f n : Nat), n < f → (∀ i, i < n + 1 → (dt2 f n).1.get i = some .dead) ∧ ∀ i, i < n → (dt2 f n).2.get i = some .dead
 | 0, n, h => by omega
 | f + 1, 0, _ => by
  refine ⟨fun i hi => ?_, fun i hi => by omega⟩
  have : i = 0 := by omega
  subst this; rfl
 | f + 1, m + 1, h => by
  have ih := dt2_get f (m / 2) (by omega)
  have he : dt2 (f + 1) (m + 1) = Bool.rec (motive := fun _ => BT ABlk × BT ABlk) (.nd (dt2 f (m / 2)).1 .dead (dt2 f (m / 2)).2, .nd (dt2 f (m / 2)).2 .dead (dt2 f (m / 2)).2) (.nd (dt2 f (m / 2)).1 .dead (dt2 f (m / 2)).1, .nd (dt2 f (m / 2)).1 .dead (dt2 f (m / 2)).2) (Nat.beq (m % 2) 1) := rfl
  rw [he, brec]
  simp only [beq_tt]
  by_cases hm : m % 2 = 1
  · rw [if_pos hm]
    refine ⟨fun i hi => ?_, fun i hi => ?_⟩ <;> rw [BT.get_nd] <;> by_cases h0 : i = 0 <;> simp only [h0, if_true, if_false] <;> by_cases h1 : i % 2 = 1 <;> simp only [h1, if_true, if_false]
    · exact ih.1 _ (by omega)
    · exact ih.1 _ (by omega)
    · exact ih.1 _ (by omega)
    · exact ih.2 _ (by omega)
  · rw [if_neg hm]
    refine ⟨fun i hi => ?_, fun i hi => ?_⟩ <;> rw [BT.get_nd] <;> by_cases h0 : i = 0 <;> simp only [h0, if_true, if_false] <;> by_cases h1 : i % 2 = 1 <;> simp only [h1, if_true, if_false]
    · exact ih.1 _ (by omega)
    · exact ih.2 _ (by omega)
    · exact ih.2 _ (by omega)
    · exact ih.2 _ (by omega)
def deads (n : Nat) : AHeap := ⟨deadT n, n, n⟩
theorem deads_nxt (n : Nat) : (deads n).nxt = n := rfl
theorem deads_get (n b : Nat) (h : b < n) : (deads n).get b = some .dead := by
 rw [AHeap.get_eq, deads_nxt, if_pos h]
 exact (dt2_get (n + 1) n (by omega)).2 _ (by omega)
def Emb.cut (e : Emb) (N : Nat) : Emb := fun b => if b < N then e b else none
theorem Emb.cut_some {e : Emb} {N b : Nat} {i : Info} : e.cut N b = some i ↔ b < N ∧ e b = some i := by
 unfold Emb.cut
 by_cases h : b < N
 · simp [h]
 · simp [h]
def slT (v : AV) : List Nat := avSl [] (fun b _ _ cap => Bool.rec (motive := fun _ => List Nat) [b] [] (Nat.beq cap 0)) v
def KOp.tgts (k : KOp) (en : Env) : List Nat :=
 match k with
 | .store _ x _ => avP [] (fun b _ => [b]) (x.den en)
 | .app _ _ x y => slT (x.den en) ++ slT (y.den en)
 | .mapu _ x _ _ => avX [] (fun u => AX.casesOn (motive_1 := fun _ => List Nat) u [] [] [] [] [] [] (fun r => [r]) (fun _ _ _ => []) (fun _ _ => []) (fun _ => []) (fun _ => []) (fun _ => []) (fun _ _ => []) (fun _ _ _ => []) (fun _ _ _ => [])) (x.den en)
 | _ => []
def memN (b : Nat) (D : List Nat) : Bool := List.rec (motive := fun _ => Bool) false (fun c _ ih => Bool.rec (motive := fun _ => Bool) ih true (Nat.beq b c)) D
theorem memN_iff (b : Nat) : ∀ D, memN b D = true ↔ b ∈ D
 | [] => by simp [memN]
 | c :: D => by
  have h : memN b (c :: D) = Bool.rec (motive := fun _ => Bool) (memN b D) true (Nat.beq b c) := rfl
  rw [h, brec]
  simp only [beq_tt, List.mem_cons]
  split
  · simp_all
  · rw [memN_iff b D]; simp_all
def allN (f : Nat → Bool) (D : List Nat) : Bool := List.rec (motive := fun _ => Bool) true (fun c _ ih => Bool.rec (motive := fun _ => Bool) false ih (f c)) D
theorem allN_iff (f : Nat → Bool) : ∀ D, allN f D = true ↔ ∀ b ∈ D, f b = true
 | [] => by simp [allN]
 | c :: D => by
  have h : allN f (c :: D) = Bool.rec (motive := fun _ => Bool) false (allN f D) (f c) := rfl
  rw [h, brec]
  cases hc : f c with
  | true => simp [hc, allN_iff f D]
  | false => simp [hc]
def bOr (a b : Bool) : Bool := Bool.rec (motive := fun _ => Bool) b true a
def bAnd (a b : Bool) : Bool := Bool.rec (motive := fun _ => Bool) false b a
theorem bOr_iff (a b : Bool) : bOr a b = true ↔ a = true ∨ b = true := by cases a <;> simp [bOr]
theorem bAnd_iff (a b : Bool) : bAnd a b = true ↔ a = true ∧ b = true := by cases a <;> simp [bAnd]
def ownB (x : Option ABlk) : Bool := Option.rec (motive := fun _ => Bool) false (fun y => ABlk.rec (motive := fun _ => Bool) (fun _ _ w _ => w) (fun _ => true) false y) x
theorem ownB_spec {H : AHeap} {b : Nat} (h : ownB (H.get b) = true) : H.owned b := by
 cases hb : H.get b with
 | none => rw [hb] at h; cases h
 | some y =>
  rw [hb] at h
  cases y with
  | c n t w sp => have : w = true := h; subst this; exact .inl ⟨n, t, sp, hb⟩
  | m es => exact .inr ⟨es, hb⟩
  | dead => cases h
def hasB (x : Option ABlk) : Bool := Option.rec (motive := fun _ => Bool) false (fun _ => true) x
theorem hasB_spec {x : Option ABlk} (h : hasB x = true) : ∃ y, x = some y := by cases x with | none => cases h | some y => exact ⟨y, rfl⟩
def blksX (x : AX) : List Nat := AX.rec (motive_1 := fun _ => List Nat) (motive_2 := fun _ => List Nat) (motive_3 := fun _ => List Nat)
 [] [] [] [] [] [] (fun r => [r]) (fun _ _ _ a c => a ++ c) (fun _ _ v => v) (fun _ l => l) (fun _ l => l) (fun _ => []) (fun _ _ => []) (fun _ _ _ => []) (fun b _ _ => [b])
 [] (fun _ _ v l => v ++ l) (fun _ _ => []) (fun _ => []) (fun _ _ => []) (fun b _ => [b]) (fun b _ _ cap => Bool.rec (motive := fun _ => List Nat) [b] [] (Nat.beq cap 0)) (fun _ v => v) x
def blksV (v : AV) : List Nat := AVp.rec (motive := fun _ => List Nat) (fun _ _ => []) (fun _ => []) (fun _ _ => []) (fun b _ => [b]) (fun b _ _ cap => Bool.rec (motive := fun _ => List Nat) [b] [] (Nat.beq cap 0)) blksX v
def blksB (x : Option ABlk) : List Nat := Option.rec (motive := fun _ => List Nat) [] (fun y => ABlk.rec (motive := fun _ => List Nat) (fun _ t _ _ => BT.rec (motive := fun _ => List Nat) [] (fun _ v _ l r => blksV v ++ (l ++ r)) t)
 (fun es => List.rec (motive := fun _ => List Nat) [] (fun p _ ih => blksV p.1 ++ (blksV p.2 ++ ih)) es) [] y) x
def nubB (H : AHeap) (l : List Nat) : List Nat → List Nat :=
 List.rec (motive := fun _ => List Nat → List Nat) (fun seen => seen) (fun b _ ih seen => Bool.rec (motive := fun _ => List Nat) (Bool.rec (motive := fun _ => List Nat) (ih seen) (ih (b :: seen)) (ownB (H.get b))) (ih seen) (memN b seen)) l
def reachB (H : AHeap) (l : List AV) : List Nat :=
 Nat.rec (motive := fun _ => List Nat → List Nat) (fun seen => seen) (fun _ ih seen => ih (nubB H (List.rec (motive := fun _ => List Nat) [] (fun b _ r => blksB (H.get b) ++ r) seen) seen)) 6
  (nubB H (List.rec (motive := fun _ => List Nat) [] (fun v _ r => blksV v ++ r) l) [])
def KOp.tgG (k : KOp) (en : Env) (g : List Nat) : List Nat := match k with | .call _ _ => g | k => k.tgts en
def KOp.guG (k : KOp) (en : Env) (H : AHeap) : List Nat := match k with | .call _ xs => reachB H (evalL (KO.dens xs) en) | k => k.tgts en
def minL (a b : Nat) : Nat := Bool.rec (motive := fun _ => Nat) b a (Nat.ble a b)
theorem minL_eq (a b : Nat) : minL a b = min a b := by
 unfold minL; rw [brec]; simp only [ble_tt]; split <;> omega
def vRes (r : ORes) (f : AV → AHeap → Res) : Res := ORes.rec (motive := fun _ => Res) f (fun _ _ => .fail) .fail r
def rIf (c : Bool) (r : Res) : Res := Bool.rec (motive := fun _ => Res) .fail r c
theorem vRes_spec {r : ORes} {f : AV → AHeap → Res} (h : vRes r f ≠ .fail) : ∃ v X, r = .v v X ∧ vRes r f = f v X := by
 cases r with
 | v v X => exact ⟨v, X, rfl, rfl⟩
 | pan v X => exact absurd rfl h
 | fail => exact absurd rfl h
theorem rIf_spec {c : Bool} {r : Res} (h : rIf c r ≠ .fail) : c = true ∧ rIf c r = r := by
 cases c with
 | true => exact ⟨rfl, rfl⟩
 | false => exact absurd rfl h
def markP (pv : AV) (r : Res) : Res := Res.rec (motive := fun _ => Res) (fun _ H => .pan pv H) (fun _ _ _ => .fail) (fun _ _ => .fail) (fun _ _ => .fail) .fail r
def pnV : AV := .i 3 0
def pRes (r : ORes) (f : AV → AHeap → Res) : Res := ORes.rec (motive := fun _ => Res) f (fun pv X => markP pv (f pnV X)) .fail r
def endP : Option AV → Res → Res
 | none, r => r
 | some pv, r => markP pv r
def isP : Option AV → AV → AHeap → ORes → Prop
 | none, v, X, r => r = .v v X
 | some pv, v, X, r => r = .pan pv X ∧ v = pnV
theorem markP_spec {pv : AV} {r : Res} (h : markP pv r ≠ .fail) : ∃ en H, r = .nrm en H ∧ markP pv r = .pan pv H := by
 cases r with
 | nrm en H => exact ⟨en, H, rfl, rfl⟩
 | _ => exact absurd rfl h
theorem endP_ne {pn : Option AV} {r : Res} (h : endP pn r ≠ .fail) : r ≠ .fail := by
 cases pn with
 | none => exact h
 | some pv =>
  obtain ⟨en, H, hr, _⟩ := markP_spec h
  rw [hr]; simp
theorem pRes_spec {r : ORes} {f : AV → AHeap → Res} (h : pRes r f ≠ .fail) : ∃ v X pn, isP pn v X r ∧ pRes r f = endP pn (f v X) := by
 cases r with
 | v v X => exact ⟨v, X, none, rfl, rfl⟩
 | pan pv X => exact ⟨pnV, X, some pv, ⟨rfl, rfl⟩, rfl⟩
 | fail => exact absurd rfl h
def deadsOf (gs : List (List Nat)) (us : List Nat) : List Nat :=
 List.rec (motive := fun _ => List Nat) [] (fun j _ ih => Option.rec (motive := fun _ => List Nat) ih (fun g => g ++ ih) (gs[j]?)) us
theorem mem_deadsOf {gs : List (List Nat)} {b j : Nat} {g : List Nat} (hg : gs[j]? = some g) (hb : b ∈ g) : ∀ {us : List Nat}, j ∈ us → b ∈ deadsOf gs us
 | [], h => by cases h
 | k :: us, h => by
  show b ∈ Option.rec (motive := fun _ => List Nat) (deadsOf gs us) (fun g => g ++ deadsOf gs us) (gs[k]?)
  rcases List.mem_cons.1 h with h | h
  · subst h; rw [hg]; exact List.mem_append_left _ hb
  · have ih := mem_deadsOf hg hb h
    cases gs[k]? with
    | none => exact ih
    | some g' => exact List.mem_append_right _ ih
def runZ (F : Fs) (x : KE) (en : Env) (H : AHeap) (next : Env → AHeap → Res) : Res := vRes (x.op.den F en H) (fun v _ => next (x.put v en) H)
def runR (F : Fs) (x : KE) (D : List Nat) (en : Env) (H : AHeap) (next : Env → AHeap → Res) : Res :=
 pRes (x.op.den F en ((kills D H).withLow H.nxt)) (fun v X => rIf (bAnd (Nat.ble H.nxt X.low) (allN (fun b => bOr (bAnd (Nat.ble (Nat.add b 1) H.nxt) (hasB (H.get b))) (bAnd (Nat.ble H.nxt b) (Nat.ble X.nxt b))) D)) (next (x.put v en) (growN X H)))
def bNot (a : Bool) : Bool := Bool.rec (motive := fun _ => Bool) true false a
def upto (n : Nat) : Nat → List Nat := Nat.rec (motive := fun _ => Nat → List Nat) (fun _ => []) (fun _ ih a => a :: ih (Nat.add a 1)) n
def roB (x : Option ABlk) : Bool := Option.rec (motive := fun _ => Bool) false (fun y => ABlk.rec (motive := fun _ => Bool) (fun _ _ w _ => bNot w) (fun _ => false) false y) x
def roL (H : AHeap) (D : List Nat) : List Nat := List.rec (motive := fun _ => List Nat) [] (fun b _ ih => Bool.rec (motive := fun _ => List Nat) ih (b :: ih) (bAnd (bNot (memN b D)) (roB (H.get b)))) (upto 32 0)
def KOp.roG (k : KOp) (H : AHeap) (D : List Nat) : List Nat := match k with | .call _ _ => roL H D | _ => []
def runW (F : Fs) (x : KE) (D g : List Nat) (en : Env) (H : AHeap) (next : Env → AHeap → Res) : Res :=
 rIf (allN (fun b => bAnd (bAnd (bNot (memN b D)) (memN b g)) (bAnd (Nat.ble (Nat.add b 1) H.nxt) (ownB (H.get b)))) (x.op.tgG en g))
  (pRes (x.op.den F en ((patch H (x.op.tgG en g ++ x.op.roG H D) (deads H.nxt)).withLow H.nxt))
   (fun v X => rIf (bAnd (allN (fun b => Nat.ble (Nat.add b 1) X.low) (x.op.roG H D)) (bAnd (allN (fun b => bOr (Nat.ble (Nat.add b 1) H.nxt) (Nat.ble X.nxt b)) D) (allN (fun b => hasB (X.get b)) (x.op.tgG en g)))) (next (x.put v en) ((growN X (patch X (x.op.tgG en g) H)).withLow (minL H.low X.low)))))
def runK (F : Fs) (x : KE) (en : Env) (H : AHeap) (next : Env → AHeap → Res) : Res :=
 pRes (x.op.den F en H) (fun v X => rIf (Nat.ble H.nxt X.nxt) (next (x.put v en) (X.withLow (minL H.low X.low))))
def KD.run (F : Fs) (d : KD) (D g : List Nat) (en : Env) (H : AHeap) (next : Env → AHeap → Res) : Res :=
 Option.rec (motive := fun _ => Res) .fail (fun t => Bool.rec (motive := fun _ => Res) (next (d.x.put undefA en) H)
  (KCls.rec (motive := fun _ => Fs → KE → List Nat → List Nat → Env → AHeap → (Env → AHeap → Res) → Res) (fun F x _ _ => runZ F x) (fun F x D _ => runR F x D) runW (fun F x _ _ => runK F x) d.cls F d.x D g en H next) t) (d.x.want en)
def headL (l : List (List Nat)) : List Nat := List.rec (motive := fun _ => List Nat) [] (fun a _ _ => a) l
def tailL (l : List (List Nat)) : List (List Nat) := List.rec (motive := fun _ => List (List Nat)) [] (fun _ t _ => t) l
def runD (F : Fs) (gs : List (List Nat)) (l : List KD) : List (List Nat) → Env → AHeap → Res :=
 List.rec (motive := fun _ => List (List Nat) → Env → AHeap → Res) (fun _ => .nrm) (fun d _ ih gr en H => d.run F (deadsOf gs d.us) (headL gr) en H (ih (tailL gr))) l
theorem runD_cons (F : Fs) (gs : List (List Nat)) (d : KD) (l : List KD) (gr : List (List Nat)) (en : Env) (H : AHeap) : runD F gs (d :: l) gr en H = d.run F (deadsOf gs d.us) (headL gr) en H (runD F gs l (tailL gr)) := rfl
def guessD (F : Fs) (l : List KD) : Env → AHeap → List (List Nat) :=
 List.rec (motive := fun _ => Env → AHeap → List (List Nat)) (fun _ _ => []) (fun d _ ih en H => Bool.rec (motive := fun _ => List (List Nat)) ([] :: ih (d.x.put undefA en) H) (
  Option.rec (motive := fun _ => List (List Nat)) [] (fun t => Bool.rec (motive := fun _ => List (List Nat)) ([] :: ih (d.x.put undefA en) H)
   ((KCls.rec (motive := fun _ => List Nat) [] [] (d.x.op.guG en H) [] d.cls) :: ORes.rec (motive := fun _ => List (List Nat)) (fun v X => ih (d.x.put v en) X) (fun _ X => ih (d.x.put pnV en) X) (ih (d.x.put undefA en) H) (d.x.op.den F en H)) t) (d.x.want en)) d.g) l
def cutH (H X : AHeap) : AHeap := (growN (deads X.nxt) (kills (upto (Nat.sub H.nxt X.low) X.low) H)).withLow X.low
def postD (H : AHeap) (r : Res) : Res := Res.rec (motive := fun _ => Res) .nrm .ext .ret (fun pv X => .pan pv (cutH H X)) .fail r
def runDG (F : Fs) (l : List KD) (gs : List (List Nat)) (en : Env) (H : AHeap) : Res := postD H (runD F gs l gs en H)
theorem mem_upto (b : Nat) : ∀ (n a : Nat), b ∈ upto n a ↔ a ≤ b ∧ b < a + n
 | 0, a => by
  show b ∈ ([] : List Nat) ↔ _
  constructor
  · intro h; cases h
  · intro h; omega
 | n + 1, a => by
  show b ∈ a :: upto n (a + 1) ↔ _
  rw [List.mem_cons, mem_upto b n (a + 1)]; omega
theorem kills_other : ∀ (D : List Nat) (H : AHeap) (c : Nat), c ∉ D → (kills D H).get c = H.get c
 | [], H, c, _ => rfl
 | b :: D, H, c, h => by
  have h1 : c ≠ b := fun he => h (by rw [he]; exact List.mem_cons_self)
  have h2 : c ∉ D := fun hm => h (List.mem_cons_of_mem _ hm)
  rw [kills_cons]
  split
  · rename_i hb
    rw [AHeap.get_upd _ _ _ hb, if_neg h1]; exact kills_other D H c h2
  · exact kills_other D H c h2
theorem roL_spec {H : AHeap} {D : List Nat} {b : Nat} (h : b ∈ roL H D) : b ∉ D ∧ b < H.nxt ∧ ∃ y, H.get b = some y := by
 unfold roL at h
 generalize upto 32 0 = l at h
 induction l with
 | nil => cases h
 | cons c l ih =>
  have he : (List.rec (motive := fun _ => List Nat) [] (fun b _ ih => Bool.rec (motive := fun _ => List Nat) ih (b :: ih) (bAnd (bNot (memN b D)) (roB (H.get b)))) (c :: l) : List Nat) =
   Bool.rec (motive := fun _ => List Nat) (List.rec (motive := fun _ => List Nat) [] (fun b _ ih => Bool.rec (motive := fun _ => List Nat) ih (b :: ih) (bAnd (bNot (memN b D)) (roB (H.get b)))) l)
    (c :: List.rec (motive := fun _ => List Nat) [] (fun b _ ih => Bool.rec (motive := fun _ => List Nat) ih (b :: ih) (bAnd (bNot (memN b D)) (roB (H.get b)))) l) (bAnd (bNot (memN c D)) (roB (H.get c))) := rfl
  rw [he] at h
  cases hc : bAnd (bNot (memN c D)) (roB (H.get c)) with
  | false => rw [hc] at h; exact ih h
  | true =>
   rw [hc] at h
   rcases List.mem_cons.1 h with h | h
   · subst h
     rw [bAnd_iff] at hc
     obtain ⟨h1, h2⟩ := hc
     have hx : ∃ y, H.get b = some y := by
      cases hg : H.get b with
      | none => rw [hg] at h2; cases h2
      | some y => exact ⟨y, rfl⟩
     refine ⟨fun hD => ?_, ?_, hx⟩
     · rw [(memN_iff b D).2 hD] at h1; cases h1
     · obtain ⟨y, hy⟩ := hx
       exact AHeap.lt_of_get hy
   · exact ih h
theorem roG_spec {k : KOp} {H : AHeap} {D : List Nat} {b : Nat} (h : b ∈ k.roG H D) : b ∉ D ∧ b < H.nxt ∧ ∃ y, H.get b = some y := by
 cases k <;> first | exact roL_spec h | cases h
theorem cutH_nxt (H X : AHeap) : (cutH H X).nxt = max H.nxt X.nxt := by
 show (growN _ _).nxt = _
 rw [growN_nxt, kills_nxt]; rfl
theorem cutH_lo {H X : AHeap} {b : Nat} (h1 : b < H.nxt) (h2 : b < X.low) : (cutH H X).get b = H.get b := by
 show ((growN _ _).withLow _).get b = _
 rw [AHeap.get_withLow, growN_old _ _ _ (by rw [kills_nxt]; exact h1)]
 exact kills_other _ _ _ fun hm => by have := (mem_upto _ _ _).1 hm; omega
theorem cutH_dead {H X : AHeap} {b : Nat} (h : H.get b = some .dead) : (cutH H X).get b = some .dead := by
 show ((growN _ _).withLow _).get b = _
 rw [AHeap.get_withLow, growN_old _ _ _ (by rw [kills_nxt]; exact AHeap.lt_of_get h)]
 rcases kills_get (upto (Nat.sub H.nxt X.low) X.low) H b with q | ⟨q, _⟩
 · exact q
 · rw [q]; exact h
theorem cutH_hi {H X : AHeap} {b : Nat} {x : ABlk} (h : H.nxt ≤ b ∨ X.low ≤ b) (hx : (cutH H X).get b = some x) : x = .dead := by
 have hx' : ((growN (deads X.nxt) (kills (upto (Nat.sub H.nxt X.low) X.low) H)).withLow X.low).get b = some x := hx
 rw [AHeap.get_withLow] at hx'
 by_cases hb : b < H.nxt
 · rw [growN_old _ _ _ (by rw [kills_nxt]; exact hb)] at hx'
   rcases kills_get (upto (Nat.sub H.nxt X.low) X.low) H b with q | ⟨q1, q2⟩
   · rw [q] at hx'; cases hx'; rfl
   · have hm : b ∈ upto (Nat.sub H.nxt X.low) X.low := (mem_upto _ _ _).2 (by
       have : X.low ≤ b := by omega
       have e : Nat.sub H.nxt X.low = H.nxt - X.low := rfl
       rw [e]; omega)
     rw [q1, q2 hb hm] at hx'; cases hx'
 · have hlt := AHeap.lt_of_get hx'
   rw [growN_nxt, kills_nxt, deads_nxt] at hlt
   rcases growN_new (deads X.nxt) (kills (upto (Nat.sub H.nxt X.low) X.low) H) b (by rw [kills_nxt]; omega) (by rw [growN_nxt, kills_nxt, deads_nxt]; exact hlt) with q | q
   · rw [q, deads_get _ _ (by omega)] at hx'; cases hx'; rfl
   · rw [q] at hx'; cases hx'; rfl
structure Mem (kk : Prop) (D : List Nat) (H H' : AHeap) (Te : Nat → Prop) (Y Y' : AHeap) : Prop where
 ny : Y.nxt = H.nxt
 yb : ∀ b, b < H.nxt → Y.get b = some .dead ∨ (Y.get b = H.get b ∧ b ∉ D)
 te : ∀ b, Te b → b < H.nxt ∧ Y.get b = H.get b ∧ b ∉ D
 g1 : ∀ b, Te b → H'.get b = Y'.get b
 g2 : ∀ b, H.nxt ≤ b → b < H'.nxt → H'.get b = Y'.get b ∨ H'.get b = some .dead
 g0 : ∀ b, b < H.nxt → ¬ Te b → H'.get b = H.get b
 n' : H'.nxt = max H.nxt Y'.nxt
 l0 : H'.low ≤ H.low
 l1 : H'.low ≤ Y'.low ∨ H.nxt ≤ Y'.low
 kind : (kk ∧ ∀ b, b < H.nxt → Te b) ∨ ((∀ b, Te b → Y.owned b) ∧ ∀ b, b < H.nxt → Te b ∨ Y.get b = some .dead ∨ b < Y'.low)
 dn : ∀ b ∈ D, b < H.nxt ∨ H'.nxt ≤ b
structure Stp (F : Fs) (d : KD) (D g : List Nat) (pn : Option AV) (E : Env) (H : AHeap) (E' : Env) (H' : AHeap) (Te : Nat → Prop) : Prop where
 ex : ∃ wd v Y Y' D', d.x.want E = some wd ∧ E' = d.x.put v E ∧ (wd = true → isP pn v Y' (d.x.op.den F E Y)) ∧ (wd = false → v = undefA ∧ Y' = Y ∧ pn = none) ∧ Mem (d.cls = .k) D' H H' Te Y Y' ∧ (d.cls = .r → D' = D ∨ ∀ b, b < H.nxt → Y.get b = some .dead) ∧ (d.cls = .z → ∀ b, b < H.nxt → Y.get b = some .dead) ∧ (d.cls = .w → D' = D ∨ ∀ b, b < H.nxt → Y.get b = some .dead)
 cz : d.cls = .z → (∀ b, ¬ Te b) ∧ H'.nxt = H.nxt
 cr : d.cls = .r → (∀ b, ¬ Te b) ∧ ∀ b ∈ D, b < H.nxt ∨ H'.nxt ≤ b
 cw : d.cls = .w → (∀ b, Te b → b ∈ g ∧ b ∉ D) ∧ ∀ b ∈ D, b < H.nxt ∨ H'.nxt ≤ b
end
end Go.Ab
namespace Go.Ab
open Go
noncomputable section
theorem deadsL_get (n b : Nat) (h : b < n) : ((deads n).withLow n).get b = some .dead := by rw [AHeap.get_withLow]; exact deads_get n b h
theorem Mem.still (kk : Prop) (H : AHeap) : Mem kk [] H H (fun _ => False) (deads H.nxt) (deads H.nxt) where
 ny := rfl
 yb := fun b hb => .inl (deads_get _ _ hb)
 te := fun _ h => h.elim
 g1 := fun _ h => h.elim
 g2 := fun b h1 h2 => by omega
 g0 := fun _ _ _ => rfl
 n' := by rw [deads_nxt]; omega
 l0 := Nat.le_refl _
 l1 := .inr (Nat.le_refl _)
 kind := .inr ⟨fun _ h => h.elim, fun b hb => .inr (.inl (deads_get _ _ hb))⟩
 dn := fun _ h => by cases h
theorem KD.run_stp {F : Fs} {d : KD} {D g : List Nat} {en : Env} {H : AHeap} {next : Env → AHeap → Res} (hz : d.cls = .z → d.x.op.isZ = true) (h : d.run F D g en H next ≠ .fail) :
  ∃ E' H' Te pn, Stp F d D g pn en H E' H' Te ∧ d.run F D g en H next = endP pn (next E' H') := by
 have heq : d.run F D g en H next = Option.rec (motive := fun _ => Res) .fail (fun t => Bool.rec (motive := fun _ => Res) (next (d.x.put undefA en) H)
  (KCls.rec (motive := fun _ => Fs → KE → List Nat → List Nat → Env → AHeap → (Env → AHeap → Res) → Res) (fun F x _ _ => runZ F x) (fun F x D _ => runR F x D) runW (fun F x _ _ => runK F x) d.cls F d.x D g en H next) t) (d.x.want en) := rfl
 rw [heq] at h ⊢
 cases hw : d.x.want en with
 | none => rw [hw] at h; exact absurd rfl h
 | some t =>
  rw [hw] at h
  cases t with
  | false =>
   refine ⟨_, H, fun _ => False, none, ⟨⟨false, undefA, deads H.nxt, deads H.nxt, [], hw, rfl, nofun, fun _ => ⟨rfl, rfl, rfl⟩, Mem.still _ H, fun _ => .inr fun b hb => deads_get _ _ hb, fun _ b hb => deads_get _ _ hb, fun _ => .inr fun b hb => deads_get _ _ hb⟩, fun _ => ⟨fun _ h => h, rfl⟩, fun _ => ⟨fun _ h => h, fun b _ => by omega⟩, fun _ => ⟨fun _ h => h.elim, fun b _ => by omega⟩⟩, rfl⟩
  | true =>
   cases hc : d.cls with
   | z =>
    rw [hc] at h
    have h' : runZ F d.x en H next ≠ .fail := h
    show ∃ E' H' Te pn, Stp F d D g pn en H E' H' Te ∧ runZ F d.x en H next = endP pn (next E' H')
    obtain ⟨v, X, hv, hr⟩ := vRes_spec h'
    obtain ⟨o, ho⟩ := KOp.zden (F := F) en d.x.op (hz hc)
    have ho' := ho H
    dsimp only at ho'
    rw [hv] at ho'
    have hov : o = some v := by
     cases o with
     | none => cases ho'
     | some u => cases ho'; rfl
    subst hov
    refine ⟨_, H, fun _ => False, none, ⟨⟨true, v, deads H.nxt, deads H.nxt, [], hw, rfl, fun _ => ho _, nofun, Mem.still _ H, fun _ => .inr fun b hb => deads_get _ _ hb, fun _ b hb => deads_get _ _ hb, fun h => (by rw [hc] at h; cases h)⟩, fun _ => ⟨fun _ h => h, rfl⟩, fun h => (by rw [hc] at h; cases h), fun h => (by rw [hc] at h; cases h)⟩, hr⟩
   | r =>
    rw [hc] at h
    have h' : runR F d.x D en H next ≠ .fail := h
    show ∃ E' H' Te pn, Stp F d D g pn en H E' H' Te ∧ runR F d.x D en H next = endP pn (next E' H')
    unfold runR at h' ⊢
    obtain ⟨v, X, pn, hv, hr⟩ := pRes_spec h'
    rw [hr] at h' ⊢
    obtain ⟨hcd, hr2⟩ := rIf_spec (endP_ne h')
    rw [hr2]
    rw [bAnd_iff, ble_tt, allN_iff] at hcd
    obtain ⟨h1, h2⟩ := hcd
    have hdn0 : ∀ b ∈ D, (b < H.nxt ∧ ∃ y, H.get b = some y) ∨ (growN X H).nxt ≤ b := fun b hb => by
     have := h2 b hb
     rw [bOr_iff, bAnd_iff, bAnd_iff, ble_tt, ble_tt, ble_tt] at this
     rw [growN_nxt]
     rcases this with ⟨q1, q2⟩ | ⟨q1, q2⟩
     · exact .inl ⟨q1, hasB_spec q2⟩
     · exact .inr (by omega)
    have hdn : ∀ b ∈ D, b < H.nxt ∨ (growN X H).nxt ≤ b := fun b hb => (hdn0 b hb).imp And.left id
    refine ⟨_, growN X H, fun _ => False, pn, ⟨⟨true, v, _, X, D, hw, rfl, fun _ => hv, nofun, ?_, fun _ => .inl rfl, fun h => (by rw [hc] at h; cases h), fun h => (by rw [hc] at h; cases h)⟩, fun h => (by rw [hc] at h; cases h), fun _ => ⟨fun _ h => h, hdn⟩, fun h => (by rw [hc] at h; cases h)⟩, rfl⟩
    exact {
     ny := kills_nxt D H
     yb := fun b hb => by
      rw [AHeap.get_withLow]
      rcases kills_get D H b with q | ⟨q1, q2⟩
      · exact .inl q
      · refine .inr ⟨q1, fun hD => ?_⟩
        have hnone := q2 hb hD
        rcases hdn0 b hD with ⟨_, y, hy⟩ | hg
        · rw [hnone] at hy; cases hy
        · rw [growN_nxt] at hg; omega
     te := fun _ h => h.elim
     g1 := fun _ h => h.elim
     g2 := fun b hb1 hb2 => growN_new X H b hb1 hb2
     g0 := fun b hb _ => growN_old X H b hb
     n' := growN_nxt X H
     l0 := by rw [growN_low]; exact Nat.le_refl _
     l1 := .inr h1
     kind := .inr ⟨fun _ h => h.elim, fun b hb => .inr (.inr (Nat.lt_of_lt_of_le hb h1))⟩
     dn := hdn }
   | w =>
    rw [hc] at h
    have h' : runW F d.x D g en H next ≠ .fail := h
    show ∃ E' H' Te pn, Stp F d D g pn en H E' H' Te ∧ runW F d.x D g en H next = endP pn (next E' H')
    unfold runW at h' ⊢
    have hRo : ∀ b ∈ d.x.op.roG H D, b ∉ D ∧ b < H.nxt ∧ ∃ y, H.get b = some y := fun b hb => roG_spec hb
    generalize d.x.op.tgG en g = T at h' ⊢
    generalize d.x.op.roG H D = R at h' hRo ⊢
    obtain ⟨hcd, hr2⟩ := rIf_spec h'
    rw [hr2] at h' ⊢
    obtain ⟨v, X, pn, hv, hr⟩ := pRes_spec h'
    rw [hr] at h' ⊢
    obtain ⟨hcd2, hr3⟩ := rIf_spec (endP_ne h')
    rw [hr3]
    rw [allN_iff] at hcd
    rw [bAnd_iff, bAnd_iff, allN_iff, allN_iff, allN_iff] at hcd2
    obtain ⟨hcd4, hcd3, hcd2⟩ := hcd2
    have hRl : ∀ b ∈ R, b < X.low := fun b hb => by
     have := hcd4 b hb
     rw [ble_tt] at this; exact this
    have hDn : ∀ b ∈ D, b < H.nxt ∨ max H.nxt X.nxt ≤ b := fun b hb => by
     have := hcd3 b hb
     rw [bOr_iff, ble_tt, ble_tt] at this
     have h9 : b + 1 ≤ H.nxt ∨ X.nxt ≤ b := this
     omega
    have hTD : ∀ b ∈ T, b ∉ D := fun b hb hD => by
     have := hcd b hb
     rw [bAnd_iff, bAnd_iff] at this
     rw [(memN_iff b D).2 hD] at this
     exact absurd this.1.1 (by simp [bNot])
    have hT : ∀ b ∈ T, b ∈ g ∧ b < H.nxt ∧ H.owned b := fun b hb => by
     have := hcd b hb
     rw [bAnd_iff, bAnd_iff, bAnd_iff, memN_iff, ble_tt] at this
     exact ⟨this.1.2, this.2.1, ownB_spec this.2.2⟩
    have hsome : ∀ b ∈ T, ∃ y, H.get b = some y := fun b hb => by
     rcases (hT b hb).2.2 with ⟨n, t, sp, q⟩ | ⟨es, q⟩ <;> exact ⟨_, q⟩
    have hY := patch_get H (T ++ R) (deads H.nxt) fun b hb => (List.mem_append.1 hb).elim (fun hb => ⟨(hT b hb).2.1, hsome b hb, _, deads_get _ _ (hT b hb).2.1⟩) (fun hb => ⟨(hRo b hb).2.1, (hRo b hb).2.2, _, deads_get _ _ (hRo b hb).2.1⟩)
    have hX := patch_get X T H fun b hb => ⟨(hT b hb).2.1, hasB_spec (hcd2 b hb), hsome b hb⟩
    have hYn : ((patch H (T ++ R) (deads H.nxt)).withLow H.nxt).nxt = H.nxt := patch_nxt H (T ++ R) (deads H.nxt)
    have hYT : ∀ b, b ∈ T → ((patch H (T ++ R) (deads H.nxt)).withLow H.nxt).get b = H.get b := fun b hb => by rw [AHeap.get_withLow, hY, if_pos (List.mem_append_left _ hb)]
    have hYR : ∀ b, b ∈ R → ((patch H (T ++ R) (deads H.nxt)).withLow H.nxt).get b = H.get b := fun b hb => by rw [AHeap.get_withLow, hY, if_pos (List.mem_append_right _ hb)]
    have hYD : ∀ b, b < H.nxt → b ∉ T → b ∉ R → ((patch H (T ++ R) (deads H.nxt)).withLow H.nxt).get b = some .dead := fun b hb hn hn2 => by rw [AHeap.get_withLow, hY, if_neg (fun h => (List.mem_append.1 h).elim hn hn2)]; exact deads_get _ _ hb
    have hdn : ∀ b ∈ D, b < H.nxt ∨ ((growN X (patch X T H)).withLow (minL H.low X.low)).nxt ≤ b := fun b hb => by
     show _ ∨ (growN X (patch X T H)).nxt ≤ b
     rw [growN_nxt, patch_nxt]; exact hDn b hb
    refine ⟨_, _, fun b => b ∈ T, pn, ⟨⟨true, v, _, X, D, hw, rfl, fun _ => hv, nofun, ?_, fun h => (by rw [hc] at h; cases h), fun h => (by rw [hc] at h; cases h), fun _ => .inl rfl⟩, fun h => (by rw [hc] at h; cases h), fun h => (by rw [hc] at h; cases h), fun _ => ⟨fun b hb => ⟨(hT b hb).1, hTD b hb⟩, hdn⟩⟩, rfl⟩
    exact {
     ny := hYn
     yb := fun b hb => by
      by_cases hbT : b ∈ T
      · exact .inr ⟨hYT b hbT, hTD b hbT⟩
      · by_cases hbR : b ∈ R
        · exact .inr ⟨hYR b hbR, (hRo b hbR).1⟩
        · exact .inl (hYD b hb hbT hbR)
     te := fun b hb => ⟨(hT b hb).2.1, hYT b hb, hTD b hb⟩
     g1 := fun b hb => by
      rw [AHeap.get_withLow, growN_old _ _ _ (by rw [patch_nxt]; exact (hT b hb).2.1), hX, if_pos hb]
     g2 := fun b hb1 hb2 => by
      rw [AHeap.get_withLow]
      exact growN_new X _ b (by rw [patch_nxt]; exact hb1) hb2
     g0 := fun b hb hn => by
      rw [AHeap.get_withLow, growN_old _ _ _ (by rw [patch_nxt]; exact hb), hX, if_neg hn]
     n' := by show (growN X (patch X T H)).nxt = _; rw [growN_nxt, patch_nxt]
     l0 := by show minL H.low X.low ≤ _; rw [minL_eq]; omega
     l1 := .inl (by show minL H.low X.low ≤ _; rw [minL_eq]; omega)
     kind := .inr ⟨fun b hb => by
       have := (hT b hb).2.2
       unfold AHeap.owned at this ⊢
       rw [hYT b hb]; exact this, fun b hb => by
       by_cases hbT : b ∈ T
       · exact .inl hbT
       · by_cases hbR : b ∈ R
         · exact .inr (.inr (hRl b hbR))
         · exact .inr (.inl (hYD b hb hbT hbR))⟩
     dn := hdn }
   | k =>
    rw [hc] at h
    have h' : runK F d.x en H next ≠ .fail := h
    show ∃ E' H' Te pn, Stp F d D g pn en H E' H' Te ∧ runK F d.x en H next = endP pn (next E' H')
    unfold runK at h' ⊢
    obtain ⟨v, X, pn, hv, hr⟩ := pRes_spec h'
    rw [hr] at h' ⊢
    obtain ⟨hcd, hr2⟩ := rIf_spec (endP_ne h')
    rw [hr2]
    rw [ble_tt] at hcd
    refine ⟨_, _, fun b => b < H.nxt, pn, ⟨⟨true, v, H, X, [], hw, rfl, fun _ => hv, nofun, ?_, fun h => (by rw [hc] at h; cases h), fun h => (by rw [hc] at h; cases h), fun h => (by rw [hc] at h; cases h)⟩, fun h => (by rw [hc] at h; cases h), fun h => (by rw [hc] at h; cases h), fun h => (by rw [hc] at h; cases h)⟩, rfl⟩
    exact {
     ny := rfl
     yb := fun b hb => .inr ⟨rfl, fun h => by cases h⟩
     te := fun b hb => ⟨hb, rfl, nofun⟩
     g1 := fun b hb => rfl
     g2 := fun b _ _ => .inl rfl
     g0 := fun b hb hn => absurd hb hn
     n' := by show X.nxt = _; omega
     l0 := by show minL H.low X.low ≤ _; rw [minL_eq]; omega
     l1 := .inl (by show minL H.low X.low ≤ _; rw [minL_eq]; omega)
     kind := .inl ⟨hc, fun b hb => hb⟩
     dn := fun _ h => by cases h }
structure Trace (F : Fs) (gs : List (List Nat)) (l : List KD) (gr : List (List Nat)) (pn : Nat → Option AV) (E : Nat → Env) (Hf : Nat → AHeap) (Te : Nat → Nat → Prop) : Prop where
 stp : ∀ (i : Nat) (d : KD), l[i]? = some d → Stp F d (deadsOf gs d.us) ((gr[i]?).getD []) (pn i) (E i) (Hf i) (E (i + 1)) (Hf (i + 1)) (Te i)
def Ends (m : Nat) (pn : Nat → Option AV) (E : Nat → Env) (Hf : Nat → AHeap) (r : Res) : Prop :=
 ((∀ i, pn i = none) ∧ r = .nrm (E m) (Hf m)) ∨ ∃ i pv, i < m ∧ pn i = some pv ∧ (∀ j, j ≠ i → pn j = none) ∧ r = .pan pv (Hf m)
theorem headL_eq (l : List (List Nat)) : headL l = (l[0]?).getD [] := by cases l <;> rfl
theorem tailL_eq (l : List (List Nat)) (i : Nat) : (tailL l)[i]? = l[i + 1]? := by cases l <;> simp [tailL]
theorem runD_trace {F : Fs} {gs : List (List Nat)} : ∀ (l : List KD) (gr : List (List Nat)) (en : Env) (H : AHeap), (∀ d ∈ l, d.cls = .z → d.x.op.isZ = true) → runD F gs l gr en H ≠ .fail →
  ∃ E Hf Te pn, E 0 = en ∧ Hf 0 = H ∧ Ends l.length pn E Hf (runD F gs l gr en H) ∧ Trace F gs l gr pn E Hf Te
 | [], gr, en, H, _, _ => ⟨fun _ => en, fun _ => H, fun _ _ => False, fun _ => none, rfl, rfl, .inl ⟨fun _ => rfl, rfl⟩, ⟨fun i d h => by simp at h⟩⟩
 | d :: l, gr, en, H, hz, h => by
  rw [runD_cons] at h ⊢
  obtain ⟨E', H', T', p, hs, hr⟩ := KD.run_stp (hz d (by simp)) h
  rw [hr] at h ⊢
  obtain ⟨E, Hf, Te, pn, h0, h1, h2, h3⟩ := runD_trace l (tailL gr) E' H' (fun d hd => hz d (List.mem_cons_of_mem _ hd)) (endP_ne h)
  refine ⟨fun i => Nat.casesOn i en E, fun i => Nat.casesOn i H Hf, fun i => Nat.casesOn i T' Te, fun i => Nat.casesOn i p pn, rfl, rfl, ?_, ⟨fun i x hx => ?_⟩⟩
  · cases p with
    | none =>
     rcases h2 with ⟨q1, q2⟩ | ⟨i, pv, q0, q1, q2, q3⟩
     · exact .inl ⟨fun i => by cases i <;> first | rfl | exact q1 _, q2⟩
     · refine .inr ⟨i + 1, pv, by simp; omega, q1, fun j hj => ?_, q3⟩
       cases j with
       | zero => rfl
       | succ j => exact q2 j (by omega)
    | some pv =>
     obtain ⟨en1, H1, g1, g2⟩ := markP_spec h
     rcases h2 with ⟨q1, q2⟩ | ⟨i, pv', q0, q1, q2, q3⟩
     · refine .inr ⟨0, pv, by simp, rfl, fun j hj => ?_, ?_⟩
       · cases j with
         | zero => exact absurd rfl hj
         | succ j => exact q1 j
       · show markP pv _ = _
         rw [q2]; rfl
     · rw [q3] at g1; cases g1
  cases i with
  | zero =>
   simp only [List.getElem?_cons_zero, Option.some.injEq] at hx
   subst hx
   show Stp F d (deadsOf gs d.us) ((gr[0]?).getD []) p en H (E 0) (Hf 0) T'
   rw [h0, h1, ← headL_eq]; exact hs
  | succ i =>
   simp only [List.getElem?_cons_succ] at hx
   have := h3.stp i x hx
   rw [tailL_eq] at this
   exact this
end
end Go.Ab
namespace Go.Ab
open Go
noncomputable section
def Tou (Hf : Nat → AHeap) (Te : Nat → Nat → Prop) (j b : Nat) : Prop := ((Hf j).nxt ≤ b ∧ b < (Hf (j + 1)).nxt) ∨ Te j b
open Classical in
def ix (Hf : Nat → AHeap) (Te : Nat → Nat → Prop) (L : Nat → Bool) : Nat → Nat → Nat
 | 0, _ => 0
 | j + 1, b => if L j = true ∧ Tou Hf Te j b then j + 1 else ix Hf Te L j b
section
variable {Hf : Nat → AHeap} {Te : Nat → Nat → Prop} {L L' : Nat → Bool} {m : Nat}
theorem ix_le : ∀ j b, ix Hf Te L j b ≤ j
 | 0, _ => Nat.le_refl _
 | j + 1, b => by
  unfold ix
  split
  · exact Nat.le_refl _
  · have := ix_le j b; omega
theorem ix_cut {i b : Nat} : ∀ {m}, i ≤ m → (∀ j, i ≤ j → j < m → ¬ (L j = true ∧ Tou Hf Te j b)) → ix Hf Te L m b = ix Hf Te L i b
 | 0, h, _ => by have : i = 0 := by omega
                 subst this; rfl
 | m + 1, h, hj => by
  by_cases hi : i = m + 1
  · subst hi; rfl
  · have h1 : ix Hf Te L (m + 1) b = ix Hf Te L m b := by
      rw [ix, if_neg (hj m (by omega) (by omega))]
    rw [h1]
    exact ix_cut (by omega) fun j h1 h2 => hj j h1 (by omega)
theorem ix_all {b : Nat} (hsame : ∀ j, j < m → ¬ Tou Hf Te j b → (Hf (j + 1)).get b = (Hf j).get b) : ∀ {i}, i ≤ m → (∀ j, j < i → Tou Hf Te j b → L j = true) → (Hf (ix Hf Te L i b)).get b = (Hf i).get b
 | 0, _, _ => rfl
 | i + 1, hi, h => by
  by_cases hT : Tou Hf Te i b
  · rw [ix, if_pos ⟨h i (by omega) hT, hT⟩]
  · rw [ix, if_neg (fun q => hT q.2), hsame i (by omega) hT]
    exact ix_all hsame (by omega) fun j hj => h j (by omega)
theorem ix_set {i b : Nat} (hi : L' i = true) (hne : ∀ j, j ≠ i → L' j = L j) (hT : Tou Hf Te i b) : ∀ {m}, i < m → (∀ j, i < j → j < m → ¬ (L j = true ∧ Tou Hf Te j b)) → ix Hf Te L' m b = i + 1
 | 0, h, _ => by omega
 | m + 1, h, hj => by
  by_cases him : i = m
  · subst him; rw [ix, if_pos ⟨hi, hT⟩]
  · have h1 := hj m (by omega) (by omega)
    rw [ix, if_neg (by rw [hne m (Ne.symm him)]; exact h1)]
    exact ix_set hi hne hT (by omega) fun j h1 h2 => hj j h1 (by omega)
theorem ix_off {i b : Nat} (hi : L i = false) (hne : ∀ j, j ≠ i → L' j = L j) (hT : ¬ Tou Hf Te i b) : ∀ m, ix Hf Te L' m b = ix Hf Te L m b
 | 0 => rfl
 | m + 1 => by
  rw [ix, ix, ix_off hi hne hT m]
  by_cases him : m = i
  · subst him
    rw [if_neg (fun q => hT q.2), if_neg (fun q => hT q.2)]
  · rw [hne m him]
end
structure Stages (m : Nat) (Hf : Nat → AHeap) (Te : Nat → Nat → Prop) : Prop where
 mono : ∀ j, j < m → (Hf j).nxt ≤ (Hf (j + 1)).nxt
 low : ∀ j, j < m → (Hf (j + 1)).low ≤ (Hf j).low
 same : ∀ j b, j < m → ¬ Tou Hf Te j b → (Hf (j + 1)).get b = (Hf j).get b
section
variable {m : Nat} {Hf : Nat → AHeap} {Te : Nat → Nat → Prop}
theorem Stages.nxt (h : Stages m Hf Te) {i : Nat} : ∀ {k}, i ≤ k → k ≤ m → (Hf i).nxt ≤ (Hf k).nxt
 | 0, h1, _ => by have : i = 0 := by omega
                  subst this; exact Nat.le_refl _
 | k + 1, h1, h2 => by
  by_cases hi : i = k + 1
  · subst hi; exact Nat.le_refl _
  · exact Nat.le_trans (h.nxt (by omega) (by omega)) (h.mono k (by omega))
theorem Stages.lows (h : Stages m Hf Te) {i : Nat} : ∀ {k}, i ≤ k → k ≤ m → (Hf k).low ≤ (Hf i).low
 | 0, h1, _ => by have : i = 0 := by omega
                  subst this; exact Nat.le_refl _
 | k + 1, h1, h2 => by
  by_cases hi : i = k + 1
  · subst hi; exact Nat.le_refl _
  · exact Nat.le_trans (h.low k (by omega)) (h.lows (by omega) (by omega))
end
structure Inv (G m : Nat) (Hf : Nat → AHeap) (Te : Nat → Nat → Prop) (e0 : Emb) (w0 : World) (L : Nat → Bool) (e : Emb) (w : World) : Prop where
 ext : ∀ b i, e0 b = some i → e b = some i
 own : ∀ b i, e b = some i → (b < (Hf 0).nxt ∧ e0 b = some i) ∨ ∃ j, j < m ∧ L j = true ∧ (Hf j).nxt ≤ b ∧ b < (Hf (j + 1)).nxt
 size : w0.heap.size ≤ w.heap.size
 tape : w.tape = w0.tape
 os : w.os = w0.os
 out : w.output = w0.output
 bnd : ∀ b i, e b = some i → i.blk < w.heap.size
 obj : ∀ b i x, e b = some i → (Hf (ix Hf Te L m b)).get b = some x → ORel (e.cut (Hf (ix Hf Te L m b)).nxt) i x w.heap[i.blk]?
 sep : ∀ b1 i1 b2 i2, e b1 = some i1 → e b2 = some i2 → b1 ≠ b2 → (Hf (ix Hf Te L m b1)).owned b1 → (Hf (ix Hf Te L m b2)).alive b2 → i1.blk ≠ i2.blk
 fresh : ∀ b i, e0 b = none → e b = some i → w0.heap.size ≤ i.blk ∨ ∃ b0 i0, e0 b0 = some i0 ∧ i0.blk = i.blk ∧ (Hf 0).get b0 ≠ some .dead ∧ (Hf m).low ≤ b0
 frame : ∀ B, B < w0.heap.size → (∀ b i, e0 b = some i → i.blk = B → (Hf 0).get b = some .dead ∨ b < (Hf m).low) → w.heap[B]? = w0.heap[B]?
 still : ∀ b, b < (Hf 0).nxt → (Hf (ix Hf Te L m b)).get b = (Hf 0).get b ∨ ((Hf 0).get b ≠ some .dead ∧ (Hf m).low ≤ b)
section
variable {G m : Nat} {Hf : Nat → AHeap} {Te : Nat → Nat → Prop} {e0 : Emb} {w0 : World} {L L' : Nat → Bool} {e : Emb} {w : World}
def Shown (m : Nat) (Hf : Nat → AHeap) (Te : Nat → Nat → Prop) (L : Nat → Bool) (e : Emb) (i : Nat) (Y : AHeap) : Prop :=
 ∀ b, b < (Hf i).nxt → (b < (Hf 0).nxt ∨ ∃ j, e b = some j) → (Y.get b ≠ some .dead ∨ Te i b) → (Hf (ix Hf Te L m b)).get b = Y.get b ∧ (Hf (ix Hf Te L m b)).nxt ≤ (Hf i).nxt
theorem Inv.rel_shown (hI : Inv G m Hf Te e0 w0 L e w) (hs : Stages m Hf Te) (hr0 : Rel G e0 (Hf 0) w0) {i : Nat} (hi : i < m) {Y : AHeap} (hn : Y.nxt = (Hf i).nxt) (hk : Shown m Hf Te L e i Y) : Rel G (e.cut (Hf i).nxt) Y w where
 lt := fun b j hb => by rw [hn]; exact (Emb.cut_some.1 hb).1
 bnd := fun b j hb => hI.bnd b j (Emb.cut_some.1 hb).2
 glob := fun g hg => by
  obtain ⟨j, hj, q⟩ := hr0.glob g hg
  exact ⟨j, Emb.cut_some.2 ⟨Nat.lt_of_lt_of_le (hr0.lt g j hj) (hs.nxt (Nat.zero_le i) (by omega)), hI.ext g j hj⟩, q⟩
 obj := fun b j x hb hg => by
  obtain ⟨h1, h2⟩ := Emb.cut_some.1 hb
  by_cases hx : x = .dead
  · subst hx; trivial
  · obtain ⟨q1, q2⟩ := hk b h1 (.inr ⟨j, h2⟩) (.inl (by rw [hg]; intro h; cases h; exact hx rfl))
    refine (hI.obj b j x h2 (by rw [q1, hg])).mono fun c k hc => ?_
    obtain ⟨r1, r2⟩ := Emb.cut_some.1 hc
    exact Emb.cut_some.2 ⟨by omega, r2⟩
 sep := fun b1 i1 b2 i2 h1 h2 hne ho ha => by
  obtain ⟨p1, p2⟩ := Emb.cut_some.1 h1
  obtain ⟨q1, q2⟩ := Emb.cut_some.1 h2
  have g1 := (hk b1 p1 (.inr ⟨_, p2⟩) (.inl (by rcases ho with ⟨_, _, _, h⟩ | ⟨_, h⟩ <;> rw [h] <;> nofun))).1
  have g2 := (hk b2 q1 (.inr ⟨_, q2⟩) (.inl (by obtain ⟨x, h, hd⟩ := ha; rw [h]; intro q; cases q; exact hd rfl))).1
  refine hI.sep b1 i1 b2 i2 p2 q2 hne ?_ ?_
  · unfold AHeap.owned at ho ⊢; rw [g1]; exact ho
  · unfold AHeap.alive at ha ⊢; rw [g2]; exact ha
theorem Inv.step (hI : Inv G m Hf Te e0 w0 L e w) (hs : Stages m Hf Te) (hr0 : Rel G e0 (Hf 0) w0) {i : Nat} (hi : i < m) (hL : L i = false) (hL1 : L' i = true) (hL2 : ∀ j, j ≠ i → L' j = L j)
  {D : List Nat} {Y Y' : AHeap} {kk : Prop} (hm : Mem kk D (Hf i) (Hf (i + 1)) (Te i) Y Y') (hk : Shown m Hf Te L e i Y)
  (hT : ∀ j b, i < j → j < m → Tou Hf Te i b → ¬ (L j = true ∧ Tou Hf Te j b))
  (hkk : kk → ∀ b k, e b = some k → b < (Hf i).nxt)
  {e2 : Emb} {w' : World} (hev : Evo G (e.cut (Hf i).nxt) Y w e2 Y' w') :
  ∃ e', Inv G m Hf Te e0 w0 L' e' w' ∧ (∀ b k, e b = some k → e' b = some k) ∧ ∀ b k, e2 b = some k → b < (Hf (i + 1)).nxt ∧ e' b = some k := by
 have hmono := hs.mono i hi
 have h0i := hs.nxt (Nat.zero_le i) (Nat.le_of_lt hi)
 have hn' : (Hf (i + 1)).nxt = max (Hf i).nxt Y'.nxt := hm.n'
 have hYn := hm.ny
 have f1 : ∀ b k, e2 b = some k → b < (Hf i).nxt → e b = some k := fun b k h hb => by
  cases hc : (e.cut (Hf i).nxt) b with
  | some k0 =>
   have := hev.ext b k0 hc
   rw [h] at this; cases this
   exact (Emb.cut_some.1 hc).2
  | none => have := (hev.fresh b k hc h).1; omega
 have f2 : ∀ b k, e2 b = some k → b < (Hf (i + 1)).nxt := fun b k h => by
  have := hev.rel.lt b k h; omega
 have f3 : ∀ b k, e b = some k → (Hf i).nxt ≤ b → (Hf (i + 1)).nxt ≤ b := fun b k h hb => by
  rcases hI.own b k h with ⟨h1, _⟩ | ⟨j, hj, hjL, h1, h2⟩
  · omega
  · rcases Nat.lt_trichotomy j i with hji | hji | hji
    · have := hs.nxt (i := j + 1) (k := i) (by omega) (by omega); omega
    · subst hji; rw [hL] at hjL; cases hjL
    · have := hs.nxt (i := i + 1) (k := j) (by omega) (by omega); omega
 generalize hE : (fun b => if (Hf i).nxt ≤ b ∧ b < (Hf (i + 1)).nxt then e2 b else e b : Emb) = e'
 have hE' : ∀ b, e' b = if (Hf i).nxt ≤ b ∧ b < (Hf (i + 1)).nxt then e2 b else e b := fun b => by rw [← hE]
 have f4 : ∀ b k, e b = some k → e' b = some k := fun b k h => by
  rw [hE', if_neg]; exact h
  rintro ⟨q1, q2⟩
  have := f3 b k h q1; omega
 have f5 : ∀ b k, e2 b = some k → e' b = some k := fun b k h => by
  by_cases hb : (Hf i).nxt ≤ b
  · rw [hE', if_pos ⟨hb, f2 b k h⟩]; exact h
  · exact f4 b k (f1 b k h (by omega))
 have f6 : ∀ b k, e' b = some k → (b < (Hf (i + 1)).nxt ∧ e2 b = some k) ∨ ((Hf (i + 1)).nxt ≤ b ∧ e b = some k) := fun b k h => by
  rw [hE'] at h
  by_cases hb : (Hf i).nxt ≤ b ∧ b < (Hf (i + 1)).nxt
  · rw [if_pos hb] at h; exact .inl ⟨hb.2, h⟩
  · rw [if_neg hb] at h
    by_cases hb1 : b < (Hf i).nxt
    · exact .inl ⟨by omega, hev.ext b k (Emb.cut_some.2 ⟨hb1, h⟩)⟩
    · exact .inr ⟨by omega, h⟩
 have s1 : ∀ b, Tou Hf Te i b → ix Hf Te L' m b = i + 1 := fun b h => ix_set hL1 hL2 h hi fun j h1 h2 => hT j b h1 h2 h
 have s2 : ∀ b, ¬ Tou Hf Te i b → ix Hf Te L' m b = ix Hf Te L m b := fun b h => ix_off hL hL2 h m
 have tlt : ∀ b, Tou Hf Te i b → b < (Hf (i + 1)).nxt := fun b h => by
  rcases h with h | h
  · exact h.2
  · have := (hm.te b h).1; omega
 have A : ∀ b k x, e' b = some k → Tou Hf Te i b → (Hf (ix Hf Te L' m b)).get b = some x → x ≠ .dead → e2 b = some k ∧ Y'.get b = some x := fun b k x h hTb hg hx => by
  refine ⟨?_, ?_⟩
  · rcases f6 b k h with ⟨_, q⟩ | ⟨q, _⟩
    · exact q
    · have := tlt b hTb; omega
  · rw [s1 b hTb] at hg
    rcases hTb with ⟨q1, q2⟩ | q
    · rcases hm.g2 b q1 q2 with r | r
      · rw [← r]; exact hg
      · rw [r] at hg; cases hg; exact absurd rfl hx
    · rw [← hm.g1 b q]; exact hg
 have Bc : ∀ b k, e' b = some k → ¬ Tou Hf Te i b → e b = some k := fun b k h hTb => by
  rcases f6 b k h with ⟨q1, q2⟩ | ⟨_, q⟩
  · by_cases hb : b < (Hf i).nxt
    · exact f1 b k q2 hb
    · exact absurd (.inl ⟨by omega, q1⟩) hTb
  · exact q
 have ownO : ∀ c k, e c = some k → Te i c → Y.owned c → (Hf (ix Hf Te L m c)).owned c := fun c k hc hTe ho => by
  have := (hk c (hm.te c hTe).1 (.inr ⟨k, hc⟩) (.inr hTe)).1
  unfold AHeap.owned at ho ⊢; rw [this]; exact ho
 have apart : ∀ c k b j, e c = some k → c < (Hf i).nxt → Y.get c ≠ some .dead → Y'.low ≤ c → e b = some j → ¬ Tou Hf Te i b → (Hf (ix Hf Te L m b)).alive b → k.blk ≠ j.blk := fun c k b j hc hcl hd hlo hb hTb ha => by
  rcases hm.kind with ⟨h0, h1⟩ | ⟨h1, h2⟩
  · exact absurd (.inr (h1 b (hkk h0 b j hb))) hTb
  · rcases h2 c hcl with q | q | q
    · exact hI.sep c k b j hc hb (by intro h; subst h; exact hTb (.inr q)) (ownO c k hc q (h1 c q)) ha
    · exact absurd q hd
    · omega
 have heap : ∀ b j, e b = some j → ¬ Tou Hf Te i b → (Hf (ix Hf Te L m b)).alive b → w'.heap[j.blk]? = w.heap[j.blk]? := fun b j hb hTb ha => by
  refine hev.frame _ (hI.bnd b j hb) fun c k hc hkj => ?_
  obtain ⟨hcl, hc⟩ := Emb.cut_some.1 hc
  by_cases hd : Y.get c = some .dead
  · exact .inl hd
  · by_cases hlo : Y'.low ≤ c
    · exact absurd hkj (apart c k b j hc hcl hd hlo hb hTb ha)
    · exact .inr (by omega)
 have alv : ∀ (H : AHeap) b x, H.get b = some x → x ≠ .dead → H.alive b := fun H b x h1 h2 => ⟨x, h1, h2⟩
 have AB : ∀ b1 j1 b2 j2, e2 b1 = some j1 → Tou Hf Te i b1 → e b2 = some j2 → ¬ Tou Hf Te i b2 → (Hf (ix Hf Te L m b2)).alive b2 → j1.blk ≠ j2.blk := fun b1 j1 b2 j2 h1 t1 h2 t2 ha => by
  by_cases hb : b1 < (Hf i).nxt
  · have hTe : Te i b1 := by
      rcases t1 with q | q
      · omega
      · exact q
    rcases hm.kind with ⟨q0, q⟩ | ⟨q, _⟩
    · exact absurd (.inr (q b2 (hkk q0 b2 j2 h2))) t2
    · exact hI.sep b1 j1 b2 j2 (f1 b1 j1 h1 hb) h2 (by intro h; subst h; exact t2 t1) (ownO b1 j1 (f1 b1 j1 h1 hb) hTe (q b1 hTe)) ha
  · rcases (hev.fresh b1 j1 (by unfold Emb.cut; rw [if_neg hb]) h1).2 with q | ⟨c, k, q1, q2, q3, q4⟩
    · have := hI.bnd b2 j2 h2; omega
    · obtain ⟨hcl, hc⟩ := Emb.cut_some.1 q1
      rw [← q2]
      exact apart c k b2 j2 hc hcl q3 q4 h2 t2 ha
 have lowm : (Hf m).low ≤ (Hf (i + 1)).low := hs.lows (by omega) (Nat.le_refl m)
 have lowc : ∀ c, c < (Hf i).nxt → Y'.low ≤ c → (Hf m).low ≤ c := fun c h1 h2 => by
  rcases hm.l1 with q | q <;> omega
 have hdd : ∀ c, c < (Hf 0).nxt → Y.get c ≠ some .dead → (Hf 0).get c ≠ some .dead := fun c hc hd => by
  have := (hk c (by omega) (.inl hc) (.inl hd)).1
  rcases hI.still c hc with q | q
  · rw [← q, this]; exact hd
  · exact q.1
 refine ⟨e', ?_, f4, fun b k h => ⟨f2 b k h, f5 b k h⟩⟩
 refine {
  ext := fun b k h => f4 b k (hI.ext b k h)
  own := ?_
  size := Nat.le_trans hI.size hev.size
  tape := by rw [hev.tape, hI.tape]
  os := by rw [hev.os, hI.os]
  out := by rw [hev.out, hI.out]
  bnd := ?_
  obj := ?_
  sep := ?_
  fresh := ?_
  frame := ?_
  still := ?_ }
 · intro b k h
   have old : e b = some k → (b < (Hf 0).nxt ∧ e0 b = some k) ∨ ∃ j, j < m ∧ L' j = true ∧ (Hf j).nxt ≤ b ∧ b < (Hf (j + 1)).nxt := fun h => by
    rcases hI.own b k h with q | ⟨j, q1, q2, q3⟩
    · exact .inl q
    · refine .inr ⟨j, q1, ?_, q3⟩
      rw [hL2 j (by intro h; subst h; rw [hL] at q2; cases q2)]; exact q2
   rcases f6 b k h with ⟨q1, q2⟩ | ⟨_, q⟩
   · by_cases hb : b < (Hf i).nxt
     · exact old (f1 b k q2 hb)
     · exact .inr ⟨i, hi, hL1, by omega, q1⟩
   · exact old q
 · intro b k h
   rcases f6 b k h with ⟨_, q⟩ | ⟨_, q⟩
   · exact hev.rel.bnd b k q
   · exact Nat.lt_of_lt_of_le (hI.bnd b k q) hev.size
 · intro b k x h hg
   by_cases hx : x = .dead
   · subst hx; trivial
   · by_cases hTb : Tou Hf Te i b
     · obtain ⟨q1, q2⟩ := A b k x h hTb hg hx
       rw [s1 b hTb]
       exact (hev.rel.obj b k x q1 q2).mono fun c j hc => Emb.cut_some.2 ⟨f2 c j hc, f5 c j hc⟩
     · have hb := Bc b k h hTb
       rw [s2 b hTb] at hg ⊢
       rw [heap b k hb hTb (alv _ _ _ hg hx)]
       exact (hI.obj b k x hb hg).mono fun c j hc => by
        obtain ⟨r1, r2⟩ := Emb.cut_some.1 hc
        exact Emb.cut_some.2 ⟨r1, f4 c j r2⟩
 · intro b1 i1 b2 i2 h1 h2 hne ho ha
   obtain ⟨x1, g1, d1⟩ := AHeap.owned_alive ho
   obtain ⟨x2, g2, d2⟩ := ha
   by_cases t1 : Tou Hf Te i b1 <;> by_cases t2 : Tou Hf Te i b2
   · obtain ⟨p1, p2⟩ := A b1 i1 x1 h1 t1 g1 d1
     obtain ⟨q1, q2⟩ := A b2 i2 x2 h2 t2 g2 d2
     refine hev.rel.sep b1 i1 b2 i2 p1 q1 hne ?_ ⟨x2, q2, d2⟩
     unfold AHeap.owned at ho ⊢; rw [p2]; rw [g1] at ho; exact ho
   · obtain ⟨p1, p2⟩ := A b1 i1 x1 h1 t1 g1 d1
     have hb := Bc b2 i2 h2 t2
     rw [s2 b2 t2] at g2
     exact AB b1 i1 b2 i2 p1 t1 hb t2 ⟨x2, g2, d2⟩
   · obtain ⟨q1, q2⟩ := A b2 i2 x2 h2 t2 g2 d2
     have hb := Bc b1 i1 h1 t1
     rw [s2 b1 t1] at g1
     exact Ne.symm (AB b2 i2 b1 i1 q1 t2 hb t1 ⟨x1, g1, d1⟩)
   · have p1 := Bc b1 i1 h1 t1
     have p2 := Bc b2 i2 h2 t2
     rw [s2 b1 t1] at ho
     rw [s2 b2 t2] at g2
     exact hI.sep b1 i1 b2 i2 p1 p2 hne ho ⟨x2, g2, d2⟩
 · intro b k h0 h
   have chain : ∀ c j, e c = some j → j.blk = k.blk → (e0 c = none ∨ (∃ j0, e0 c = some j0 ∧ (Hf 0).get c ≠ some .dead ∧ (Hf m).low ≤ c)) → w0.heap.size ≤ k.blk ∨ ∃ b0 i0, e0 b0 = some i0 ∧ i0.blk = k.blk ∧ (Hf 0).get b0 ≠ some .dead ∧ (Hf m).low ≤ b0 := fun c j hc hjk hh => by
    rcases hh with hh | ⟨j0, q1, q2, q3⟩
    · rcases hI.fresh c j hh hc with q | ⟨b0, i0, q1, q2, q3⟩
      · exact .inl (by omega)
      · exact .inr ⟨b0, i0, q1, by rw [q2, hjk], q3⟩
    · have := hI.ext c j0 q1
      rw [hc] at this; cases this
      exact .inr ⟨c, j, q1, hjk, q2, q3⟩
   rcases f6 b k h with ⟨q1, q2⟩ | ⟨_, q⟩
   · by_cases hb : b < (Hf i).nxt
     · exact chain b k (f1 b k q2 hb) rfl (.inl h0)
     · rcases (hev.fresh b k (by unfold Emb.cut; rw [if_neg hb]) q2).2 with r | ⟨c, j, r1, r2, r3, r4⟩
       · exact .inl (Nat.le_trans hI.size r)
       · obtain ⟨hcl, hc⟩ := Emb.cut_some.1 r1
         refine chain c j hc r2 ?_
         cases hc0 : e0 c with
         | none => exact .inl rfl
         | some j0 => exact .inr ⟨j0, rfl, hdd c (hr0.lt c j0 hc0) r3, lowc c hcl r4⟩
   · exact chain b k q rfl (.inl h0)
 · intro B hB hc
   rw [← hI.frame B hB hc]
   refine hev.frame B (Nat.lt_of_lt_of_le hB hI.size) fun c j hcj hj => ?_
   obtain ⟨hcl, hc1⟩ := Emb.cut_some.1 hcj
   by_cases hd : Y.get c = some .dead
   · exact .inl hd
   · by_cases hlo : Y'.low ≤ c
     · exfalso
       cases hc0 : e0 c with
       | some j0 =>
        have := hI.ext c j0 hc0
        rw [hc1] at this; cases this
        rcases hc c j hc0 hj with q | q
        · exact hdd c (hr0.lt c j hc0) hd q
        · have := lowc c hcl hlo; omega
       | none =>
        rcases hI.fresh c j hc0 hc1 with q | ⟨b0, i0, q1, q2, q3, q4⟩
        · omega
        · rcases hc b0 i0 q1 (by rw [q2, hj]) with r | r
          · exact q3 r
          · omega
     · exact .inr (by omega)
 · intro b hb
   by_cases hTb : Tou Hf Te i b
   · rw [s1 b hTb]
     rcases hTb with q | q
     · omega
     · have hO := (hk b (by omega) (.inl hb) (.inr q)).1
       rw [hm.g1 b q]
       by_cases hd : Y.get b = some .dead
       · have hde := hev.dead b hd
         rw [← hd, ← hO] at hde
         rw [hde]; exact hI.still b hb
       · by_cases hlo : b < Y'.low
         · rw [hev.same b (by omega) hlo, ← hO]; exact hI.still b hb
         · exact .inr ⟨hdd b hb hd, lowc b (by omega) (by omega)⟩
   · rw [s2 b hTb]; exact hI.still b hb
theorem Inv.start (hr0 : Rel G e0 (Hf 0) w0) (hL : ∀ j, L j = false) : Inv G m Hf Te e0 w0 L e0 w0 := by
 have h0 : ∀ b, ix Hf Te L m b = 0 := fun b => by
  rw [ix_cut (i := 0) (Nat.zero_le m) fun j _ _ => by rw [hL j]; simp]; rfl
 exact {
  ext := fun _ _ h => h
  own := fun b i h => .inl ⟨hr0.lt b i h, h⟩
  size := Nat.le_refl _
  tape := rfl
  os := rfl
  out := rfl
  bnd := hr0.bnd
  obj := fun b i x h hg => by
   rw [h0 b] at hg ⊢
   exact (hr0.obj b i x h hg).mono fun c j hc => Emb.cut_some.2 ⟨hr0.lt c j hc, hc⟩
  sep := fun b1 i1 b2 i2 h1 h2 hne ho ha => by
   rw [h0 b1] at ho
   rw [h0 b2] at ha
   exact hr0.sep b1 i1 b2 i2 h1 h2 hne ho ha
  fresh := fun b i h h' => by rw [h] at h'; cases h'
  frame := fun _ _ _ => rfl
  still := fun b _ => .inl (by rw [h0 b]) }
theorem Inv.cut (hI : Inv G m Hf Te e0 w0 L e w) (hs : Stages m Hf Te) (hr0 : Rel G e0 (Hf 0) w0) : Evo G e0 (Hf 0) w0 e (cutH (Hf 0) (Hf m)) w := by
 have h0 := hs.nxt (Nat.zero_le m) (Nat.le_refl m)
 have hst : ∀ b, b < (Hf 0).nxt → b < (Hf m).low → (Hf (ix Hf Te L m b)).get b = (cutH (Hf 0) (Hf m)).get b := fun b h1 h2 => by
  rw [cutH_lo h1 h2]
  rcases hI.still b h1 with q | q
  · exact q
  · omega
 have hlive : ∀ b x, (cutH (Hf 0) (Hf m)).get b = some x → x ≠ .dead → b < (Hf 0).nxt ∧ b < (Hf m).low := fun b x hx hd => by
  by_cases h1 : b < (Hf 0).nxt
  · by_cases h2 : b < (Hf m).low
    · exact ⟨h1, h2⟩
    · exact absurd (cutH_hi (.inr (by omega)) hx) hd
  · exact absurd (cutH_hi (.inl (by omega)) hx) hd
 exact {
  rel := {
   lt := fun b i h => by
    rw [cutH_nxt]
    rcases hI.own b i h with ⟨q, _⟩ | ⟨j, q1, _, _, q2⟩
    · omega
    · have := hs.nxt (i := j + 1) (k := m) (by omega) (Nat.le_refl m); omega
   bnd := hI.bnd
   glob := fun g hg => by
    obtain ⟨i, hi, q⟩ := hr0.glob g hg
    exact ⟨i, hI.ext g i hi, q⟩
   obj := fun b i x h hg => by
    by_cases hd : x = .dead
    · subst hd; trivial
    · obtain ⟨h1, h2⟩ := hlive b x hg hd
      exact (hI.obj b i x h (by rw [hst b h1 h2]; exact hg)).mono fun c j hc => (Emb.cut_some.1 hc).2
   sep := fun b1 i1 b2 i2 h1 h2 hne ho ha => by
    have l1 : b1 < (Hf 0).nxt ∧ b1 < (Hf m).low := by
     rcases ho with ⟨n, t, sp, q⟩ | ⟨es, q⟩ <;> exact hlive b1 _ q (by simp)
    have l2 : b2 < (Hf 0).nxt ∧ b2 < (Hf m).low := by
     obtain ⟨x, q1, q2⟩ := ha
     exact hlive b2 x q1 q2
    exact hI.sep b1 i1 b2 i2 h1 h2 hne (by unfold AHeap.owned at ho ⊢; rw [hst b1 l1.1 l1.2]; exact ho) (by unfold AHeap.alive at ha ⊢; rw [hst b2 l2.1 l2.2]; exact ha) }
  ext := hI.ext
  size := hI.size
  tape := hI.tape
  os := hI.os
  out := hI.out
  nxt := by rw [cutH_nxt]; omega
  low := hs.lows (Nat.zero_le m) (Nat.le_refl m)
  same := fun b hb hlo => cutH_lo hb hlo
  dead := fun b hd => cutH_dead hd
  fresh := fun b i h h' => by
   refine ⟨?_, hI.fresh b i h h'⟩
   rcases hI.own b i h' with ⟨_, q⟩ | ⟨j, q1, _, q2, _⟩
   · rw [h] at q; cases q
   · have := hs.nxt (i := 0) (k := j) (Nat.zero_le j) (by omega); omega
  frame := hI.frame }
theorem Inv.last (hI : Inv G m Hf Te e0 w0 L e w) (hs : Stages m Hf Te) (hr0 : Rel G e0 (Hf 0) w0) (hL : ∀ j, j < m → L j = true) : Evo G e0 (Hf 0) w0 e (Hf m) w := by
 have hO : ∀ b, (Hf (ix Hf Te L m b)).get b = (Hf m).get b := fun b => ix_all (fun j hj => hs.same j b hj) (Nat.le_refl m) fun j hj _ => hL j hj
 have h0 := hs.nxt (Nat.zero_le m) (Nat.le_refl m)
 exact {
  rel := {
   lt := fun b i h => by
    rcases hI.own b i h with ⟨q, _⟩ | ⟨j, q1, _, _, q2⟩
    · omega
    · have := hs.nxt (i := j + 1) (k := m) (by omega) (Nat.le_refl m); omega
   bnd := hI.bnd
   glob := fun g hg => by
    obtain ⟨i, hi, q⟩ := hr0.glob g hg
    exact ⟨i, hI.ext g i hi, q⟩
   obj := fun b i x h hg => (hI.obj b i x h (by rw [hO b]; exact hg)).mono fun c j hc => (Emb.cut_some.1 hc).2
   sep := fun b1 i1 b2 i2 h1 h2 hne ho ha => hI.sep b1 i1 b2 i2 h1 h2 hne (by unfold AHeap.owned at ho ⊢; rw [hO b1]; exact ho) (by unfold AHeap.alive at ha ⊢; rw [hO b2]; exact ha) }
  ext := hI.ext
  size := hI.size
  tape := hI.tape
  os := hI.os
  out := hI.out
  nxt := h0
  low := hs.lows (Nat.zero_le m) (Nat.le_refl m)
  same := fun b hb hlo => by
   rcases hI.still b hb with q | q
   · rw [← hO b]; exact q
   · omega
  dead := fun b hd => by
   rcases hI.still b (AHeap.lt_of_get hd) with q | q
   · rw [← hO b, q]; exact hd
   · exact absurd hd q.1
  fresh := fun b i h h' => by
   refine ⟨?_, hI.fresh b i h h'⟩
   rcases hI.own b i h' with ⟨_, q⟩ | ⟨j, q1, _, q2, _⟩
   · rw [h] at q; cases q
   · have := hs.nxt (i := 0) (k := j) (Nat.zero_le j) (by omega); omega
  frame := hI.frame }
end
end
end Go.Ab
namespace Go.Ab
open Go
noncomputable section
def KO.slot (S : BT Nat) (x : KO) : Option Nat :=
 match x with
 | .t n => if Nat.beq (countB n S) 0 = true then some n else none
 | .va p => p.at S
 | _ => none
def KO.slotOk (S : BT Nat) (x : KO) : Bool :=
 match x with
 | .t _ | .va _ => (x.slot S).isSome
 | _ => true
section
variable {P : Program} {S : BT Nat} {n : Nat} {ops : Array Oper}
theorem arel_slot {D : DF} {e : Emb} {en : Env} {a : Act} (hs : a.tmps.size = n) (hd : a.defers = D.ds) (hk : D.K en.B) (h : ∀ x t, KO.slot S x = some t → VRel e (x.den en) (a.tmps.getD t undef)) : ARel S n D e en a :=
 ⟨hs, fun t ht => h (.t t) t (by unfold KO.slot; simp [ht]), fun p t ht => h (.va p) t ht, hd, hk⟩
theorem slot_arel {D : DF} {e : Emb} {en : Env} {a : Act} (ha : ARel S n D e en a) {x : KO} {t : Nat} (h : KO.slot S x = some t) : VRel e (x.den en) (a.tmps.getD t undef) := by
 cases x with
 | t k =>
  unfold KO.slot at h
  dsimp only at h
  split at h
  · rename_i hc
    cases h
    rw [beq_tt] at hc
    exact ha.tmps _ hc
  · cases h
 | va p => exact ha.vars p t h
 | _ => cases h
def maskL (keep : Nat → Bool) : Loc → Loc
 | .nil => .nil
 | .cons t v e => if keep t then .cons t v (maskL keep e) else maskL keep e
theorem maskL_get (keep : Nat → Bool) (t : Nat) : ∀ l : Loc, (maskL keep l).get t = if keep t then l.get t else .x .bad
 | .nil => by simp [maskL, Loc.get_nil]
 | .cons d v e => by
  unfold maskL
  have ih := maskL_get keep t e
  by_cases hd : keep d = true
  · rw [if_pos hd, Loc.get_cons, Loc.get_cons, ih]
    by_cases h : d = t
    · subst h; simp [hd]
    · simp [h]
  · rw [if_neg hd, ih, Loc.get_cons]
    by_cases h : d = t
    · subst h; simp [hd]
    · simp [h]
def maskB (keep : Nat → Bool) : BT Nat → BT AV → BT AV
 | .nd l s r, .nd l' v r' => .nd (maskB keep l l') (if keep s then v else .x .bad) (maskB keep r r')
 | _, _ => .lf
theorem maskB_get (keep : Nat → Bool) : ∀ (p : VP) (S : BT Nat) (B : BT AV) (t : Nat), p.at S = some t → p.get (maskB keep S B) = if keep t then p.get B else .x .bad
 | p, .lf, B, t, h => by cases p <;> simp [VP.at] at h
 | p, .nd l s r, .lf, t, _ => by simp [maskB]
 | .top, .nd l s r, .nd l' v r', t, h => by
  simp only [VP.at, Option.some.injEq] at h; subst h; simp [maskB]
 | .lft p, .nd l s r, .nd l' v r', t, h => by
  simp only [maskB, VP.get_l]; exact maskB_get keep p l l' t h
 | .rgt p, .nd l s r, .nd l' v r', t, h => by
  simp only [maskB, VP.get_r]; exact maskB_get keep p r r' t h
def maskE (keep : Nat → Bool) (S : BT Nat) (en : Env) : Env := ⟨maskL keep en.loc, maskB keep S en.B⟩
theorem maskE_den (keep : Nat → Bool) (en : Env) {x : KO} {t : Nat} (h : KO.slot S x = some t) : x.den (maskE keep S en) = if keep t then x.den en else .x .bad := by
 cases x with
 | t k =>
  unfold KO.slot at h
  dsimp only at h
  split at h
  · cases h; exact maskL_get keep _ en.loc
  · cases h
 | va p => exact maskB_get keep p S en.B t h
 | _ => cases h
theorem den_const {x : KO} (h : x.slotOk S = true) (hn : x.slot S = none) (en en2 : Env) : x.den en = x.den en2 := by
 cases x with
 | t k => unfold KO.slotOk at h; dsimp only at h; rw [hn] at h; cases h
 | va p => unfold KO.slotOk at h; dsimp only at h; rw [hn] at h; cases h
 | _ => rfl
theorem KE.ok_op {x : KE} {o : Oper} (h : x.ok P S n ops o = true) : x.op.ok P S o = true := by
 cases x <;> simp only [KE.ok, Bool.and_eq_true] at h <;> exact h.2
theorem KE.put_same {x : KE} {o : Oper} (h : x.ok P S n ops o = true) {y : KO} {t : Nat} (hy : y.slot S = some t) (hne : o.dst ≠ some t) (v : AV) (en : Env) : y.den (x.put v en) = y.den en := by
 have loc : ∀ d : Nat, (match o.dst with | some d' => Nat.beq d d' && Nat.ble (d + 1) n && Nat.beq (countB d S) 0 | none => false) = true → y.den ⟨.cons d v en.loc, en.B⟩ = y.den en := by
  intro d hd
  cases hdst : o.dst with
  | none => rw [hdst] at hd; cases hd
  | some d' =>
   rw [hdst] at hd
   simp only [Bool.and_eq_true, beq_tt] at hd
   obtain ⟨⟨rfl, _⟩, _⟩ := hd
   cases y with
   | t k =>
    have hk : k = t := by
     unfold KO.slot at hy; dsimp only at hy; split at hy
     · cases hy; rfl
     · cases hy
    subst hk
    show (Loc.cons d v en.loc).get k = en.loc.get k
    rw [Loc.get_cons, if_neg (fun h => hne (by rw [hdst, h]))]
   | _ => rfl
 have var : ∀ p : VP, (match o.dst with | some d' => (match p.at S with | some d => Nat.beq d d' | none => false) && Nat.ble (d' + 1) n && Nat.ble (countB d' S) 1 | none => false) = true → y.den ⟨en.loc, p.put v en.B⟩ = y.den en := by
  intro p hd
  cases hdst : o.dst with
  | none => rw [hdst] at hd; cases hd
  | some d' =>
   rw [hdst] at hd
   simp only [Bool.and_eq_true] at hd
   obtain ⟨⟨h1, _⟩, _⟩ := hd
   cases y with
   | va q =>
    show q.get (p.put v en.B) = q.get en.B
    rcases VP.get_put v p q en.B with r | ⟨r, _⟩
    · exact r
    · subst r
      have hy' : q.at S = some t := hy
      rw [hy'] at h1
      have := Nat.eq_of_beq_eq_true h1
      subst this
      exact absurd hdst hne
   | _ => rfl
 cases x with
 | l d k => simp only [KE.ok, Bool.and_eq_true] at h; exact loc d h.1.1
 | gl c b d k => simp only [KE.ok, Bool.and_eq_true] at h; exact loc d h.1.1
 | p d k => simp only [KE.ok, Bool.and_eq_true] at h; exact var d h.1.1
 | gp c b d k => simp only [KE.ok, Bool.and_eq_true] at h; exact var d h.1.1
 | n k => rfl
 | gn c b k => rfl
theorem KE.put_hit {x : KE} {o : Oper} (h : x.ok P S n ops o = true) {y : KO} {t : Nat} (hy : y.slot S = some t) (hd : o.dst = some t) {e : Emb} {v : AV} {v' : Value} (hv : VRel e v v') (en : Env) : VRel e (y.den (x.put v en)) v' ∧ t < n := by
 have loc : ∀ d : Nat, (match o.dst with | some d' => Nat.beq d d' && Nat.ble (d + 1) n && Nat.beq (countB d S) 0 | none => false) = true → VRel e (y.den ⟨.cons d v en.loc, en.B⟩) v' ∧ t < n := by
  intro d h
  rw [hd] at h
  simp only [Bool.and_eq_true, beq_tt, ble_tt] at h
  obtain ⟨⟨rfl, h1⟩, h2⟩ := h
  refine ⟨?_, h1⟩
  cases y with
  | t k =>
   have hk : k = d := by
    unfold KO.slot at hy; dsimp only at hy; split at hy
    · cases hy; rfl
    · cases hy
   subst hk
   show VRel e ((Loc.cons k v en.loc).get k) v'
   rw [Loc.get_cons, if_pos rfl]; exact hv
  | va p =>
   have := countB_pos (p := p) (S := S) hy
   omega
  | _ => cases hy
 have var : ∀ p : VP, (match o.dst with | some d' => (match p.at S with | some d => Nat.beq d d' | none => false) && Nat.ble (d' + 1) n && Nat.ble (countB d' S) 1 | none => false) = true → VRel e (y.den ⟨en.loc, p.put v en.B⟩) v' ∧ t < n := by
  intro p h
  rw [hd] at h
  simp only [Bool.and_eq_true, ble_tt] at h
  obtain ⟨⟨h1, h2⟩, h3⟩ := h
  refine ⟨?_, h2⟩
  cases hp : p.at S with
  | none => rw [hp] at h1; cases h1
  | some d =>
   rw [hp] at h1
   have := Nat.eq_of_beq_eq_true h1
   subst this
   cases y with
   | t k =>
    exfalso
    unfold KO.slot at hy; dsimp only at hy; split at hy
    · rename_i hc
      cases hy
      rw [beq_tt] at hc
      have := countB_pos hp
      omega
    · cases hy
   | va q =>
    have hq : q = p := VP.uniq h3 hy hp
    subst hq
    show VRel e (q.get (q.put v en.B)) v'
    rcases VP.get_put_self v q en.B with r | r
    · rw [r]; exact hv
    · rw [r]; exact .bad _
   | _ => cases hy
 cases x with
 | l d k => simp only [KE.ok, Bool.and_eq_true] at h; exact loc d h.1.1
 | gl c b d k => simp only [KE.ok, Bool.and_eq_true] at h; exact loc d h.1.1
 | p d k => simp only [KE.ok, Bool.and_eq_true] at h; exact var d h.1.1
 | gp c b d k => simp only [KE.ok, Bool.and_eq_true] at h; exact var d h.1.1
 | n k =>
  simp only [KE.ok, Bool.and_eq_true] at h
  rw [hd] at h; simp at h
 | gn c b k =>
  simp only [KE.ok, Bool.and_eq_true] at h
  rw [hd] at h; simp at h
theorem wantV_spec {b : Bool} {v : AV} {t : Bool} (h : wantV b v = some t) : (∃ u, v = .b u ∧ t = bEq u b) ∨ (v = .x (.tup []) ∧ t = false) := by
 cases v with
 | b u => cases h; exact .inl ⟨u, rfl, rfl⟩
 | x u =>
  cases u with
  | tup l =>
   cases l with
   | nil => cases h; exact .inr ⟨rfl, rfl⟩
   | cons => cases h
  | _ => cases h
 | _ => cases h
theorem KE.want_spec {x : KE} {o : Oper} (h : x.ok P S n ops o = true) {D : DF} {e : Emb} {en : Env} {a : Act} {H : AHeap} {w : World} (hr : Rel P.globals.size e H w) (ha : ARel S n D e en a) {t : Bool} (ht : x.want en = some t) :
  Region.wanted o (yielded ops a.tmps) = t := by
 have plain : o.guard.isNone = true → some true = some t → Region.wanted o (yielded ops a.tmps) = t := fun h1 h2 => by
  cases h2; exact wanted_none h1 _
 have guard : ∀ (c : KO) (b : Bool), (match o.guard with | some (j, b') => (b == b') && (match (ops[j]?).bind (·.dst) with | some t => Nat.ble (t + 1) n && c.ok P S (.tmp t) | none => false) | none => false) = true →
   wantV b (c.den en) = some t → Region.wanted o (yielded ops a.tmps) = t := by
  intro c b hg hw
  cases hgd : o.guard with
  | none => rw [hgd] at hg; cases hg
  | some g =>
   obtain ⟨j, b'⟩ := g
   rw [hgd] at hg
   simp only [Bool.and_eq_true, beq_iff_eq] at hg
   obtain ⟨rfl, hg⟩ := hg
   cases hj : (ops[j]?).bind (·.dst) with
   | none => rw [hj] at hg; cases hg
   | some u =>
    rw [hj] at hg
    simp only [Bool.and_eq_true, ble_tt] at hg
    have h1 := KO.ok_spec hg.2 n D e en a H w hr ha
    rcases wantV_spec hw with ⟨q, hc, rfl⟩ | ⟨hc, rfl⟩
    · rw [hc] at h1
      generalize hv : a.eval (.tmp u) = uv at h1
      cases h1
      have hy := yielded_of ha.size hj (by omega) hv
      unfold Region.wanted
      simp only [hgd, hy, bEq_eq]
      cases q <;> cases b <;> rfl
    · rw [hc] at h1
      generalize hv : a.eval (.tmp u) = uv at h1
      cases h1
      rename_i l' hl'
      have hun := hg.1
      cases hl'
      have hu : u < a.tmps.size := Nat.lt_of_lt_of_eq (Nat.lt_of_succ_le hun) ha.size.symm
      have hval : a.tmps[u]? = some (.tuple #[]) := by
       simp only [Act.eval, Array.getD_eq_getD_getElem?] at hv
       rw [Array.getElem?_eq_getElem hu] at hv ⊢
       simpa using hv
      unfold Region.wanted yielded
      simp only [hgd, hj, Option.bind_some, hval]
      rfl
 cases x with
 | l d k => simp only [KE.ok, Bool.and_eq_true] at h; exact plain h.1.2 ht
 | p d k => simp only [KE.ok, Bool.and_eq_true] at h; exact plain h.1.2 ht
 | n k => simp only [KE.ok, Bool.and_eq_true] at h; exact plain h.1.2 ht
 | gl c b d k => simp only [KE.ok, Bool.and_eq_true] at h; exact guard c b h.1.2 ht
 | gp c b d k => simp only [KE.ok, Bool.and_eq_true] at h; exact guard c b h.1.2 ht
 | gn c b k => simp only [KE.ok, Bool.and_eq_true] at h; exact guard c b h.1.2 ht
def KE.ros (x : KE) : List KO := (match x with | .gl c _ _ _ | .gp c _ _ _ | .gn c _ _ => [c] | _ => []) ++ x.op.opds
theorem KE.want_congr {x : KE} {en en2 : Env} (h : ∀ y ∈ x.ros, y.den en = y.den en2) : x.want en = x.want en2 := by
 cases x with
 | gl c b d k => show wantV b (c.den en) = wantV b (c.den en2); rw [h c (by simp [KE.ros])]
 | gp c b d k => show wantV b (c.den en) = wantV b (c.den en2); rw [h c (by simp [KE.ros])]
 | gn c b k => show wantV b (c.den en) = wantV b (c.den en2); rw [h c (by simp [KE.ros])]
 | _ => rfl
def KE.reads (S : BT Nat) (x : KE) : List Nat := x.ros.filterMap (KO.slot S)
end
end
end Go.Ab
namespace Go.Ab
open Go
noncomputable section
def dOne (S : BT Nat) (l : List KD) (d : KD) (o : Oper) (i : Nat) : Bool :=
 (o.after.toList.all fun e => !Region.binds .any e || Nat.ble (e.on + 1) i) &&
 (d.cl.all fun j => o.after.toList.any fun e => Region.binds .any e && (Nat.beq e.on j || (match l[e.on]? with | some d' => memN j d'.cl | none => false))) &&
 d.x.ros.all (KO.slotOk S) && (match d.cls with | .z => d.x.op.isZ | _ => true)
def dConf (i : Nat) (di : KD) (j : Nat) (dj : KD) : Bool :=
 match di.cls, dj.cls with
 | .z, _ => true
 | _, .z => true
 | .r, .r => true
 | .r, .w => memN i dj.cl || memN j di.us
 | .w, .r => memN i dj.cl || memN i dj.us
 | .w, .w => memN i dj.cl || (memN j di.us && memN i dj.us)
 | _, _ => memN i dj.cl
def dTmp (S : BT Nat) (i : Nat) (di : KD) (oi : Oper) (dj : KD) (oj : Oper) : Bool :=
 (match oi.dst with | some t => !memN t (dj.x.reads S) || memN i dj.cl | none => true) &&
 (match oj.dst with | some t => (!memN t (di.x.reads S) || memN i dj.cl) && (match oi.dst with | some t' => !Nat.beq t' t | none => true) | none => true)
def dchk (S : BT Nat) (ops : Array Oper) (l : List KD) : Bool :=
 (List.range l.length).all fun j => match l[j]?, ops.toList[j]? with
  | some dj, some oj => dOne S l dj oj j && (List.range j).all fun i => (match l[i]?, ops.toList[i]? with
   | some di, some oi => dConf i di j dj && dTmp S i di oi dj oj
   | _, _ => true)
  | _, _ => true
structure Plan (P : Program) (S : BT Nat) (n : Nat) (F : Fs) (ops : Array Oper) (l : List KD) (gs : List (List Nat)) (pn : Nat → Option AV) (E : Nat → Env) (Hf : Nat → AHeap) (Te : Nat → Nat → Prop) : Prop where
 len : l.length = ops.size
 tr : Trace F gs l gs pn E Hf Te
 ok : ∀ (i : Nat) (d : KD) (o : Oper), l[i]? = some d → ops[i]? = some o → d.x.ok P S n ops o = true
 one : ∀ (i : Nat) (d : KD) (o : Oper), l[i]? = some d → ops[i]? = some o → dOne S l d o i = true
 conf : ∀ (i j : Nat) (di dj : KD), i < j → l[i]? = some di → l[j]? = some dj → dConf i di j dj = true
 tmp : ∀ (i j : Nat) (di dj : KD) (oi oj : Oper), i < j → l[i]? = some di → l[j]? = some dj → ops[i]? = some oi → ops[j]? = some oj → dTmp S i di oi dj oj = true
theorem sameL_get {α β : Type} {f : α → β → Bool} : ∀ {l : List α} {m : List β}, sameL f l m = true → l.length = m.length ∧ ∀ (i : Nat) (a : α) (b : β), l[i]? = some a → m[i]? = some b → f a b = true
 | [], [], _ => ⟨rfl, fun i a b h => by simp at h⟩
 | a :: l, b :: m, h => by
  simp only [sameL, Bool.and_eq_true] at h
  obtain ⟨h1, h2⟩ := sameL_get h.2
  refine ⟨by simp [h1], fun i x y hx hy => ?_⟩
  cases i with
  | zero =>
   simp only [List.getElem?_cons_zero, Option.some.injEq] at hx hy
   subst hx; subst hy; exact h.1
  | succ i =>
   simp only [List.getElem?_cons_succ] at hx hy
   exact h2 i x y hx hy
 | [], _ :: _, h => by simp [sameL] at h
 | _ :: _, [], h => by simp [sameL] at h
section
variable {P : Program} {S : BT Nat} {n : Nat} {F : Fs} {ops : Array Oper} {l : List KD} {gs : List (List Nat)} {pn : Nat → Option AV} {E : Nat → Env} {Hf : Nat → AHeap} {Te : Nat → Nat → Prop}
theorem Plan.of {h1 : dchk S ops l = true} (h2 : sameL (KE.ok P S n ops) (l.map (·.x)) ops.toList = true) (ht : Trace F gs l gs pn E Hf Te) : Plan P S n F ops l gs pn E Hf Te := by
 obtain ⟨a, b⟩ := sameL_get h2
 have hlen : l.length = ops.size := by simpa using a
 have h1' : ∀ (j : Nat) (dj : KD) (oj : Oper), l[j]? = some dj → ops[j]? = some oj → dOne S l dj oj j = true ∧ ∀ (i : Nat) (di : KD) (oi : Oper), i < j → l[i]? = some di → ops[i]? = some oi → dConf i di j dj = true ∧ dTmp S i di oi dj oj = true := by
  intro j dj oj hj ho
  unfold dchk at h1
  rw [List.all_eq_true] at h1
  have hjl : j < l.length := by
   rcases Nat.lt_or_ge j l.length with h | h
   · exact h
   · rw [List.getElem?_eq_none h] at hj; cases hj
  have := h1 j (by simpa using hjl)
  rw [hj, show ops.toList[j]? = some oj by simpa using ho] at this
  simp only [Bool.and_eq_true, List.all_eq_true] at this
  refine ⟨this.1, fun i di oi hij hi hoi => ?_⟩
  have q := this.2 i (by simpa using hij)
  rw [hi, show ops.toList[i]? = some oi by simpa using hoi] at q
  simpa using q
 have hget : ∀ (i : Nat) (d : KD), l[i]? = some d → ∃ o, ops[i]? = some o := fun i d h => by
  have : i < l.length := by
   rcases Nat.lt_or_ge i l.length with h' | h'
   · exact h'
   · rw [List.getElem?_eq_none h'] at h; cases h
  exact ⟨ops[i], by simp [hlen ▸ this]⟩
 refine ⟨hlen, ht, fun i d o hd ho => b i d.x o (by simp [hd]) (by simpa using ho), fun i d o hd ho => (h1' i d o hd ho).1, fun i j di dj hij hi hj => ?_, fun i j di dj oi oj hij hi hj hoi hoj => ((h1' j dj oj hj hoj).2 i di oi hij hi hoi).2⟩
 obtain ⟨oi, hoi⟩ := hget i di hi
 obtain ⟨oj, hoj⟩ := hget j dj hj
 exact ((h1' j dj oj hj hoj).2 i di oi hij hi hoi).1
theorem Plan.getO (hp : Plan P S n F ops l gs pn E Hf Te) (i : Nat) (d : KD) (h : l[i]? = some d) : ∃ o, ops[i]? = some o := by
 have : i < l.length := by
  rcases Nat.lt_or_ge i l.length with h' | h'
  · exact h'
  · rw [List.getElem?_eq_none h'] at h; cases h
 exact ⟨ops[i]'(hp.len ▸ this), by simp [hp.len ▸ this]⟩
theorem Plan.getD' (hp : Plan P S n F ops l gs pn E Hf Te) (i : Nat) (h : i < ops.size) : ∃ d, l[i]? = some d := ⟨l[i]'(hp.len ▸ h), by simp [hp.len ▸ h]⟩
theorem Plan.stages (hp : Plan P S n F ops l gs pn E Hf Te) : Stages ops.size Hf Te := by
 have hm : ∀ j, j < ops.size → ∃ kk D Y Y', Mem kk D (Hf j) (Hf (j + 1)) (Te j) Y Y' := fun j hj => by
  obtain ⟨d, hd⟩ := hp.getD' j hj
  obtain ⟨wd, v, Y, Y', D', _, _, _, _, h, _⟩ := (hp.tr.stp j d hd).ex
  exact ⟨_, _, Y, Y', h⟩
 refine ⟨fun j hj => ?_, fun j hj => ?_, fun j b hj hT => ?_⟩ <;> obtain ⟨kk, D, Y, Y', h⟩ := hm j hj
 · have := h.n'; omega
 · exact h.l0
 · have hn := h.n'
   rcases Nat.lt_or_ge b (Hf j).nxt with hb | hb
   · exact h.g0 b hb fun q => hT (.inr q)
   · have hb2 : (Hf (j + 1)).nxt ≤ b := by
       rcases Nat.lt_or_ge b (Hf (j + 1)).nxt with q | q
       · exact absurd (.inl ⟨hb, q⟩) hT
       · exact q
     rw [AHeap.get_eq, AHeap.get_eq, if_neg (by omega), if_neg (by omega)]
def Closed (ops : Array Oper) (L : Nat → Bool) : Prop := ∀ (i : Nat) (o : Oper), L i = true → ops[i]? = some o → ∀ e ∈ o.after, Region.binds .any e = true → L e.on = true
theorem Plan.back (hp : Plan P S n F ops l gs pn E Hf Te) (i : Nat) (o : Oper) (ho : ops[i]? = some o) (e : Edge) (he : e ∈ o.after) (hb : Region.binds .any e = true) : e.on < i := by
 have hi : i < ops.size := (Array.getElem?_eq_some_iff.1 ho).1
 obtain ⟨d, hd⟩ := hp.getD' i hi
 have := hp.one i d o hd ho
 unfold dOne at this
 simp only [Bool.and_eq_true, List.all_eq_true] at this
 have h1 := this.1.1.1 e (by simpa using he)
 simp only [hb, Bool.not_true, Bool.false_or, ble_tt] at h1
 omega
theorem Plan.ahead (hp : Plan P S n F ops l gs pn E Hf Te) {L : Nat → Bool} (hc : Closed ops L) : ∀ (k i : Nat), i < k → ∀ (d : KD) (o : Oper), l[i]? = some d → ops[i]? = some o → (∀ e ∈ o.after, Region.binds .any e = true → L e.on = true) → ∀ j ∈ d.cl, L j = true
 | 0, i, h, _, _, _, _, _, _, _ => by omega
 | k + 1, i, hik, d, o, hd, ho, hr, j, hj => by
  have := hp.one i d o hd ho
  unfold dOne at this
  simp only [Bool.and_eq_true, List.all_eq_true, List.any_eq_true] at this
  obtain ⟨e, he, hb, hor⟩ := this.1.1.2 j hj
  have he' : e ∈ o.after := by simpa using he
  have hle := hr e he' hb
  rw [Bool.or_eq_true] at hor
  rcases hor with h | h
  · have := Nat.eq_of_beq_eq_true h
    rw [← this]; exact hle
  · cases hl : l[e.on]? with
    | none => rw [hl] at h; cases h
    | some d' =>
     rw [hl] at h
     dsimp only at h
     rw [memN_iff] at h
     obtain ⟨o', ho'⟩ := hp.getO e.on d' hl
     have := hp.back i o ho e he' hb
     exact Plan.ahead hp hc k e.on (by omega) d' o' hl ho' (fun e2 h2 hb2 => hc e.on o' hle ho' e2 h2 hb2) j h
theorem Plan.aheadL (hp : Plan P S n F ops l gs pn E Hf Te) {L : Nat → Bool} (hc : Closed ops L) {i : Nat} {d : KD} (hd : l[i]? = some d) (hL : L i = true) {j : Nat} (hj : j ∈ d.cl) : L j = true := by
 obtain ⟨o, ho⟩ := hp.getO i d hd
 exact hp.ahead hc (i + 1) i (by omega) d o hd ho (fun e he hb => hc i o hL ho e he hb) j hj
theorem Plan.z_none (hp : Plan P S n F ops l gs pn E Hf Te) {j : Nat} {d : KD} (hd : l[j]? = some d) (hz : d.cls = .z) (b : Nat) : ¬ Tou Hf Te j b := by
 obtain ⟨h1, h2⟩ := (hp.tr.stp j d hd).cz hz
 rintro (⟨q1, q2⟩ | q)
 · omega
 · exact h1 b q
theorem gs_mem {j b : Nat} (h : b ∈ (gs[j]?).getD []) {us : List Nat} (hj : j ∈ us) : b ∈ deadsOf gs us := by
 cases hg : gs[j]? with
 | none => rw [hg] at h; cases h
 | some g => rw [hg] at h; exact mem_deadsOf hg h hj
variable {L : Nat → Bool} {e0 e : Emb} {w0 w : World} {G : Nat}
theorem Plan.shown (hp : Plan P S n F ops l gs pn E Hf Te) (hI : Inv G ops.size Hf Te e0 w0 L e w) (hc : Closed ops L) {i : Nat} {d : KD} {o : Oper} (hd : l[i]? = some d) (ho : ops[i]? = some o) (hL : L i = false) (hr : ∀ e ∈ o.after, Region.binds .any e = true → L e.on = true)
  {D : List Nat} {kk : Prop} {Y Y' : AHeap} (hm : Mem kk D (Hf i) (Hf (i + 1)) (Te i) Y Y') (hD : d.cls = .r → D = deadsOf gs d.us ∨ ∀ b, b < (Hf i).nxt → Y.get b = some .dead) (hz : d.cls = .z → ∀ b, b < (Hf i).nxt → Y.get b = some .dead) (hwy : d.cls = .w → D = deadsOf gs d.us ∨ ∀ b, b < (Hf i).nxt → Y.get b = some .dead) :
  Shown ops.size Hf Te L e i Y := by
 have hs := hp.stages
 have hi : i < ops.size := (Array.getElem?_eq_some_iff.1 ho).1
 have hcl : ∀ j ∈ d.cl, L j = true := hp.ahead hc (i + 1) i (by omega) d o hd ho hr
 intro b hb hor hdead
 have hYb : Y.get b = (Hf i).get b ∧ b ∉ D := by
  rcases hdead with h | h
  · exact (hm.yb b hb).resolve_left h
  · exact (hm.te b h).2
 have hnz : d.cls ≠ .z := fun hcz => by
  rcases hdead with h | h
  · exact h (hz hcz b hb)
  · exact ((hp.tr.stp i d hd).cz hcz).1 b h
 have hDr : d.cls = .r → b ∉ deadsOf gs d.us := fun hcr => by
  rcases hD hcr with h | h
  · rw [← h]; exact hYb.2
  · rcases hdead with q | q
    · exact absurd (h b hb) q
    · exact absurd q (((hp.tr.stp i d hd).cr hcr).1 b)
 have hDw : d.cls = .w → b ∉ deadsOf gs d.us := fun hcw => by
  rcases hwy hcw with h | h
  · rw [← h]; exact hYb.2
  · rcases hdead with q | q
    · exact absurd (h b hb) q
    · exact (((hp.tr.stp i d hd).cw hcw).1 b q).2
 have h1 : ∀ j, i ≤ j → j < ops.size → ¬ (L j = true ∧ Tou Hf Te j b) := by
  rintro j hij hj ⟨hLj, hT⟩
  have hne : i ≠ j := by rintro rfl; rw [hL] at hLj; cases hLj
  obtain ⟨dj, hdj⟩ := hp.getD' j hj
  have hnn := hs.nxt hij (Nat.le_of_lt hj)
  have hTe : Te j b := by
   rcases hT with ⟨q, _⟩ | q
   · omega
   · exact q
  have hno : i ∉ dj.cl := fun h => by
   have := hp.aheadL hc hdj hLj h
   rw [hL] at this; cases this
  have hcf := hp.conf i j d dj (by omega) hd hdj
  unfold dConf at hcf
  cases hcj : dj.cls with
  | z => exact hp.z_none hdj hcj b hT
  | r => exact ((hp.tr.stp j dj hdj).cr hcj).1 b hTe
  | w =>
   have hg := (((hp.tr.stp j dj hdj).cw hcj).1 b hTe).1
   cases hci : d.cls with
   | z => exact hnz hci
   | r =>
    rw [hci, hcj] at hcf
    simp only [Bool.or_eq_true, memN_iff] at hcf
    rcases hcf with q | q
    · exact hno q
    · exact hDr hci (gs_mem hg q)
   | w =>
    rw [hci, hcj] at hcf
    simp only [Bool.or_eq_true, Bool.and_eq_true, memN_iff] at hcf
    rcases hcf with q | q
    · exact hno q
    · exact hDw hci (gs_mem hg q.1)
   | k => rw [hci, hcj] at hcf; rw [memN_iff] at hcf; exact hno hcf
  | k =>
   cases hci : d.cls with
   | z => exact hnz hci
   | r => rw [hci, hcj] at hcf; rw [memN_iff] at hcf; exact hno hcf
   | w => rw [hci, hcj] at hcf; rw [memN_iff] at hcf; exact hno hcf
   | k => rw [hci, hcj] at hcf; rw [memN_iff] at hcf; exact hno hcf
 have h2 : ∀ j, j < i → Tou Hf Te j b → L j = true := by
  intro j hji hT
  obtain ⟨dj, hdj⟩ := hp.getD' j (by omega)
  rcases hT with ⟨q1, q2⟩ | hTe
  · rcases hor with h | ⟨k, hk⟩
    · have := hs.nxt (Nat.zero_le j) (by omega : j ≤ ops.size); omega
    · rcases hI.own b k hk with ⟨h, _⟩ | ⟨j', hj', hLj', p1, p2⟩
      · have := hs.nxt (Nat.zero_le j) (by omega : j ≤ ops.size); omega
      · have : j' = j := by
          rcases Nat.lt_trichotomy j' j with h | h | h
          · have := hs.nxt (i := j' + 1) (k := j) (by omega) (by omega); omega
          · exact h
          · have := hs.nxt (i := j + 1) (k := j') (by omega) (by omega); omega
        subst this; exact hLj'
  · have hcf := hp.conf j i dj d hji hdj hd
    unfold dConf at hcf
    cases hcj : dj.cls with
    | z => exact absurd (.inr hTe) (hp.z_none hdj hcj b)
    | r => exact absurd hTe (((hp.tr.stp j dj hdj).cr hcj).1 b)
    | w =>
     have hg := (((hp.tr.stp j dj hdj).cw hcj).1 b hTe).1
     cases hci : d.cls with
     | z => exact absurd hci hnz
     | r =>
      rw [hci, hcj] at hcf
      simp only [Bool.or_eq_true, memN_iff] at hcf
      rcases hcf with q | q
      · exact hcl j q
      · exact absurd (gs_mem hg q) (hDr hci)
     | w =>
      rw [hci, hcj] at hcf
      simp only [Bool.or_eq_true, Bool.and_eq_true, memN_iff] at hcf
      rcases hcf with q | q
      · exact hcl j q
      · exact absurd (gs_mem hg q.2) (hDw hci)
     | k => rw [hci, hcj] at hcf; rw [memN_iff] at hcf; exact hcl j hcf
    | k =>
     cases hci : d.cls with
     | z => exact absurd hci hnz
     | r => rw [hci, hcj] at hcf; rw [memN_iff] at hcf; exact hcl j hcf
     | w => rw [hci, hcj] at hcf; rw [memN_iff] at hcf; exact hcl j hcf
     | k => rw [hci, hcj] at hcf; rw [memN_iff] at hcf; exact hcl j hcf
 have hx := ix_cut (Nat.le_of_lt hi) h1
 rw [hx, hYb.1]
 exact ⟨ix_all (fun j hj => hs.same j b hj) (Nat.le_of_lt hi) h2, hs.nxt (ix_le i b) (Nat.le_of_lt hi)⟩
theorem Plan.later (hp : Plan P S n F ops l gs pn E Hf Te) (hc : Closed ops L) {i : Nat} {d : KD} (hd : l[i]? = some d) (hL : L i = false) (j b : Nat) (hij : i < j) (hj : j < ops.size) (hTi : Tou Hf Te i b) : ¬ (L j = true ∧ Tou Hf Te j b) := by
 rintro ⟨hLj, hT⟩
 have hs := hp.stages
 obtain ⟨dj, hdj⟩ := hp.getD' j hj
 obtain ⟨wd, v, Y, Y', D', _, _, _, _, hm, _⟩ := (hp.tr.stp i d hd).ex
 have hbi : b < (Hf (i + 1)).nxt := by
  rcases hTi with q | q
  · exact q.2
  · have := (hm.te b q).1
    have := hs.mono i (by omega)
    omega
 have hnn := hs.nxt (i := i + 1) (k := j) (by omega) (Nat.le_of_lt hj)
 have hTe : Te j b := by
  rcases hT with ⟨q, _⟩ | q
  · omega
  · exact q
 have hno : i ∉ dj.cl := fun h => by
  have := hp.aheadL hc hdj hLj h
  rw [hL] at this; cases this
 have hnz : d.cls ≠ .z := fun h => hp.z_none hd h b hTi
 have hcf := hp.conf i j d dj hij hd hdj
 unfold dConf at hcf
 cases hcj : dj.cls with
 | z => exact hp.z_none hdj hcj b hT
 | r => exact ((hp.tr.stp j dj hdj).cr hcj).1 b hTe
 | w =>
  have hg := (((hp.tr.stp j dj hdj).cw hcj).1 b hTe).1
  cases hci : d.cls with
  | z => exact hnz hci
  | r =>
   rw [hci, hcj] at hcf
   simp only [Bool.or_eq_true, memN_iff] at hcf
   rcases hcf with q | q
   · exact hno q
   · obtain ⟨r1, r2⟩ := (hp.tr.stp i d hd).cr hci
     rcases hTi with ⟨p1, p2⟩ | p
     · rcases r2 b (gs_mem hg q) with r | r <;> omega
     · exact r1 b p
  | w =>
   rw [hci, hcj] at hcf
   simp only [Bool.or_eq_true, Bool.and_eq_true, memN_iff] at hcf
   rcases hcf with q | q
   · exact hno q
   · obtain ⟨r1, r2⟩ := (hp.tr.stp i d hd).cw hci
     rcases hTi with ⟨p1, p2⟩ | p
     · rcases r2 b (gs_mem hg q.1) with r | r <;> omega
     · exact (r1 b p).2 (gs_mem hg q.1)
  | k => rw [hci, hcj] at hcf; rw [memN_iff] at hcf; exact hno hcf
 | k =>
  cases hci : d.cls with
  | z => exact hnz hci
  | r => rw [hci, hcj] at hcf; rw [memN_iff] at hcf; exact hno hcf
  | w => rw [hci, hcj] at hcf; rw [memN_iff] at hcf; exact hno hcf
  | k => rw [hci, hcj] at hcf; rw [memN_iff] at hcf; exact hno hcf
theorem Plan.kAll (hp : Plan P S n F ops l gs pn E Hf Te) (hI : Inv G ops.size Hf Te e0 w0 L e w) (hc : Closed ops L) {i : Nat} {d : KD} (hd : l[i]? = some d) (hi : i < ops.size) (hL : L i = false) (hk : d.cls = .k) (b : Nat) (k : Info) (hb : e b = some k) : b < (Hf i).nxt := by
 have hs := hp.stages
 rcases hI.own b k hb with ⟨h, _⟩ | ⟨j, hj, hLj, h1, h2⟩
 · have := hs.nxt (Nat.zero_le i) (Nat.le_of_lt hi); omega
 · rcases Nat.lt_trichotomy j i with h | h | h
   · have := hs.nxt (i := j + 1) (k := i) (by omega) (by omega); omega
   · subst h; rw [hL] at hLj; cases hLj
   · exfalso
     obtain ⟨dj, hdj⟩ := hp.getD' j hj
     have hno : i ∉ dj.cl := fun h => by
      have := hp.aheadL hc hdj hLj h
      rw [hL] at this; cases this
     have hcf := hp.conf i j d dj h hd hdj
     unfold dConf at hcf
     rw [hk] at hcf
     cases hcj : dj.cls with
     | z => exact hp.z_none hdj hcj b (.inl ⟨h1, h2⟩)
     | r => rw [hcj] at hcf; rw [memN_iff] at hcf; exact hno hcf
     | w => rw [hcj] at hcf; rw [memN_iff] at hcf; exact hno hcf
     | k => rw [hcj] at hcf; rw [memN_iff] at hcf; exact hno hcf
end
end
end Go.Ab
