/- Regions that draw their order (1): an operation looks at its operands only; some look at no memory. -/
import Derived.Test.YtfhaailmhaamfaaGreatDoorAbC
namespace Go.Ab
open Go
noncomputable section

def KO.opt (x : Option KO) : List KO := match x with | some x => [x] | none => []
/-- The operands of an operation. -/
def KOp.opds : KOp → List KO
  | .move x | .load1 x | .loadN _ x | .box x | .fa _ x | .nilc x | .ext _ x | .fld1 _ x | .fldN _ _ x | .ifc _ x | .un _ x | .len _ x | .cap _ x | .pan x | .b2s x => [x]
  | .pick c x y => [c, x, y]
  | .mn _ _ _ x y => [x, y]
  | .store _ x y | .ia _ x y | .iaA _ _ x y | .bin _ _ _ _ x y | .sh _ _ _ _ _ x y | .str _ x y | .idxS x y | .binB _ x y | .eqC _ _ x y | .eqR _ _ x y | .app _ _ x y | .mks _ _ x y | .appZ _ _ _ x y | .look _ _ _ x y => [x, y]
  | .alloc _ | .mkm | .unk => []
  | .build _ ps | .bslice _ _ ps => ps.map fun p => p.2.2
  | .mkf _ xs ys => xs ++ ys
  | .sl _ x lo hi mx | .slA _ _ x lo hi mx => x :: (KO.opt lo ++ (KO.opt hi ++ KO.opt mx))
  | .slS x lo hi => x :: (KO.opt lo ++ KO.opt hi)
  | .mapu _ x y z => [x, y, z]
  | .call _ xs => xs
  | .callv x xs => x :: xs

theorem evalL_congr {en en2 : Env} : ∀ (xs : List KO), (∀ x ∈ xs, x.den en = x.den en2) → evalL (KO.dens xs) en = evalL (KO.dens xs) en2
  | [], _ => rfl
  | x :: xs, h => by
    show x.den en :: evalL (KO.dens xs) en = x.den en2 :: evalL (KO.dens xs) en2
    rw [h x (by simp), evalL_congr xs fun y hy => h y (List.mem_cons_of_mem _ hy)]
theorem evalPs_congr {en en2 : Env} : ∀ (ps : List (Nat × Nat × KO)), (∀ p ∈ ps, p.2.2.den en = p.2.2.den en2) → evalPs (KO.denP ps) en = evalPs (KO.denP ps) en2
  | [], _ => rfl
  | p :: ps, h => by
    show (p.1, p.2.1, p.2.2.den en) :: evalPs (KO.denP ps) en = (p.1, p.2.1, p.2.2.den en2) :: evalPs (KO.denP ps) en2
    rw [h p (by simp), evalPs_congr ps fun y hy => h y (List.mem_cons_of_mem _ hy)]
theorem bd_congr {en en2 : Env} (d : Nat) : ∀ (x : Option KO), (∀ y ∈ KO.opt x, y.den en = y.den en2) → bd d (KO.denO x) en = bd d (KO.denO x) en2
  | none, _ => rfl
  | some x, h => by
    show natOf (x.den en) = natOf (x.den en2)
    rw [h x (by simp [KO.opt])]

theorem KOp.den_congr {F : Fs} {en en2 : Env} (H : AHeap) : ∀ (k : KOp), (∀ x ∈ k.opds, x.den en = x.den en2) → k.den F en H = k.den F en2 H := by
  intro k h
  cases k with
  | move x => show opMove _ _ _ = opMove _ _ _; unfold opMove; rw [h x (by simp [KOp.opds])]
  | pick c x y => show opPick _ _ _ _ _ = opPick _ _ _ _ _; unfold opPick; rw [h c (by simp [KOp.opds]), h x (by simp [KOp.opds]), h y (by simp [KOp.opds])]
  | load1 x => show opLoad1 _ _ _ = opLoad1 _ _ _; unfold opLoad1; rw [h x (by simp [KOp.opds])]
  | loadN n x => show opLoadN _ _ _ _ = opLoadN _ _ _ _; unfold opLoadN; rw [h x (by simp [KOp.opds])]
  | store n x y => show opStore _ _ _ _ _ = opStore _ _ _ _ _; unfold opStore; rw [h x (by simp [KOp.opds]), h y (by simp [KOp.opds])]
  | alloc Z => rfl
  | box x => show opBox _ _ _ = opBox _ _ _; unfold opBox; rw [h x (by simp [KOp.opds])]
  | build Z ps =>
    show opBuild _ _ _ _ = opBuild _ _ _ _; unfold opBuild
    rw [evalPs_congr ps fun p hp => h p.2.2 (by simp only [KOp.opds, List.mem_map]; exact ⟨p, hp, rfl⟩)]
  | bslice n len ps =>
    show opBuildSlice _ _ _ _ _ = opBuildSlice _ _ _ _ _; unfold opBuildSlice
    rw [evalPs_congr ps fun p hp => h p.2.2 (by simp only [KOp.opds, List.mem_map]; exact ⟨p, hp, rfl⟩)]
  | fa off x => show opFieldAddr _ _ _ _ = opFieldAddr _ _ _ _; unfold opFieldAddr; rw [h x (by simp [KOp.opds])]
  | nilc x => show opNilCheck _ _ _ = opNilCheck _ _ _; unfold opNilCheck; rw [h x (by simp [KOp.opds])]
  | ia sz x y => show opIndexAddr _ _ _ _ _ = opIndexAddr _ _ _ _ _; unfold opIndexAddr; rw [h x (by simp [KOp.opds]), h y (by simp [KOp.opds])]
  | iaA len sz x y => show opIndexAddrA _ _ _ _ _ _ = opIndexAddrA _ _ _ _ _ _; unfold opIndexAddrA; rw [h x (by simp [KOp.opds]), h y (by simp [KOp.opds])]
  | ext k x => show opExtract _ _ _ _ = opExtract _ _ _ _; unfold opExtract; rw [h x (by simp [KOp.opds])]
  | fld1 off x => show opField1 _ _ _ _ = opField1 _ _ _ _; unfold opField1; rw [h x (by simp [KOp.opds])]
  | fldN off n x => show opFieldN _ _ _ _ _ = opFieldN _ _ _ _ _; unfold opFieldN; rw [h x (by simp [KOp.opds])]
  | ifc t x => show opMakeInterface _ _ _ _ = opMakeInterface _ _ _ _; unfold opMakeInterface; rw [h x (by simp [KOp.opds])]
  | mkf f xs ys =>
    show opMakeFunc _ _ _ _ _ = opMakeFunc _ _ _ _ _; unfold opMakeFunc
    rw [evalL_congr xs fun x hx => h x (by simp [KOp.opds, hx]), evalL_congr ys fun x hx => h x (by simp [KOp.opds, hx])]
  | mkm => rfl
  | sl sz x lo hi mx =>
    show opSlice _ _ _ _ _ _ _ = opSlice _ _ _ _ _ _ _; unfold opSlice
    rw [h x (by simp [KOp.opds])]
    simp only [bd_congr _ lo fun y hy => h y (by simp [KOp.opds, hy]), bd_congr _ hi fun y hy => h y (by simp [KOp.opds, hy]), bd_congr _ mx fun y hy => h y (by simp [KOp.opds, hy])]
  | slA n sz x lo hi mx =>
    show opSliceA _ _ _ _ _ _ _ _ = opSliceA _ _ _ _ _ _ _ _; unfold opSliceA
    rw [h x (by simp [KOp.opds])]
    simp only [bd_congr _ lo fun y hy => h y (by simp [KOp.opds, hy]), bd_congr _ hi fun y hy => h y (by simp [KOp.opds, hy]), bd_congr _ mx fun y hy => h y (by simp [KOp.opds, hy])]
  | bin b k M hf x y => show opBinG _ _ _ _ _ _ _ = opBinG _ _ _ _ _ _ _; unfold opBinG opBinR; rw [h x (by simp [KOp.opds]), h y (by simp [KOp.opds])]
  | sh b k M hf bits x y => show opShift _ _ _ _ _ _ = opShift _ _ _ _ _ _; unfold opShift; rw [h x (by simp [KOp.opds]), h y (by simp [KOp.opds])]
  | un u x => show opUn _ _ _ _ = opUn _ _ _ _; unfold opUn; rw [h x (by simp [KOp.opds])]
  | str b x y => show opBinS _ _ _ _ _ = opBinS _ _ _ _ _; unfold opBinS; rw [h x (by simp [KOp.opds]), h y (by simp [KOp.opds])]
  | idxS x y => show opIndexS _ _ _ _ = opIndexS _ _ _ _; unfold opIndexS; rw [h x (by simp [KOp.opds]), h y (by simp [KOp.opds])]
  | slS x lo hi =>
    show opSliceS _ _ _ _ _ = opSliceS _ _ _ _ _; unfold opSliceS
    rw [h x (by simp [KOp.opds])]
    simp only [bd_congr _ lo fun y hy => h y (by simp [KOp.opds, hy]), bd_congr _ hi fun y hy => h y (by simp [KOp.opds, hy])]
  | binB ne x y => show opBinB _ _ _ _ _ = opBinB _ _ _ _ _; unfold opBinB; rw [h x (by simp [KOp.opds]), h y (by simp [KOp.opds])]
  | eqC ks ne x y => show opEqC _ _ _ _ _ _ = opEqC _ _ _ _ _ _; unfold opEqC; rw [h x (by simp [KOp.opds]), h y (by simp [KOp.opds])]
  | eqR k ne x y => show opEqR _ _ _ _ _ _ = opEqR _ _ _ _ _ _; unfold opEqR; rw [h x (by simp [KOp.opds]), h y (by simp [KOp.opds])]
  | app sz bytes x y => show opAppendF _ _ _ _ _ _ = opAppendF _ _ _ _ _ _; unfold opAppendF opAppend; rw [h x (by simp [KOp.opds]), h y (by simp [KOp.opds])]
  | len k x => show opLen _ _ _ _ = opLen _ _ _ _; unfold opLen; rw [h x (by simp [KOp.opds])]
  | cap sz x => show opCap _ _ _ _ = opCap _ _ _ _; unfold opCap; rw [h x (by simp [KOp.opds])]
  | mks bytes Z x y => show opMakeSlice _ _ _ _ _ _ = opMakeSlice _ _ _ _ _ _; unfold opMakeSlice; rw [h x (by simp [KOp.opds]), h y (by simp [KOp.opds])]
  | appZ bytes sz Z x y => show opAppendZ _ _ _ _ _ _ _ = opAppendZ _ _ _ _ _ _ _; unfold opAppendZ; rw [h x (by simp [KOp.opds]), h y (by simp [KOp.opds])]
  | look c Z ok x y => show opLookup _ _ _ _ _ _ _ _ = opLookup _ _ _ _ _ _ _ _; unfold opLookup; rw [h x (by simp [KOp.opds]), h y (by simp [KOp.opds])]
  | mapu c x y z => show opMapUpdate _ _ _ _ _ _ _ = opMapUpdate _ _ _ _ _ _ _; unfold opMapUpdate; rw [h x (by simp [KOp.opds]), h y (by simp [KOp.opds]), h z (by simp [KOp.opds])]
  | pan x => show opPan _ _ _ = opPan _ _ _; unfold opPan; rw [h x (by simp [KOp.opds])]
  | call f xs => show F f (evalL (KO.dens xs) en) H = F f (evalL (KO.dens xs) en2) H; rw [evalL_congr xs fun x hx => h x (by simp [KOp.opds, hx])]
  | callv x xs =>
    show callV F (x.den en) (evalL (KO.dens xs) en) H = callV F (x.den en2) (evalL (KO.dens xs) en2) H
    rw [h x (by simp [KOp.opds]), evalL_congr xs fun y hy => h y (by simp [KOp.opds, hy])]
  | mn k M hf x y => show opBinI _ _ _ _ _ _ = opBinI _ _ _ _ _ _; unfold opBinI; rw [h x (by simp [KOp.opds]), h y (by simp [KOp.opds])]
  | unk => rfl
  | b2s x => show opB2S _ _ _ = opB2S _ _ _; unfold opB2S; rw [h x (by simp [KOp.opds])]
end
end Go.Ab
