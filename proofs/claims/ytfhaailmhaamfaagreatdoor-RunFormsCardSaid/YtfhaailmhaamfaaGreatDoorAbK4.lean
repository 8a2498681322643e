/- The check of one operation is sound. -/
import Derived.Test.YtfhaailmhaamfaaGreatDoorAbK3
namespace Go.Ab
open Go
noncomputable section
variable {S : BT Nat}

theorem callB_snd {P : Program} {o : Oper} {f : KO} {xs : List KO} (h : callB P S o f xs = true) : ∃ g args argTypes, o.op = .call { callee := .value g, args, argTypes } ∧ OpndOk P S g f.den ∧ OpndsOk P S args.toList (KO.dens xs) := by
  unfold callB at h
  split at h
  · rename_i g args at' heq
    simp only [Bool.and_eq_true] at h
    exact ⟨g, args, at', heq, KO.ok_spec h.1, KO.oks_spec h.2⟩
  · cases h

theorem call_op_snd {P : Program} {F : Fs} (hF : FsOk P F) {o : Oper} {f : KO} {xs : List KO} (h : callB P S o f xs = true) (en : Env) (H : AHeap) {n : Nat} {A C : List AV} (hf : f.den en = .x (.fn n A C)) :
    OSnd P S o en H (F n (A ++ (evalL (KO.dens xs) en ++ C)) H) := by
  obtain ⟨g, args, argTypes, ho, hg, hxs⟩ := callB_snd h
  refine call_snd _ (hF n _ H) fun N D e w a hr ha => ?_
  have h1 := hg N D e en a H w hr ha
  rw [hf] at h1
  generalize hgv : a.eval g = gv at h1
  cases h1
  rename_i A' C' hA hC
  have h2 := hxs.rel hr ha
  refine ⟨A' ++ (args.toList.map a.eval ++ C'), hA.append (h2.append hC), ?_⟩
  rw [exec_call ho a.eval hgv w]
  congr 2
  apply Array.ext'
  simp

theorem KOp.ok_snd {P : Program} {F : Fs} (hF : FsOk P F) {o : Oper} : ∀ {k : KOp}, k.ok P S o = true → ∀ (en : Env) (H : AHeap), OSnd P S o en H (k.den F en H) := by
  intro k h en H
  cases k with
  | move x =>
    simp only [KOp.ok] at h
    split at h
    · exact opMove_snd (.inl ‹_›) (KO.ok_spec h) en H
    · exact opMove_snd (.inr ‹_›) (KO.ok_spec h) en H
    · cases h
  | pick c x y =>
    simp only [KOp.ok] at h
    split at h
    · simp only [Bool.and_eq_true] at h
      exact opPick_snd ‹_› (KO.ok_spec h.1.1) (KO.ok_spec h.1.2) (KO.ok_spec h.2) en H
    · cases h
  | load1 x =>
    simp only [KOp.ok] at h
    split at h
    · simp only [Bool.and_eq_true, decide_eq_true_eq] at h
      exact opLoad1_snd ‹_› h.1 (KO.ok_spec h.2) en H
    · cases h
  | loadN n x =>
    simp only [KOp.ok] at h
    split at h
    · simp only [Bool.and_eq_true, decide_eq_true_eq] at h
      exact opLoadN_snd ‹_› h.1 (KO.ok_spec h.2) en H
    · cases h
  | store n x y =>
    simp only [KOp.ok] at h
    split at h
    · simp only [Bool.and_eq_true, decide_eq_true_eq] at h
      exact opStore_snd ‹_› h.1.1 (KO.ok_spec h.1.2) (KO.ok_spec h.2) en H
    · cases h
  | alloc Z =>
    simp only [KOp.ok] at h
    split at h
    · obtain ⟨zv, h1, h2⟩ := zeroB_spec h
      exact opAlloc_snd ‹_› h1 h2 en H
    · cases h
  | box x =>
    simp only [KOp.ok] at h
    split at h
    · exact opBox_snd ‹_› (KO.ok_spec h) en H
    · cases h
  | build Z ps =>
    simp only [KOp.ok] at h
    split at h
    · simp only [Bool.and_eq_true, Bool.or_eq_true] at h
      obtain ⟨zv, h1, h2⟩ := zeroB_spec h.1.1
      rcases h.1.2 with h3 | h3
      · exact opBuild_struct_snd ‹_› h1 h2 h3 (KO.okPs_spec h.2) en H
      · exact opBuild_array_snd ‹_› h1 h2 h3 (KO.okPs_spec h.2) en H
    · cases h
  | bslice n ln ps =>
    simp only [KOp.ok] at h
    split at h
    · rename_i t len' parts ho
      split at h
      · rename_i el hel
        split at h
        · rename_i sz hsz
          simp only [Bool.and_eq_true, ble_tt, beq_tt] at h
          obtain ⟨⟨⟨⟨h1, h2⟩, h3⟩, h4⟩, h5⟩ := h
          subst h2
          exact opBuildSlice_snd ho (elemOf_spec hel) hsz h1 h3 h4 (KO.okPs_spec h5) en H
        · cases h
      · cases h
    · cases h
  | fa off x =>
    simp only [KOp.ok] at h
    split at h
    · simp only [Bool.and_eq_true, decide_eq_true_eq] at h
      exact opFieldAddr_snd ‹_› h.1 (KO.ok_spec h.2) en H
    · cases h
  | nilc x =>
    simp only [KOp.ok] at h
    split at h
    · exact opNilCheck_snd ‹_› (KO.ok_spec h) en H
    · cases h
  | ia sz x y =>
    simp only [KOp.ok] at h
    split at h
    · split at h
      · rename_i el hel
        simp only [Bool.and_eq_true, decide_eq_true_eq] at h
        exact opIndexAddr_snd ‹_› (elemOf_spec hel) h.1.1 (KO.ok_spec h.1.2) (KO.ok_spec h.2) en H
      · cases h
    · cases h
  | iaA ln sz x y =>
    simp only [KOp.ok] at h
    split at h
    · split at h
      · rename_i n el hel
        simp only [Bool.and_eq_true, decide_eq_true_eq, beq_tt] at h
        obtain ⟨⟨⟨h1, h2⟩, h3⟩, h4⟩ := h
        subst h1
        exact opIndexAddrA_snd ‹_› (arrOf_spec hel) h2 (KO.ok_spec h3) (KO.ok_spec h4) en H
      · cases h
    · cases h
  | ext k x =>
    simp only [KOp.ok] at h
    split at h
    · simp only [Bool.and_eq_true, beq_tt] at h
      obtain ⟨h1, h2⟩ := h
      subst h1
      exact opExtract_snd ‹_› (KO.ok_spec h2) en H
    · cases h
  | fld1 off x =>
    simp only [KOp.ok] at h
    split at h
    · split at h
      · rename_i off' ft hf
        simp only [Bool.and_eq_true, decide_eq_true_eq, beq_tt] at h
        obtain ⟨⟨h1, h2⟩, h3⟩ := h
        subst h1
        exact opField1_snd ‹_› hf h2 (KO.ok_spec h3) en H
      · cases h
    · cases h
  | fldN off n x =>
    simp only [KOp.ok] at h
    split at h
    · split at h
      · rename_i off' ft hf
        simp only [Bool.and_eq_true, decide_eq_true_eq, beq_tt] at h
        obtain ⟨⟨h1, h2⟩, h3⟩ := h
        subst h1
        exact opFieldN_snd ‹_› hf h2 (KO.ok_spec h3) en H
      · cases h
    · cases h
  | ifc t x =>
    simp only [KOp.ok] at h
    split at h
    · simp only [Bool.and_eq_true, decide_eq_true_eq, beq_tt] at h
      obtain ⟨⟨h1, h2⟩, h3⟩ := h
      subst h1
      exact opMakeInterface_snd ‹_› h2 (KO.ok_spec h3) en H
    · cases h
  | mkf f xs ys =>
    simp only [KOp.ok] at h
    split at h
    · simp only [Bool.and_eq_true, beq_tt] at h
      obtain ⟨⟨h1, h2⟩, h3⟩ := h
      subst h1
      exact opMakeFunc_snd ‹_› (KO.oks_spec h2) (KO.oks_spec h3) en H
    · cases h
  | mkm =>
    simp only [KOp.ok] at h
    split at h
    · exact opMakeMap_snd ‹_› en H
    · cases h
  | sl sz x lo hi mx =>
    simp only [KOp.ok] at h
    split at h
    · rename_i t x' lo' hi' mx' ho
      split at h
      · rename_i el hel
        simp only [Bool.and_eq_true, decide_eq_true_eq] at h
        obtain ⟨⟨⟨⟨⟨h1, h2⟩, h3⟩, h4⟩, h5⟩, h6⟩ := h
        refine opSlice_snd ho (elemOf_spec hel) h1 (KO.ok_spec h2) (KO.okO_spec h3) (KO.okO_spec h4) (KO.okO_spec h5) ?_ en H
        intro hm hh
        subst hh
        cases mx' with
        | none => exact hm rfl
        | some m => simp at h6
      · cases h
    · cases h
  | slA n sz x lo hi mx =>
    simp only [KOp.ok] at h
    split at h
    · rename_i t x' lo' hi' mx' ho
      split at h
      · rename_i n' el hel
        simp only [Bool.and_eq_true, decide_eq_true_eq, beq_tt] at h
        obtain ⟨⟨⟨⟨⟨⟨h0, h1⟩, h2⟩, h3⟩, h4⟩, h5⟩, h6⟩ := h
        subst h0
        refine opSliceA_snd ho (arrOf_spec hel) h1 (KO.ok_spec h2) (KO.okO_spec h3) (KO.okO_spec h4) (KO.okO_spec h5) ?_ en H
        intro hm hh
        subst hh
        cases mx' with
        | none => exact hm rfl
        | some m => simp at h6
      · cases h
    · cases h
  | bin b k M hf x y =>
    simp only [KOp.ok] at h
    split at h
    · simp only [Bool.and_eq_true] at h
      exact opBinG_snd ‹_› (KBin.okB_spec h.1.1) (KBin.okB_rng h.1.1) (KO.ok_spec h.1.2) (KO.ok_spec h.2) en H
    · cases h
  | sh b k M hf bits x y =>
    simp only [KOp.ok] at h
    split at h
    · simp only [Bool.and_eq_true] at h
      exact opShift_snd ‹_› (KSh.okB_spec h.1.1) (KO.ok_spec h.1.2) (KO.ok_spec h.2) en H
    · cases h
  | un u x =>
    cases u with
    | not =>
      simp only [KOp.ok] at h
      split at h
      · exact uNot_snd ‹_› (KO.ok_spec h) en H
      · cases h
    | neg k M =>
      simp only [KOp.ok] at h
      split at h
      · simp only [Bool.and_eq_true, ble_tt, beq_tt] at h
        exact uNegG_snd ‹_› (by omega) h.1.2 (KO.ok_spec h.2) en H
      · cases h
    | conv k M =>
      simp only [KOp.ok] at h
      split at h
      · simp only [Bool.and_eq_true, ble_tt, beq_tt, decide_eq_true_eq] at h
        obtain ⟨⟨⟨⟨h1, h2⟩, h3⟩, h4⟩, h5⟩ := h
        exact uConv_snd ‹_› (Option.isSome_iff_exists.1 h1) (intOf_spec h2) (by omega) h4 halfT_eq modT_eq (KO.ok_spec h5) en H
      · cases h
  | str b x y =>
    simp only [KOp.ok] at h
    split at h
    · rename_i op t x' y' t2 ho
      simp only [Bool.and_eq_true] at h
      obtain ⟨⟨h1, h2⟩, h3⟩ := h
      have hb : BinSOk P op t b.den := by
        revert h1
        cases b <;> cases op <;> intro h1 <;> first
          | (cases h1; done)
          | exact sCat_ok P t
          | exact sEq_ok P t
          | exact sNe_ok P t
          | exact sLt_ok P t
      exact opBinS_snd ho hb (KO.ok_spec h2) (KO.ok_spec h3) en H
    · cases h
  | idxS x y =>
    simp only [KOp.ok] at h
    split at h
    · simp only [Bool.and_eq_true] at h
      exact opIndexS_snd ‹_› (isStr_spec h.1.1) (KO.ok_spec h.1.2) (KO.ok_spec h.2) en H
    · cases h
  | slS x lo hi =>
    simp only [KOp.ok] at h
    split at h
    · simp only [Bool.and_eq_true] at h
      exact opSliceS_snd ‹_› (isStr_spec h.1.1.1) (KO.ok_spec h.1.1.2) (KO.okO_spec h.1.2) (KO.okO_spec h.2) en H
    · cases h
  | binB ne x y =>
    simp only [KOp.ok] at h
    split at h
    · simp only [Bool.and_eq_true] at h
      obtain ⟨⟨⟨h1, h2⟩, h3⟩, h4⟩ := h
      refine opBinB_snd ‹_› (isBool_spec h1) ?_ (KO.ok_spec h3) (KO.ok_spec h4) en H
      rcases eqB_spec h2 with ⟨rfl, rfl⟩ | ⟨rfl, rfl⟩
      · exact .inl ⟨rfl, rfl⟩
      · exact .inr ⟨rfl, rfl⟩
    · cases h
  | eqC ks ne x y =>
    simp only [KOp.ok] at h
    split at h
    · simp only [Bool.and_eq_true, decide_eq_true_eq, Bool.not_eq_true'] at h
      obtain ⟨⟨⟨⟨⟨h1, h2⟩, h3⟩, h4⟩, h5⟩, h6⟩ := h
      exact opEqC_snd ‹_› (eqB_spec h1) h2 h3 (by omega) h4 (KO.ok_spec h5) (KO.ok_spec h6) en H
    · cases h
  | eqR k ne x y =>
    simp only [KOp.ok] at h
    split at h
    · simp only [Bool.and_eq_true, decide_eq_true_eq] at h
      exact opEqR_snd ‹_› (eqB_spec h.1.1.1) h.1.1.2 (KO.ok_spec h.1.2) (KO.ok_spec h.2) en H
    · cases h
  | app sz bytes x y =>
    simp only [KOp.ok] at h
    split at h
    · simp only [Bool.and_eq_true, beq_tt] at h
      obtain ⟨⟨⟨h1, h2⟩, h3⟩, h4⟩ := h
      subst h1
      split at h2
      · rename_i el hel
        obtain ⟨i, z, q1, q2, q3, q4, q5, q6, q7, _⟩ := elemB_spec h2
        exact opAppendF_snd ‹_› (elemOf_spec hel) q1 q4 q5 q2 q3 q6 q7 (KO.ok_spec h3) (KO.ok_spec h4) en H
      · cases h2
    · cases h
  | mn k M hf x y =>
    simp only [KOp.ok] at h
    split at h
    · simp only [Bool.and_eq_true, ble_tt, beq_tt] at h
      exact opMin_snd ‹_› (by omega) h.1.1.1.2 h.1.1.2 (KO.ok_spec h.1.2) (KO.ok_spec h.2) en H
    · cases h
  | len k x =>
    simp only [KOp.ok] at h
    split at h
    · simp only [Bool.and_eq_true, decide_eq_true_eq] at h
      exact opLen_snd ‹_› h.1 (KO.ok_spec h.2) en H
    · cases h
  | cap sz x =>
    simp only [KOp.ok] at h
    split at h
    · simp only [Bool.and_eq_true] at h
      obtain ⟨el, hel⟩ := Option.isSome_iff_exists.1 h.1
      exact opCap_snd ‹_› (elemOf_spec hel) (KO.ok_spec h.2) en H
    · cases h
  | mks bytes Z x y =>
    simp only [KOp.ok] at h
    split at h
    · simp only [Bool.and_eq_true] at h
      obtain ⟨⟨h2, h3⟩, h4⟩ := h
      split at h2
      · rename_i el hel
        obtain ⟨i, z, q1, q2, q3, q4, q5, q6, q7, q8⟩ := elemB_spec h2
        exact opMakeSlice_snd ‹_› (elemOf_spec hel) q1 q2 q5 q7 (q4.trans q3.symm) (by omega) (q8 Z rfl) (KO.ok_spec h3) (KO.ok_spec h4) en H
      · cases h2
    · cases h
  | appZ bytes sz Z x y =>
    simp only [KOp.ok] at h
    split at h
    · simp only [Bool.and_eq_true] at h
      obtain ⟨⟨⟨h1, h2⟩, h3⟩, h4⟩ := h
      obtain ⟨K, hK⟩ := Option.isSome_iff_exists.1 h1
      split at h2
      · rename_i el hel
        obtain ⟨i, z, q1, q2, q3, q4, q5, q6, q7, q8⟩ := elemB_spec h2
        exact opAppendZ_snd ‹_› (elemOf_spec hel) (intOf_spec hK) q1 q2 q5 q7 (q4.trans q3.symm) q4 (by omega) (q8 Z rfl) (KO.ok_spec h3) (KO.ok_spec h4) en H
      · cases h2
    · cases h
  | look c Z ok x y =>
    simp only [KOp.ok] at h
    split at h
    · rename_i t x' y' ok' ho
      simp only [Bool.and_eq_true, beq_iff_eq] at h
      obtain ⟨⟨⟨h1, h2⟩, h3⟩, h4⟩ := h
      subst h1
      split at h2
      · rename_i kt el hm
        simp only [Bool.and_eq_true] at h2
        obtain ⟨q1, q2, q3⟩ := KCmp.okB_spec h2.1
        have h5 := h2.2
        split at h5
        · rename_i zv hz
          exact opLookup_snd ho (mapOf_spec hm) q1 q2 q3 hz (litB_spec h5) (KO.ok_spec h3) (KO.ok_spec h4) en H
        · cases h5
      · cases h2
    · cases h
  | mapu c x y z =>
    simp only [KOp.ok] at h
    split at h
    · rename_i t x' y' z' ho
      simp only [Bool.and_eq_true] at h
      obtain ⟨⟨⟨h2, h3⟩, h4⟩, h5⟩ := h
      split at h2
      · rename_i kt el hm
        obtain ⟨q1, q2, q3⟩ := KCmp.okB_spec h2
        exact opMapUpdate_snd (.inl ho) (mapOf_spec hm) q1 q2 q3 (KO.ok_spec h3) (KO.ok_spec h4) (KO.ok_spec h5) en H
      · cases h2
    · rename_i t x' y' z' ho
      simp only [Bool.and_eq_true] at h
      obtain ⟨⟨⟨h2, h3⟩, h4⟩, h5⟩ := h
      split at h2
      · rename_i kt el hm
        obtain ⟨q1, q2, q3⟩ := KCmp.okB_spec h2
        exact opMapUpdate_snd (.inr ho) (mapOf_spec hm) q1 q2 q3 (KO.ok_spec h3) (KO.ok_spec h4) (KO.ok_spec h5) en H
      · cases h2
    · cases h
  | pan x =>
    simp only [KOp.ok] at h
    split at h
    · exact opPan_snd ‹_› (KO.ok_spec h) en H
    · cases h
  | call f xs =>
    have := call_op_snd hF h en H (n := f) (A := []) (C := []) rfl
    show OSnd P S o en H (F f (evalL (KO.dens xs) en) H)
    simpa using this
  | unk => trivial
  | b2s x =>
    simp only [KOp.ok] at h
    split at h
    · simp only [Bool.and_eq_true] at h
      obtain ⟨⟨h1, h2⟩, h3⟩ := h
      split at h1
      · rename_i el hel
        exact opB2S_snd ‹_› (elemOf_spec hel) (intOf_spec (by simpa using h1)) (isStr_spec h2) (KO.ok_spec h3) en H
      · cases h1
    · cases h
  | callv x xs =>
    show OSnd P S o en H (callV F (x.den en) (evalL (KO.dens xs) en) H)
    unfold callV
    cases hx : x.den en with
    | x u =>
      cases u with
      | fn f A C => exact call_op_snd hF h en H hx
      | _ => trivial
    | _ => trivial
end
end Go.Ab
