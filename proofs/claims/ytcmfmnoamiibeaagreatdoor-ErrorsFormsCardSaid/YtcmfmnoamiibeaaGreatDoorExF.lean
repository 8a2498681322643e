/- ErrorsForms answers true for every argument, and changes nothing that was there. Conditions: those of the given statement, and no others. -/
import Derived.Test.YtcmfmnoamiibeaaGreatDoorAbAll
import Derived.Test.YtcmfmnoamiibeaaGreatDoorExE0
import Derived.Test.YtcmfmnoamiibeaaGreatDoorExE1
import Derived.Test.YtcmfmnoamiibeaaGreatDoorTie
import Derived.Test.YtcmfmnoamiibeaaGreatDoorCards
import Derived.Test.YtcmfmnoamiibeaaGreatDoorJ
import Derived.ProofKit
import Derived.OpenShut
import Derived.LaidMore
import Derived.Lay
import Derived.SevenTiedAt
import Derived.Stop.Joined
namespace Go.Proofs.YtcmfmnoamiibeaaGreatDoor.errorsForms
open Go Go.ChangeShapes Go.WideShapes Go.ChangeAt Go.RowKit Go.Ab
theorem own : ownKnob Tryz.prog.godebug = none := by kernel_rfl
theorem laid_eq : Rows.errorsFormsRow.laid = Go.Ab.Tryz.laidL := by kernel_rfl
theorem walk (a0 : Int) (w0 : (Lit.int .i64 a0).wf = true) (W : World) (hs : W.ShapedOpen Tryz.prog) (hL : laidMetH Tryz.prog Rows.errorsFormsRow.laid W) :
    Calls Tryz.prog 5 #[.int .i64 a0] W fun e w' => e = .returned (.bool true) ∧ Kept W w' := by
  rw [laid_eq] at hL
  obtain ⟨r0, h0, l0⟩ := left_of a0 13 (by decide)
  rcases Nat.lt_or_ge r0 1 with g0_0 | g0_0
  · skip
    exact law_all (Go.Ab.Tryz.fsOk 99) (dok (Go.Ab.Tryz.fsOk 99) Go.Ab.Tryz.mixed _ _) Go.Ab.Tryz.c5 (args' := [.int .i64 a0]) Go.Ab.Tryz.evErrorsForms0 (Go.Ab.Tryz.start hs hL) (.cons (vrel_leftR (lo := 0) (hi := 0) _ w0 h0 (by omega) (by omega) (by decide)) .nil)
  rcases Nat.lt_or_ge r0 2 with g0_1 | g0_1
  · skip
    exact law_all (Go.Ab.Tryz.fsOk 99) (dok (Go.Ab.Tryz.fsOk 99) Go.Ab.Tryz.mixed _ _) Go.Ab.Tryz.c5 (args' := [.int .i64 a0]) Go.Ab.Tryz.evErrorsForms1 (Go.Ab.Tryz.start hs hL) (.cons (vrel_leftR (lo := 1) (hi := 1) _ w0 h0 (by omega) (by omega) (by decide)) .nil)
  rcases Nat.lt_or_ge r0 3 with g0_2 | g0_2
  · skip
    exact law_all (Go.Ab.Tryz.fsOk 99) (dok (Go.Ab.Tryz.fsOk 99) Go.Ab.Tryz.mixed _ _) Go.Ab.Tryz.c5 (args' := [.int .i64 a0]) Go.Ab.Tryz.evErrorsForms2 (Go.Ab.Tryz.start hs hL) (.cons (vrel_leftR (lo := 2) (hi := 2) _ w0 h0 (by omega) (by omega) (by decide)) .nil)
  rcases Nat.lt_or_ge r0 4 with g0_3 | g0_3
  · skip
    exact law_all (Go.Ab.Tryz.fsOk 99) (dok (Go.Ab.Tryz.fsOk 99) Go.Ab.Tryz.mixed _ _) Go.Ab.Tryz.c5 (args' := [.int .i64 a0]) Go.Ab.Tryz.evErrorsForms3 (Go.Ab.Tryz.start hs hL) (.cons (vrel_leftR (lo := 3) (hi := 3) _ w0 h0 (by omega) (by omega) (by decide)) .nil)
  rcases Nat.lt_or_ge r0 5 with g0_4 | g0_4
  · skip
    exact law_all (Go.Ab.Tryz.fsOk 99) (dok (Go.Ab.Tryz.fsOk 99) Go.Ab.Tryz.mixed _ _) Go.Ab.Tryz.c5 (args' := [.int .i64 a0]) Go.Ab.Tryz.evErrorsForms4 (Go.Ab.Tryz.start hs hL) (.cons (vrel_leftR (lo := 4) (hi := 4) _ w0 h0 (by omega) (by omega) (by decide)) .nil)
  rcases Nat.lt_or_ge r0 6 with g0_5 | g0_5
  · skip
    exact law_all (Go.Ab.Tryz.fsOk 99) (dok (Go.Ab.Tryz.fsOk 99) Go.Ab.Tryz.mixed _ _) Go.Ab.Tryz.c5 (args' := [.int .i64 a0]) Go.Ab.Tryz.evErrorsForms5 (Go.Ab.Tryz.start hs hL) (.cons (vrel_leftR (lo := 5) (hi := 5) _ w0 h0 (by omega) (by omega) (by decide)) .nil)
  rcases Nat.lt_or_ge r0 7 with g0_6 | g0_6
  · skip
    exact law_all (Go.Ab.Tryz.fsOk 99) (dok (Go.Ab.Tryz.fsOk 99) Go.Ab.Tryz.mixed _ _) Go.Ab.Tryz.c5 (args' := [.int .i64 a0]) Go.Ab.Tryz.evErrorsForms6 (Go.Ab.Tryz.start hs hL) (.cons (vrel_leftR (lo := 6) (hi := 6) _ w0 h0 (by omega) (by omega) (by decide)) .nil)
  rcases Nat.lt_or_ge r0 8 with g0_7 | g0_7
  · skip
    exact law_all (Go.Ab.Tryz.fsOk 99) (dok (Go.Ab.Tryz.fsOk 99) Go.Ab.Tryz.mixed _ _) Go.Ab.Tryz.c5 (args' := [.int .i64 a0]) Go.Ab.Tryz.evErrorsForms7 (Go.Ab.Tryz.start hs hL) (.cons (vrel_leftR (lo := 7) (hi := 7) _ w0 h0 (by omega) (by omega) (by decide)) .nil)
  rcases Nat.lt_or_ge r0 9 with g0_8 | g0_8
  · skip
    exact law_all (Go.Ab.Tryz.fsOk 99) (dok (Go.Ab.Tryz.fsOk 99) Go.Ab.Tryz.mixed _ _) Go.Ab.Tryz.c5 (args' := [.int .i64 a0]) Go.Ab.Tryz.evErrorsForms8 (Go.Ab.Tryz.start hs hL) (.cons (vrel_leftR (lo := 8) (hi := 8) _ w0 h0 (by omega) (by omega) (by decide)) .nil)
  rcases Nat.lt_or_ge r0 10 with g0_9 | g0_9
  · skip
    exact law_all (Go.Ab.Tryz.fsOk 99) (dok (Go.Ab.Tryz.fsOk 99) Go.Ab.Tryz.mixed _ _) Go.Ab.Tryz.c5 (args' := [.int .i64 a0]) Go.Ab.Tryz.evErrorsForms9 (Go.Ab.Tryz.start hs hL) (.cons (vrel_leftR (lo := 9) (hi := 9) _ w0 h0 (by omega) (by omega) (by decide)) .nil)
  rcases Nat.lt_or_ge r0 11 with g0_10 | g0_10
  · skip
    exact law_all (Go.Ab.Tryz.fsOk 99) (dok (Go.Ab.Tryz.fsOk 99) Go.Ab.Tryz.mixed _ _) Go.Ab.Tryz.c5 (args' := [.int .i64 a0]) Go.Ab.Tryz.evErrorsForms10 (Go.Ab.Tryz.start hs hL) (.cons (vrel_leftR (lo := 10) (hi := 10) _ w0 h0 (by omega) (by omega) (by decide)) .nil)
  rcases Nat.lt_or_ge r0 12 with g0_11 | g0_11
  · skip
    exact law_all (Go.Ab.Tryz.fsOk 99) (dok (Go.Ab.Tryz.fsOk 99) Go.Ab.Tryz.mixed _ _) Go.Ab.Tryz.c5 (args' := [.int .i64 a0]) Go.Ab.Tryz.evErrorsForms11 (Go.Ab.Tryz.start hs hL) (.cons (vrel_leftR (lo := 11) (hi := 11) _ w0 h0 (by omega) (by omega) (by decide)) .nil)
  exact law_all (Go.Ab.Tryz.fsOk 99) (dok (Go.Ab.Tryz.fsOk 99) Go.Ab.Tryz.mixed _ _) Go.Ab.Tryz.c5 (args' := [.int .i64 a0]) Go.Ab.Tryz.evErrorsForms12 (Go.Ab.Tryz.start hs hL) (.cons (vrel_leftR (lo := 12) (hi := 12) _ w0 h0 (by omega) (by omega) (by decide)) .nil)
set_option maxRecDepth 100000 in
theorem lifted (os : Os) (started : os.Started) (H : Type) (enc : TypeId × Value → H) :
    ReturnsInHanded {} Tryz.checked os 5 .any (fun w args => (Rows.errorsFormsSpec.pre enc Tryz.prog Tryz.f5 Rows.errorsFormsRow.domain false w args ∧ laidMetH Tryz.prog Rows.errorsFormsRow.laid w) ∧ sizedMet enc Tryz.prog Tryz.f5 (OpenSpec.ofChange Rows.errorsFormsSpec) false w args)
      (Rows.errorsFormsSpec.post enc Tryz.prog Tryz.f5 false true false false) := by
  refine handed_shaped (C := Tryz.checked) (X := fun w _ => laidMetH Tryz.prog Rows.errorsFormsRow.laid w) (fun _ _ _ hh h => h.of_heap hh) own started (by kernel_rfl) Tryz.func5
    (ChangeSpec.witness_shaped (enc := enc) (C := Tryz.checked) (os := os) (X := fun w _ => laidMetH Tryz.prog Rows.errorsFormsRow.laid w) false (World.laidAll Tryz.prog os Rows.errorsFormsRow.laid) #[.int .i64 0] 8 (World.laidAll_os _ _ _)
      (World.shaped_of_ZipB (by kernel_rfl) (by kernel_rfl)) (by kernel_rfl) (by kernel_rfl) (by kernel_rfl)
      (by rw [MakeChecks.laidMetH_plain _ _ _ (by kernel_rfl)]; exact laidMet_laidAll _ (by kernel_rfl) (by kernel_rfl))) ?_
  intro W base args ds gs before hsh hval0 hW hL
  have hval : ∀ (j : Nat) t v, Tryz.f5.params[j]? = some t → args[j]? = some v → Value.okWide Tryz.prog W .any base t v := hval0
  have hW' := hW
  obtain ⟨p, q, hA0, hV, rfl, hfz, hnd⟩ := hW
  have hA : DataW.TrodAll enc Tryz.prog W 0 (fun _ => true) true Tryz.f5.params.toList args.toList ds p := hA0
  rw [Tryz.params5] at hA hval
  obtain ⟨v0, vs0, d0, ds0, p0, q0, hargs, rfl, rfl, h0, r0⟩ := trodAll_cons hA
  obtain ⟨rfl, rfl, rfl⟩ := trodAll_nil r0
  obtain rfl : args = #[v0] := by cases args; simp_all
  obtain ⟨rfl, rfl⟩ := trodVars_none hV
  obtain ⟨a0, rfl, rfl, rfl, w0⟩ := open_int Tryz.underlying3 (hval 0 3 v0 rfl rfl) h0
  clear hA0 hval0
  simp only [List.append_nil] at hW'
  refine (walk a0 w0 W hsh hL).mono fun e W' ⟨he, hg⟩ => ?_
  subst he
  exact ⟨_, rfl, post_kept (pa := []) (pv := []) hW' (fun _ _ _ => (trodAll_cons_mk (shut_bool Tryz.underlying4 _) trodAll_mk0)) (fun sp => (trodAll_cons_mk (shut_int Tryz.underlying3 w0) trodAll_mk0)) (fun _ => rfl) hg⟩

theorem j1 : Rows.errorsFormsRow.wf (OpenSpec.ofChange Rows.errorsFormsSpec) = true := by kernel_rfl
theorem j4 : (Tryz.f5.params.all (Tryz.prog.readableRec ·)) = true := by kernel_rfl
theorem j5 : namedTie Tryz.prog Rows.errorsFormsRow.named Rows.errorsFormsSpec.vars = true := by kernel_rfl
theorem j10 : (Rows.errorsFormsRow.inPlace == Tryz.prog.inPlace 5) = true := by kernel_rfl
theorem j11 : (Rows.errorsFormsRow.unfollowed == Tryz.prog.unfollowed 5) = true := by kernel_rfl
theorem j12 : (Rows.errorsFormsRow.recurses == Tryz.prog.recurses 5) = true := by kernel_rfl
theorem j13 : (Rows.errorsFormsRow.named == Tryz.prog.varsNamed 5) = true := by kernel_rfl
theorem j22 : (Rows.errorsFormsRow.plainKeys == Tryz.prog.plainKeys) = true := by kernel_rfl
theorem j24b : (Rows.errorsFormsRow.lifted == Tryz.prog.liftsFinal) = true := by kernel_rfl
theorem jf : joinedFacts Tryz.prog 5 Tryz.f5 Rows.errorsFormsSpec Rows.errorsFormsRow = true := by
  unfold joinedFacts
  rw [j1, p2, p3, j4, j5, j10, j11, j12, j13, j22, p23b, p24, j24b]
  kernel_rfl
theorem inst : Tryz.f5.isInstance Tryz.prog Rows.errorsFormsRow.origin Rows.errorsFormsRow.targs := of_decide_eq_true (by kernel_rfl)
theorem wrap : Tryz.f5.isWrapper Tryz.prog Rows.errorsFormsRow.wrapper Rows.errorsFormsRow.mainSum := by unfold Func.isWrapper; first | (rw [if_pos (by decide +kernel)]; kernel_rfl) | (rw [if_neg (by decide +kernel)]; exact ⟨rfl, rfl⟩)
theorem fnNamed : Tryz.prog.funcNamed "exegete/exegetelaw21.ErrorsForms" = some 5 := by kernel_rfl
theorem over : Rows.errorsFormsRow.holds Tryz.pinned (OpenSpec.ofChange Rows.errorsFormsSpec) :=
  OpenClaim.holds_of_wide 5 Tryz.f5 rfl rfl rfl rfl rfl rfl rfl ⟨rfl, rfl, rfl, rfl, rfl⟩ rfl rfl rfl rfl rfl fnNamed Tryz.func5 jf
    inst wrap
    (fun os started H enc _ => lifted os started H enc)
theorem q1 : Rows.errorsFormsRow.wfByText (OpenSpec.ofChange Rows.errorsFormsSpec) = true := by kernel_rfl
theorem q4 : ([3].all fun u => !Tryz.prog.wantsStandIn u) = true := by kernel_rfl
theorem q5 : false = Rows.errorsFormsRow.goesBy Tryz.prog := by kernel_rfl
theorem proved : Rows.ErrorsFormsCardSaid :=
  Claim7.holds_tied_plain_at .later [] [.data, .data, .data, .data, .pinned] true (true, "c1def23b0f26cc96193b4ec93cf4a8ebab1eb15391234d3fdd0a9735a667ee51") true over (fun _ h => by cases h) q1 (fun _ h => by cases h) errorsForms_row_tie rfl ⟨rfl, rfl⟩ q2 rfl
    (fun f fn hf hfn => by
      obtain rfl : f = 5 := Option.some.inj (fnNamed.symm.trans hf) |>.symm
      obtain rfl : fn = Tryz.f5 := (Option.some.inj (Tryz.func5.symm.trans hfn)).symm
      exact ⟨q3, fun j t ht => by
        rw [Tryz.params5] at ht
        have hm : t ∈ [3] := by simpa using Array.mem_of_getElem? ht
        exact (show Tryz.prog.wantsStandIn t = false by simpa using List.all_eq_true.1 q4 t hm)⟩)
    q5
#print axioms proved
end Go.Proofs.YtcmfmnoamiibeaaGreatDoor.errorsForms
