/- RunForms answers true for every argument, and changes nothing that was there. Conditions: those of the given statement, and no others. -/
import Derived.Test.YtfhaailmhaamfaaGreatDoorAbAll
import Derived.Test.YtfhaailmhaamfaaGreatDoorRfE0
import Derived.Test.YtfhaailmhaamfaaGreatDoorRfE1
import Derived.Test.YtfhaailmhaamfaaGreatDoorRfE2
import Derived.Test.YtfhaailmhaamfaaGreatDoorRfE3
import Derived.Test.YtfhaailmhaamfaaGreatDoorRfE4
import Derived.Test.YtfhaailmhaamfaaGreatDoorRfE5
import Derived.Test.YtfhaailmhaamfaaGreatDoorTie
import Derived.Test.YtfhaailmhaamfaaGreatDoorCards
import Derived.Test.YtfhaailmhaamfaaGreatDoorJ
import Derived.ProofKit
import Derived.OpenShut
import Derived.LaidMore
import Derived.Lay
import Derived.SevenTiedAt
import Derived.Stop.Joined
namespace Go.Proofs.YtfhaailmhaamfaaGreatDoor.runForms
open Go Go.ChangeShapes Go.WideShapes Go.ChangeAt Go.RowKit Go.Ab
theorem own : ownKnob Tryz.prog.godebug = none := by kernel_rfl
theorem laid_eq : Rows.runFormsRow.laid = Go.Ab.Tryz.laidL := by kernel_rfl
theorem walk (a0 : Int) (w0 : (Lit.int .i64 a0).wf = true) (W : World) (hs : W.ShapedOpen Tryz.prog) (hL : laidMetH Tryz.prog Rows.runFormsRow.laid W) :
    Calls Tryz.prog 8 #[.int .i64 a0] W fun e w' => e = .returned (.bool true) ∧ Kept W w' := by
  rw [laid_eq] at hL
  obtain ⟨r0, h0, l0⟩ := left_of a0 60 (by decide)
  rcases Nat.lt_or_ge r0 5 with g0_0 | g0_0
  · skip
    exact law_all (Go.Ab.Tryz.fsOk 99) (dok (Go.Ab.Tryz.fsOk 99) Go.Ab.Tryz.mixed _ _) Go.Ab.Tryz.c8 (args' := [.int .i64 a0]) Go.Ab.Tryz.evRunForms0 (Go.Ab.Tryz.start hs hL) (.cons (vrel_leftR (lo := 0) (hi := 4) _ w0 h0 (by omega) (by omega) (by decide)) .nil)
  rcases Nat.lt_or_ge r0 10 with g0_1 | g0_1
  · skip
    exact law_all (Go.Ab.Tryz.fsOk 99) (dok (Go.Ab.Tryz.fsOk 99) Go.Ab.Tryz.mixed _ _) Go.Ab.Tryz.c8 (args' := [.int .i64 a0]) Go.Ab.Tryz.evRunForms1 (Go.Ab.Tryz.start hs hL) (.cons (vrel_leftR (lo := 5) (hi := 9) _ w0 h0 (by omega) (by omega) (by decide)) .nil)
  rcases Nat.lt_or_ge r0 15 with g0_2 | g0_2
  · skip
    exact law_all (Go.Ab.Tryz.fsOk 99) (dok (Go.Ab.Tryz.fsOk 99) Go.Ab.Tryz.mixed _ _) Go.Ab.Tryz.c8 (args' := [.int .i64 a0]) Go.Ab.Tryz.evRunForms2 (Go.Ab.Tryz.start hs hL) (.cons (vrel_leftR (lo := 10) (hi := 14) _ w0 h0 (by omega) (by omega) (by decide)) .nil)
  rcases Nat.lt_or_ge r0 20 with g0_3 | g0_3
  · skip
    exact law_all (Go.Ab.Tryz.fsOk 99) (dok (Go.Ab.Tryz.fsOk 99) Go.Ab.Tryz.mixed _ _) Go.Ab.Tryz.c8 (args' := [.int .i64 a0]) Go.Ab.Tryz.evRunForms3 (Go.Ab.Tryz.start hs hL) (.cons (vrel_leftR (lo := 15) (hi := 19) _ w0 h0 (by omega) (by omega) (by decide)) .nil)
  rcases Nat.lt_or_ge r0 25 with g0_4 | g0_4
  · skip
    exact law_all (Go.Ab.Tryz.fsOk 99) (dok (Go.Ab.Tryz.fsOk 99) Go.Ab.Tryz.mixed _ _) Go.Ab.Tryz.c8 (args' := [.int .i64 a0]) Go.Ab.Tryz.evRunForms4 (Go.Ab.Tryz.start hs hL) (.cons (vrel_leftR (lo := 20) (hi := 24) _ w0 h0 (by omega) (by omega) (by decide)) .nil)
  rcases Nat.lt_or_ge r0 30 with g0_5 | g0_5
  · skip
    exact law_all (Go.Ab.Tryz.fsOk 99) (dok (Go.Ab.Tryz.fsOk 99) Go.Ab.Tryz.mixed _ _) Go.Ab.Tryz.c8 (args' := [.int .i64 a0]) Go.Ab.Tryz.evRunForms5 (Go.Ab.Tryz.start hs hL) (.cons (vrel_leftR (lo := 25) (hi := 29) _ w0 h0 (by omega) (by omega) (by decide)) .nil)
  rcases Nat.lt_or_ge r0 35 with g0_6 | g0_6
  · skip
    exact law_all (Go.Ab.Tryz.fsOk 99) (dok (Go.Ab.Tryz.fsOk 99) Go.Ab.Tryz.mixed _ _) Go.Ab.Tryz.c8 (args' := [.int .i64 a0]) Go.Ab.Tryz.evRunForms6 (Go.Ab.Tryz.start hs hL) (.cons (vrel_leftR (lo := 30) (hi := 34) _ w0 h0 (by omega) (by omega) (by decide)) .nil)
  rcases Nat.lt_or_ge r0 40 with g0_7 | g0_7
  · skip
    exact law_all (Go.Ab.Tryz.fsOk 99) (dok (Go.Ab.Tryz.fsOk 99) Go.Ab.Tryz.mixed _ _) Go.Ab.Tryz.c8 (args' := [.int .i64 a0]) Go.Ab.Tryz.evRunForms7 (Go.Ab.Tryz.start hs hL) (.cons (vrel_leftR (lo := 35) (hi := 39) _ w0 h0 (by omega) (by omega) (by decide)) .nil)
  rcases Nat.lt_or_ge r0 45 with g0_8 | g0_8
  · skip
    exact law_all (Go.Ab.Tryz.fsOk 99) (dok (Go.Ab.Tryz.fsOk 99) Go.Ab.Tryz.mixed _ _) Go.Ab.Tryz.c8 (args' := [.int .i64 a0]) Go.Ab.Tryz.evRunForms8 (Go.Ab.Tryz.start hs hL) (.cons (vrel_leftR (lo := 40) (hi := 44) _ w0 h0 (by omega) (by omega) (by decide)) .nil)
  rcases Nat.lt_or_ge r0 50 with g0_9 | g0_9
  · skip
    exact law_all (Go.Ab.Tryz.fsOk 99) (dok (Go.Ab.Tryz.fsOk 99) Go.Ab.Tryz.mixed _ _) Go.Ab.Tryz.c8 (args' := [.int .i64 a0]) Go.Ab.Tryz.evRunForms9 (Go.Ab.Tryz.start hs hL) (.cons (vrel_leftR (lo := 45) (hi := 49) _ w0 h0 (by omega) (by omega) (by decide)) .nil)
  rcases Nat.lt_or_ge r0 55 with g0_10 | g0_10
  · skip
    exact law_all (Go.Ab.Tryz.fsOk 99) (dok (Go.Ab.Tryz.fsOk 99) Go.Ab.Tryz.mixed _ _) Go.Ab.Tryz.c8 (args' := [.int .i64 a0]) Go.Ab.Tryz.evRunForms10 (Go.Ab.Tryz.start hs hL) (.cons (vrel_leftR (lo := 50) (hi := 54) _ w0 h0 (by omega) (by omega) (by decide)) .nil)
  exact law_all (Go.Ab.Tryz.fsOk 99) (dok (Go.Ab.Tryz.fsOk 99) Go.Ab.Tryz.mixed _ _) Go.Ab.Tryz.c8 (args' := [.int .i64 a0]) Go.Ab.Tryz.evRunForms11 (Go.Ab.Tryz.start hs hL) (.cons (vrel_leftR (lo := 55) (hi := 59) _ w0 h0 (by omega) (by omega) (by decide)) .nil)
set_option maxRecDepth 100000 in
theorem lifted (os : Os) (started : os.Started) (H : Type) (enc : TypeId × Value → H) :
    ReturnsInHanded {} Tryz.checked os 8 .any (fun w args => (Rows.runFormsSpec.pre enc Tryz.prog Tryz.f8 Rows.runFormsRow.domain false w args ∧ laidMetH Tryz.prog Rows.runFormsRow.laid w) ∧ sizedMet enc Tryz.prog Tryz.f8 (OpenSpec.ofChange Rows.runFormsSpec) false w args)
      (Rows.runFormsSpec.post enc Tryz.prog Tryz.f8 false true false false) := by
  refine handed_shaped (C := Tryz.checked) (X := fun w _ => laidMetH Tryz.prog Rows.runFormsRow.laid w) (fun _ _ _ hh h => h.of_heap hh) own started (by kernel_rfl) Tryz.func8
    (ChangeSpec.witness_shaped (enc := enc) (C := Tryz.checked) (os := os) (X := fun w _ => laidMetH Tryz.prog Rows.runFormsRow.laid w) false (World.laidAll Tryz.prog os Rows.runFormsRow.laid) #[.int .i64 0] 8 (World.laidAll_os _ _ _)
      (World.shaped_of_ZipB (by kernel_rfl) (by kernel_rfl)) (by kernel_rfl) (by kernel_rfl) (by kernel_rfl)
      (by rw [MakeChecks.laidMetH_plain _ _ _ (by kernel_rfl)]; exact laidMet_laidAll _ (by kernel_rfl) (by kernel_rfl))) ?_
  intro W base args ds gs before hsh hval0 hW hL
  have hval : ∀ (j : Nat) t v, Tryz.f8.params[j]? = some t → args[j]? = some v → Value.okWide Tryz.prog W .any base t v := hval0
  have hW' := hW
  obtain ⟨p, q, hA0, hV, rfl, hfz, hnd⟩ := hW
  have hA : DataW.TrodAll enc Tryz.prog W 0 (fun _ => true) true Tryz.f8.params.toList args.toList ds p := hA0
  rw [Tryz.params8] at hA hval
  obtain ⟨v0, vs0, d0, ds0, p0, q0, hargs, rfl, rfl, h0, r0⟩ := trodAll_cons hA
  obtain ⟨rfl, rfl, rfl⟩ := trodAll_nil r0
  obtain rfl : args = #[v0] := by cases args; simp_all
  obtain ⟨rfl, rfl⟩ := trodVars_none hV
  obtain ⟨a0, rfl, rfl, rfl, w0⟩ := open_int Tryz.underlying3 (hval 0 3 v0 rfl rfl) h0
  clear hA0 hval0
  simp only [List.append_nil] at hW'
  refine (walk a0 w0 W hsh hL).mono fun e W' ⟨he, hg⟩ => ?_
  subst he
  exact ⟨_, rfl, post_kept (pa := []) (pv := []) hW' (fun _ _ _ => (trodAll_cons_mk (shut_bool Tryz.underlying4 _) trodAll_mk0)) (fun sp => (trodAll_cons_mk (shut_int Tryz.underlying3 w0) trodAll_mk0)) (fun _ => rfl) hg⟩

theorem j1 : Rows.runFormsRow.wf (OpenSpec.ofChange Rows.runFormsSpec) = true := by kernel_rfl
theorem j4 : (Tryz.f8.params.all (Tryz.prog.readableRec ·)) = true := by kernel_rfl
theorem j5 : namedTie Tryz.prog Rows.runFormsRow.named Rows.runFormsSpec.vars = true := by kernel_rfl
theorem j10 : (Rows.runFormsRow.inPlace == Tryz.prog.inPlace 8) = true := by kernel_rfl
theorem j11 : (Rows.runFormsRow.unfollowed == Tryz.prog.unfollowed 8) = true := by kernel_rfl
theorem j12 : (Rows.runFormsRow.recurses == Tryz.prog.recurses 8) = true := by kernel_rfl
theorem j13 : (Rows.runFormsRow.named == Tryz.prog.varsNamed 8) = true := by kernel_rfl
theorem j22 : (Rows.runFormsRow.plainKeys == Tryz.prog.plainKeys) = true := by kernel_rfl
theorem j24b : (Rows.runFormsRow.lifted == Tryz.prog.liftsFinal) = true := by kernel_rfl
theorem jf : joinedFacts Tryz.prog 8 Tryz.f8 Rows.runFormsSpec Rows.runFormsRow = true := by
  unfold joinedFacts
  rw [j1, p2, p3, j4, j5, j10, j11, j12, j13, j22, p23b, p24, j24b]
  kernel_rfl
theorem inst : Tryz.f8.isInstance Tryz.prog Rows.runFormsRow.origin Rows.runFormsRow.targs := of_decide_eq_true (by kernel_rfl)
theorem wrap : Tryz.f8.isWrapper Tryz.prog Rows.runFormsRow.wrapper Rows.runFormsRow.mainSum := by unfold Func.isWrapper; first | (rw [if_pos (by decide +kernel)]; kernel_rfl) | (rw [if_neg (by decide +kernel)]; exact ⟨rfl, rfl⟩)
theorem fnNamed : Tryz.prog.funcNamed "exegete/exegetelaw14.RunForms" = some 8 := by kernel_rfl
theorem over : Rows.runFormsRow.holds Tryz.pinned (OpenSpec.ofChange Rows.runFormsSpec) :=
  OpenClaim.holds_of_wide 8 Tryz.f8 rfl rfl rfl rfl rfl rfl rfl ⟨rfl, rfl, rfl, rfl, rfl⟩ rfl rfl rfl rfl rfl fnNamed Tryz.func8 jf
    inst wrap
    (fun os started H enc _ => lifted os started H enc)
theorem q1 : Rows.runFormsRow.wfByText (OpenSpec.ofChange Rows.runFormsSpec) = true := by kernel_rfl
theorem q4 : ([3].all fun u => !Tryz.prog.wantsStandIn u) = true := by kernel_rfl
theorem q5 : false = Rows.runFormsRow.goesBy Tryz.prog := by kernel_rfl
theorem proved : Rows.RunFormsCardSaid :=
  Claim7.holds_tied_plain_at .later [] [.data, .data, .data, .data, .pinned] true (true, "daa29aa2975e06d1d43ba3434a7253fe61cb493408dbc30c7b3f3cd76cc531d5") false over (fun _ h => by cases h) q1 (fun _ h => by cases h) runForms_row_tie rfl ⟨rfl, rfl⟩ q2 rfl
    (fun f fn hf hfn => by
      obtain rfl : f = 8 := Option.some.inj (fnNamed.symm.trans hf) |>.symm
      obtain rfl : fn = Tryz.f8 := (Option.some.inj (Tryz.func8.symm.trans hfn)).symm
      exact ⟨q3, fun j t ht => by
        rw [Tryz.params8] at ht
        have hm : t ∈ [3] := by simpa using Array.mem_of_getElem? ht
        exact (show Tryz.prog.wantsStandIn t = false by simpa using List.all_eq_true.1 q4 t hm)⟩)
    q5
#print axioms proved
end Go.Proofs.YtfhaailmhaamfaaGreatDoor.runForms
