/- CoverForms answers true for every argument, and changes nothing that was there. Conditions: those of the given statement, and no others. -/
import Derived.Test.YtocibeohfbdndaaGreatDoorAbAll
import Derived.Test.YtocibeohfbdndaaGreatDoorCvE0
import Derived.Test.YtocibeohfbdndaaGreatDoorCvE1
import Derived.Test.YtocibeohfbdndaaGreatDoorCvE2
import Derived.Test.YtocibeohfbdndaaGreatDoorTie
import Derived.Test.YtocibeohfbdndaaGreatDoorCards
import Derived.Test.YtocibeohfbdndaaGreatDoorJ
import Derived.ProofKit
import Derived.OpenShut
import Derived.LaidMore
import Derived.Lay
import Derived.SevenTiedAt
import Derived.Stop.Joined
namespace Go.Proofs.YtocibeohfbdndaaGreatDoor.coverForms
open Go Go.ChangeShapes Go.WideShapes Go.ChangeAt Go.RowKit Go.Ab
theorem own : ownKnob Tryz.prog.godebug = none := by kernel_rfl
theorem laid_eq : Rows.coverFormsRow.laid = Go.Ab.Tryz.laidL := by kernel_rfl
theorem walk (a0 : Int) (w0 : (Lit.int .i64 a0).wf = true) (W : World) (hs : W.ShapedOpen Tryz.prog) (hL : laidMetH Tryz.prog Rows.coverFormsRow.laid W) :
    Calls Tryz.prog 8 #[.int .i64 a0] W fun e w' => e = .returned (.bool true) ∧ Kept W w' := by
  rw [laid_eq] at hL
  obtain ⟨r0, h0, l0⟩ := left_of a0 3 (by decide)
  rcases Nat.lt_or_ge r0 1 with g0_0 | g0_0
  · skip
    exact law_all (Go.Ab.Tryz.fsOk 99) (dok (Go.Ab.Tryz.fsOk 99) Go.Ab.Tryz.mixed _ _) Go.Ab.Tryz.c8 (args' := [.int .i64 a0]) Go.Ab.Tryz.evCoverForms0 (Go.Ab.Tryz.start hs hL) (.cons (vrel_leftR (lo := 0) (hi := 0) _ w0 h0 (by omega) (by omega) (by decide)) .nil)
  rcases Nat.lt_or_ge r0 2 with g0_1 | g0_1
  · skip
    exact law_all (Go.Ab.Tryz.fsOk 99) (dok (Go.Ab.Tryz.fsOk 99) Go.Ab.Tryz.mixed _ _) Go.Ab.Tryz.c8 (args' := [.int .i64 a0]) Go.Ab.Tryz.evCoverForms1 (Go.Ab.Tryz.start hs hL) (.cons (vrel_leftR (lo := 1) (hi := 1) _ w0 h0 (by omega) (by omega) (by decide)) .nil)
  exact law_all (Go.Ab.Tryz.fsOk 99) (dok (Go.Ab.Tryz.fsOk 99) Go.Ab.Tryz.mixed _ _) Go.Ab.Tryz.c8 (args' := [.int .i64 a0]) Go.Ab.Tryz.evCoverForms2 (Go.Ab.Tryz.start hs hL) (.cons (vrel_leftR (lo := 2) (hi := 2) _ w0 h0 (by omega) (by omega) (by decide)) .nil)
set_option maxRecDepth 100000 in
theorem lifted (os : Os) (started : os.Started) (H : Type) (enc : TypeId × Value → H) :
    ReturnsInHanded {} Tryz.checked os 8 .any (fun w args => (Rows.coverFormsSpec.pre enc Tryz.prog Tryz.f8 Rows.coverFormsRow.domain false w args ∧ laidMetH Tryz.prog Rows.coverFormsRow.laid w) ∧ sizedMet enc Tryz.prog Tryz.f8 (OpenSpec.ofChange Rows.coverFormsSpec) false w args)
      (Rows.coverFormsSpec.post enc Tryz.prog Tryz.f8 false true false false) := by
  refine handed_shaped (C := Tryz.checked) (X := fun w _ => laidMetH Tryz.prog Rows.coverFormsRow.laid w) (fun _ _ _ hh h => h.of_heap hh) own started (by kernel_rfl) Tryz.func8
    (ChangeSpec.witness_shaped (enc := enc) (C := Tryz.checked) (os := os) (X := fun w _ => laidMetH Tryz.prog Rows.coverFormsRow.laid w) false (World.laidAll Tryz.prog os Rows.coverFormsRow.laid) #[.int .i64 0] 8 (World.laidAll_os _ _ _)
      (World.shaped_of_ZipB (by kernel_rfl) (by kernel_rfl)) (by kernel_rfl) (by kernel_rfl) (by kernel_rfl)
      (by rw [MakeChecks.laidMetH_plain _ _ _ (by kernel_rfl)]; exact laidMet_laidAll _ (by kernel_rfl) (by kernel_rfl))) ?_
  intro W base args ds gs before hsh hval0 hW hL
  have hval : ∀ (j : Nat) t v, Tryz.f8.params[j]? = some t → args[j]? = some v → Value.okWide Tryz.prog W .any base t v := hval0
  have hW' := hW
  obtain ⟨p, q, hA0, hV, rfl, hfz, hnd⟩ := hW
  have hA : DataW.TrodAll enc Tryz.prog W 0 (fun _ => true) true Tryz.f8.params.toList args.toList ds p := hA0
  rw [Tryz.params8] at hA hval
  obtain ⟨v0, vs0, d0, ds0, p0, q0, hargs, rfl, rfl, h0, r0⟩ := trodAll_cons hA
  obtain ⟨rfl, rfl, rfl⟩ := trodAll_nil r0
  obtain rfl : args = #[v0] := by cases args; simp_all
  obtain ⟨rfl, rfl⟩ := trodVars_none hV
  obtain ⟨a0, rfl, rfl, rfl, w0⟩ := open_int Tryz.underlying3 (hval 0 3 v0 rfl rfl) h0
  clear hA0 hval0
  simp only [List.append_nil] at hW'
  refine (walk a0 w0 W hsh hL).mono fun e W' ⟨he, hg⟩ => ?_
  subst he
  exact ⟨_, rfl, post_kept (pa := []) (pv := []) hW' (fun _ _ _ => (trodAll_cons_mk (shut_bool Tryz.underlying4 _) trodAll_mk0)) (fun sp => (trodAll_cons_mk (shut_int Tryz.underlying3 w0) trodAll_mk0)) (fun _ => rfl) hg⟩

theorem j1 : Rows.coverFormsRow.wf (OpenSpec.ofChange Rows.coverFormsSpec) = true := by kernel_rfl
theorem j4 : (Tryz.f8.params.all (Tryz.prog.readableRec ·)) = true := by kernel_rfl
theorem j5 : namedTie Tryz.prog Rows.coverFormsRow.named Rows.coverFormsSpec.vars = true := by kernel_rfl
theorem j10 : (Rows.coverFormsRow.inPlace == Tryz.prog.inPlace 8) = true := by kernel_rfl
theorem j11 : (Rows.coverFormsRow.unfollowed == Tryz.prog.unfollowed 8) = true := by kernel_rfl
theorem j12 : (Rows.coverFormsRow.recurses == Tryz.prog.recurses 8) = true := by kernel_rfl
theorem j13 : (Rows.coverFormsRow.named == Tryz.prog.varsNamed 8) = true := by kernel_rfl
theorem j22 : (Rows.coverFormsRow.plainKeys == Tryz.prog.plainKeys) = true := by kernel_rfl
theorem j24b : (Rows.coverFormsRow.lifted == Tryz.prog.liftsFinal) = true := by kernel_rfl
theorem jf : joinedFacts Tryz.prog 8 Tryz.f8 Rows.coverFormsSpec Rows.coverFormsRow = true := by
  unfold joinedFacts
  rw [j1, p2, p3, j4, j5, j10, j11, j12, j13, j22, p23b, p24, j24b]
  kernel_rfl
theorem inst : Tryz.f8.isInstance Tryz.prog Rows.coverFormsRow.origin Rows.coverFormsRow.targs := of_decide_eq_true (by kernel_rfl)
theorem wrap : Tryz.f8.isWrapper Tryz.prog Rows.coverFormsRow.wrapper Rows.coverFormsRow.mainSum := by unfold Func.isWrapper; first | (rw [if_pos (by decide +kernel)]; kernel_rfl) | (rw [if_neg (by decide +kernel)]; exact ⟨rfl, rfl⟩)
theorem fnNamed : Tryz.prog.funcNamed "exegete/exegetelaw23.CoverForms" = some 8 := by kernel_rfl
theorem over : Rows.coverFormsRow.holds Tryz.pinned (OpenSpec.ofChange Rows.coverFormsSpec) :=
  OpenClaim.holds_of_wide 8 Tryz.f8 rfl rfl rfl rfl rfl rfl rfl ⟨rfl, rfl, rfl, rfl, rfl⟩ rfl rfl rfl rfl rfl fnNamed Tryz.func8 jf
    inst wrap
    (fun os started H enc _ => lifted os started H enc)
theorem q1 : Rows.coverFormsRow.wfByText (OpenSpec.ofChange Rows.coverFormsSpec) = true := by kernel_rfl
theorem q4 : ([3].all fun u => !Tryz.prog.wantsStandIn u) = true := by kernel_rfl
theorem q5 : false = Rows.coverFormsRow.goesBy Tryz.prog := by kernel_rfl
theorem proved : Rows.CoverFormsCardSaid :=
  Claim7.holds_tied_plain_at .later [] [.data, .data, .data, .data, .pinned] true (true, "750251462bffd9c24a6ed2cd6e881292cc1fd3507556a3893ab952016f8bb3f5") true over (fun _ h => by cases h) q1 (fun _ h => by cases h) coverForms_row_tie rfl ⟨rfl, rfl⟩ q2 rfl
    (fun f fn hf hfn => by
      obtain rfl : f = 8 := Option.some.inj (fnNamed.symm.trans hf) |>.symm
      obtain rfl : fn = Tryz.f8 := (Option.some.inj (Tryz.func8.symm.trans hfn)).symm
      exact ⟨q3, fun j t ht => by
        rw [Tryz.params8] at ht
        have hm : t ∈ [3] := by simpa using Array.mem_of_getElem? ht
        exact (show Tryz.prog.wantsStandIn t = false by simpa using List.all_eq_true.1 q4 t hm)⟩)
    q5
#print axioms proved
end Go.Proofs.YtocibeohfbdndaaGreatDoor.coverForms
