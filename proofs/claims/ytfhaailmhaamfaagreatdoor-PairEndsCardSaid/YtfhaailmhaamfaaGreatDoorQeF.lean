/- PairEnds answers true for every argument, and changes nothing that was there. Conditions: those of the given statement, and no others. -/
import Derived.Test.YtfhaailmhaamfaaGreatDoorAbAll
import Derived.Test.YtfhaailmhaamfaaGreatDoorQeE0
import Derived.Test.YtfhaailmhaamfaaGreatDoorTie
import Derived.Test.YtfhaailmhaamfaaGreatDoorCards
import Derived.Test.YtfhaailmhaamfaaGreatDoorJ
import Derived.ProofKit
import Derived.OpenShut
import Derived.LaidMore
import Derived.Lay
import Derived.SevenTiedAt
import Derived.Stop.Joined
namespace Go.Proofs.YtfhaailmhaamfaaGreatDoor.pairEnds
open Go Go.ChangeShapes Go.WideShapes Go.ChangeAt Go.RowKit Go.Ab
theorem own : ownKnob Tryz.prog.godebug = none := by kernel_rfl
theorem laid_eq : Rows.pairEndsRow.laid = Go.Ab.Tryz.laidL := by kernel_rfl
theorem walk (a0 : Int) (w0 : (Lit.int .i64 a0).wf = true) (W : World) (hs : W.ShapedOpen Tryz.prog) (hL : laidMetH Tryz.prog Rows.pairEndsRow.laid W) :
    Calls Tryz.prog 11 #[.int .i64 a0] W fun e w' => e = .returned (.bool true) ∧ Kept W w' := by
  rw [laid_eq] at hL
  exact law_all (Go.Ab.Tryz.fsOk 99) (dok (Go.Ab.Tryz.fsOk 99) Go.Ab.Tryz.mixed _ _) Go.Ab.Tryz.c11 (args' := [.int .i64 a0]) Go.Ab.Tryz.evPairEnds0 (Go.Ab.Tryz.start hs hL) (.cons (vrel_any _ w0) .nil)
set_option maxRecDepth 100000 in
theorem lifted (os : Os) (started : os.Started) (H : Type) (enc : TypeId × Value → H) :
    ReturnsInHanded {} Tryz.checked os 11 .any (fun w args => (Rows.pairEndsSpec.pre enc Tryz.prog Tryz.f11 Rows.pairEndsRow.domain false w args ∧ laidMetH Tryz.prog Rows.pairEndsRow.laid w) ∧ sizedMet enc Tryz.prog Tryz.f11 (OpenSpec.ofChange Rows.pairEndsSpec) false w args)
      (Rows.pairEndsSpec.post enc Tryz.prog Tryz.f11 false true false false) := by
  refine handed_shaped (C := Tryz.checked) (X := fun w _ => laidMetH Tryz.prog Rows.pairEndsRow.laid w) (fun _ _ _ hh h => h.of_heap hh) own started (by kernel_rfl) Tryz.func11
    (ChangeSpec.witness_shaped (enc := enc) (C := Tryz.checked) (os := os) (X := fun w _ => laidMetH Tryz.prog Rows.pairEndsRow.laid w) false (World.laidAll Tryz.prog os Rows.pairEndsRow.laid) #[.int .i64 0] 8 (World.laidAll_os _ _ _)
      (World.shaped_of_ZipB (by kernel_rfl) (by kernel_rfl)) (by kernel_rfl) (by kernel_rfl) (by kernel_rfl)
      (by rw [MakeChecks.laidMetH_plain _ _ _ (by kernel_rfl)]; exact laidMet_laidAll _ (by kernel_rfl) (by kernel_rfl))) ?_
  intro W base args ds gs before hsh hval0 hW hL
  have hval : ∀ (j : Nat) t v, Tryz.f11.params[j]? = some t → args[j]? = some v → Value.okWide Tryz.prog W .any base t v := hval0
  have hW' := hW
  obtain ⟨p, q, hA0, hV, rfl, hfz, hnd⟩ := hW
  have hA : DataW.TrodAll enc Tryz.prog W 0 (fun _ => true) true Tryz.f11.params.toList args.toList ds p := hA0
  rw [Tryz.params11] at hA hval
  obtain ⟨v0, vs0, d0, ds0, p0, q0, hargs, rfl, rfl, h0, r0⟩ := trodAll_cons hA
  obtain ⟨rfl, rfl, rfl⟩ := trodAll_nil r0
  obtain rfl : args = #[v0] := by cases args; simp_all
  obtain ⟨rfl, rfl⟩ := trodVars_none hV
  obtain ⟨a0, rfl, rfl, rfl, w0⟩ := open_int Tryz.underlying3 (hval 0 3 v0 rfl rfl) h0
  clear hA0 hval0
  simp only [List.append_nil] at hW'
  refine (walk a0 w0 W hsh hL).mono fun e W' ⟨he, hg⟩ => ?_
  subst he
  exact ⟨_, rfl, post_kept (pa := []) (pv := []) hW' (fun _ _ _ => (trodAll_cons_mk (shut_bool Tryz.underlying4 _) trodAll_mk0)) (fun sp => (trodAll_cons_mk (shut_int Tryz.underlying3 w0) trodAll_mk0)) (fun _ => rfl) hg⟩

theorem j1 : Rows.pairEndsRow.wf (OpenSpec.ofChange Rows.pairEndsSpec) = true := by kernel_rfl
theorem j4 : (Tryz.f11.params.all (Tryz.prog.readableRec ·)) = true := by kernel_rfl
theorem j5 : namedTie Tryz.prog Rows.pairEndsRow.named Rows.pairEndsSpec.vars = true := by kernel_rfl
theorem j10 : (Rows.pairEndsRow.inPlace == Tryz.prog.inPlace 11) = true := by kernel_rfl
theorem j11 : (Rows.pairEndsRow.unfollowed == Tryz.prog.unfollowed 11) = true := by kernel_rfl
theorem j12 : (Rows.pairEndsRow.recurses == Tryz.prog.recurses 11) = true := by kernel_rfl
theorem j13 : (Rows.pairEndsRow.named == Tryz.prog.varsNamed 11) = true := by kernel_rfl
theorem j22 : (Rows.pairEndsRow.plainKeys == Tryz.prog.plainKeys) = true := by kernel_rfl
theorem j24b : (Rows.pairEndsRow.lifted == Tryz.prog.liftsFinal) = true := by kernel_rfl
theorem jf : joinedFacts Tryz.prog 11 Tryz.f11 Rows.pairEndsSpec Rows.pairEndsRow = true := by
  unfold joinedFacts
  rw [j1, p2, p3, j4, j5, j10, j11, j12, j13, j22, p23b, p24, j24b]
  kernel_rfl
theorem inst : Tryz.f11.isInstance Tryz.prog Rows.pairEndsRow.origin Rows.pairEndsRow.targs := of_decide_eq_true (by kernel_rfl)
theorem wrap : Tryz.f11.isWrapper Tryz.prog Rows.pairEndsRow.wrapper Rows.pairEndsRow.mainSum := by unfold Func.isWrapper; first | (rw [if_pos (by decide +kernel)]; kernel_rfl) | (rw [if_neg (by decide +kernel)]; exact ⟨rfl, rfl⟩)
theorem fnNamed : Tryz.prog.funcNamed "exegete/exegetelaw17.PairEnds" = some 11 := by kernel_rfl
theorem over : Rows.pairEndsRow.holds Tryz.pinned (OpenSpec.ofChange Rows.pairEndsSpec) :=
  OpenClaim.holds_of_wide 11 Tryz.f11 rfl rfl rfl rfl rfl rfl rfl ⟨rfl, rfl, rfl, rfl, rfl⟩ rfl rfl rfl rfl rfl fnNamed Tryz.func11 jf
    inst wrap
    (fun os started H enc _ => lifted os started H enc)
theorem q1 : Rows.pairEndsRow.wfByText (OpenSpec.ofChange Rows.pairEndsSpec) = true := by kernel_rfl
theorem q4 : ([3].all fun u => !Tryz.prog.wantsStandIn u) = true := by kernel_rfl
theorem q5 : false = Rows.pairEndsRow.goesBy Tryz.prog := by kernel_rfl
theorem proved : Rows.PairEndsCardSaid :=
  Claim7.holds_tied_plain_at .later [] [.data, .data, .data, .data, .pinned] true (true, "daa29aa2975e06d1d43ba3434a7253fe61cb493408dbc30c7b3f3cd76cc531d5") false over (fun _ h => by cases h) q1 (fun _ h => by cases h) pairEnds_row_tie rfl ⟨rfl, rfl⟩ q2 rfl
    (fun f fn hf hfn => by
      obtain rfl : f = 11 := Option.some.inj (fnNamed.symm.trans hf) |>.symm
      obtain rfl : fn = Tryz.f11 := (Option.some.inj (Tryz.func11.symm.trans hfn)).symm
      exact ⟨q3, fun j t ht => by
        rw [Tryz.params11] at ht
        have hm : t ∈ [3] := by simpa using Array.mem_of_getElem? ht
        exact (show Tryz.prog.wantsStandIn t = false by simpa using List.all_eq_true.1 q4 t hm)⟩)
    q5
#print axioms proved
end Go.Proofs.YtfhaailmhaamfaaGreatDoor.pairEnds
