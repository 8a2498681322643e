/- TableBytes answers true for every argument, and changes nothing that was there. Conditions: those of the given statement, and no others. -/
import Derived.Test.YtcmfmnoamiibeaaGreatDoorAbAll
import Derived.Test.YtcmfmnoamiibeaaGreatDoorTbE0
import Derived.Test.YtcmfmnoamiibeaaGreatDoorTbE1
import Derived.Test.YtcmfmnoamiibeaaGreatDoorTbE2
import Derived.Test.YtcmfmnoamiibeaaGreatDoorTie
import Derived.Test.YtcmfmnoamiibeaaGreatDoorCards
import Derived.Test.YtcmfmnoamiibeaaGreatDoorJ
import Derived.ProofKit
import Derived.OpenShut
import Derived.LaidMore
import Derived.Lay
import Derived.SevenTiedAt
import Derived.Stop.Joined
namespace Go.Proofs.YtcmfmnoamiibeaaGreatDoor.tableBytes
open Go Go.ChangeShapes Go.WideShapes Go.ChangeAt Go.RowKit Go.Ab
theorem own : ownKnob Tryz.prog.godebug = none := by kernel_rfl
theorem laid_eq : Rows.tableBytesRow.laid = Go.Ab.Tryz.laidL := by kernel_rfl
theorem walk (a0 : Int) (a1 : Int) (w0 : (Lit.int .i64 a0).wf = true) (w1 : (Lit.int .u8 a1).wf = true) (W : World) (hs : W.ShapedOpen Tryz.prog) (hL : laidMetH Tryz.prog Rows.tableBytesRow.laid W) :
    Calls Tryz.prog 3 #[.int .i64 a0, .int .u8 a1] W fun e w' => e = .returned (.bool true) ∧ Kept W w' := by
  rw [laid_eq] at hL
  obtain ⟨r1, h1, l1⟩ := byte_of w1
  rcases Nat.lt_or_ge r1 1 with g1_0 | g1_0
  · skip
    exact law_all (Go.Ab.Tryz.fsOk 99) (dok (Go.Ab.Tryz.fsOk 99) Go.Ab.Tryz.mixed _ _) Go.Ab.Tryz.c3 (args' := [.int .i64 a0, .int .u8 a1]) Go.Ab.Tryz.evTableBytes0 (Go.Ab.Tryz.start hs hL) (.cons (vrel_any _ w0) (.cons (vrel_byte _ h1 (by omega)) .nil))
  rcases Nat.lt_or_ge r1 2 with g1_1 | g1_1
  · skip
    exact law_all (Go.Ab.Tryz.fsOk 99) (dok (Go.Ab.Tryz.fsOk 99) Go.Ab.Tryz.mixed _ _) Go.Ab.Tryz.c3 (args' := [.int .i64 a0, .int .u8 a1]) Go.Ab.Tryz.evTableBytes1 (Go.Ab.Tryz.start hs hL) (.cons (vrel_any _ w0) (.cons (vrel_byte _ h1 (by omega)) .nil))
  rcases Nat.lt_or_ge r1 3 with g1_2 | g1_2
  · skip
    exact law_all (Go.Ab.Tryz.fsOk 99) (dok (Go.Ab.Tryz.fsOk 99) Go.Ab.Tryz.mixed _ _) Go.Ab.Tryz.c3 (args' := [.int .i64 a0, .int .u8 a1]) Go.Ab.Tryz.evTableBytes2 (Go.Ab.Tryz.start hs hL) (.cons (vrel_any _ w0) (.cons (vrel_byte _ h1 (by omega)) .nil))
  rcases Nat.lt_or_ge r1 4 with g1_3 | g1_3
  · skip
    exact law_all (Go.Ab.Tryz.fsOk 99) (dok (Go.Ab.Tryz.fsOk 99) Go.Ab.Tryz.mixed _ _) Go.Ab.Tryz.c3 (args' := [.int .i64 a0, .int .u8 a1]) Go.Ab.Tryz.evTableBytes3 (Go.Ab.Tryz.start hs hL) (.cons (vrel_any _ w0) (.cons (vrel_byte _ h1 (by omega)) .nil))
  exact law_all (Go.Ab.Tryz.fsOk 99) (dok (Go.Ab.Tryz.fsOk 99) Go.Ab.Tryz.mixed _ _) Go.Ab.Tryz.c3 (args' := [.int .i64 a0, .int .u8 a1]) Go.Ab.Tryz.evTableBytes4 (Go.Ab.Tryz.start hs hL) (.cons (vrel_any _ w0) (.cons (vrel_byteR (lo := 4) (hi := 255) _ h1 l1 (by omega) (by omega)) .nil))
set_option maxRecDepth 100000 in
theorem lifted (os : Os) (started : os.Started) (H : Type) (enc : TypeId × Value → H) :
    ReturnsInHanded {} Tryz.checked os 3 .any (fun w args => (Rows.tableBytesSpec.pre enc Tryz.prog Tryz.f3 Rows.tableBytesRow.domain false w args ∧ laidMetH Tryz.prog Rows.tableBytesRow.laid w) ∧ sizedMet enc Tryz.prog Tryz.f3 (OpenSpec.ofChange Rows.tableBytesSpec) false w args)
      (Rows.tableBytesSpec.post enc Tryz.prog Tryz.f3 false true false false) := by
  refine handed_shaped (C := Tryz.checked) (X := fun w _ => laidMetH Tryz.prog Rows.tableBytesRow.laid w) (fun _ _ _ hh h => h.of_heap hh) own started (by kernel_rfl) Tryz.func3
    (ChangeSpec.witness_shaped (enc := enc) (C := Tryz.checked) (os := os) (X := fun w _ => laidMetH Tryz.prog Rows.tableBytesRow.laid w) false (World.laidAll Tryz.prog os Rows.tableBytesRow.laid) #[.int .i64 0, .int .u8 0] 8 (World.laidAll_os _ _ _)
      (World.shaped_of_ZipB (by kernel_rfl) (by kernel_rfl)) (by kernel_rfl) (by kernel_rfl) (by kernel_rfl)
      (by rw [MakeChecks.laidMetH_plain _ _ _ (by kernel_rfl)]; exact laidMet_laidAll _ (by kernel_rfl) (by kernel_rfl))) ?_
  intro W base args ds gs before hsh hval0 hW hL
  have hval : ∀ (j : Nat) t v, Tryz.f3.params[j]? = some t → args[j]? = some v → Value.okWide Tryz.prog W .any base t v := hval0
  have hW' := hW
  obtain ⟨p, q, hA0, hV, rfl, hfz, hnd⟩ := hW
  have hA : DataW.TrodAll enc Tryz.prog W 0 (fun _ => true) true Tryz.f3.params.toList args.toList ds p := hA0
  rw [Tryz.params3] at hA hval
  obtain ⟨v0, vs0, d0, ds0, p0, q0, hargs, rfl, rfl, h0, r0⟩ := trodAll_cons hA
  obtain ⟨v1, vs1, d1, ds1, p1, q1, rfl, rfl, rfl, h1, r1⟩ := trodAll_cons r0
  obtain ⟨rfl, rfl, rfl⟩ := trodAll_nil r1
  obtain rfl : args = #[v0, v1] := by cases args; simp_all
  obtain ⟨rfl, rfl⟩ := trodVars_none hV
  obtain ⟨a0, rfl, rfl, rfl, w0⟩ := open_int Tryz.underlying3 (hval 0 3 v0 rfl rfl) h0
  obtain ⟨a1, rfl, rfl, rfl, w1⟩ := open_int Tryz.underlying5 (hval 1 5 v1 rfl rfl) h1
  clear hA0 hval0
  simp only [List.append_nil] at hW'
  refine (walk a0 a1 w0 w1 W hsh hL).mono fun e W' ⟨he, hg⟩ => ?_
  subst he
  exact ⟨_, rfl, post_kept (pa := []) (pv := []) hW' (fun _ _ _ => (trodAll_cons_mk (shut_bool Tryz.underlying4 _) trodAll_mk0)) (fun sp => (trodAll_cons_mk (shut_int Tryz.underlying3 w0) (trodAll_cons_mk (shut_int Tryz.underlying5 w1) trodAll_mk0))) (fun _ => rfl) hg⟩

theorem j1 : Rows.tableBytesRow.wf (OpenSpec.ofChange Rows.tableBytesSpec) = true := by kernel_rfl
theorem j4 : (Tryz.f3.params.all (Tryz.prog.readableRec ·)) = true := by kernel_rfl
theorem j5 : namedTie Tryz.prog Rows.tableBytesRow.named Rows.tableBytesSpec.vars = true := by kernel_rfl
theorem j10 : (Rows.tableBytesRow.inPlace == Tryz.prog.inPlace 3) = true := by kernel_rfl
theorem j11 : (Rows.tableBytesRow.unfollowed == Tryz.prog.unfollowed 3) = true := by kernel_rfl
theorem j12 : (Rows.tableBytesRow.recurses == Tryz.prog.recurses 3) = true := by kernel_rfl
theorem j13 : (Rows.tableBytesRow.named == Tryz.prog.varsNamed 3) = true := by kernel_rfl
theorem j22 : (Rows.tableBytesRow.plainKeys == Tryz.prog.plainKeys) = true := by kernel_rfl
theorem j24b : (Rows.tableBytesRow.lifted == Tryz.prog.liftsFinal) = true := by kernel_rfl
theorem jf : joinedFacts Tryz.prog 3 Tryz.f3 Rows.tableBytesSpec Rows.tableBytesRow = true := by
  unfold joinedFacts
  rw [j1, p2, p3, j4, j5, j10, j11, j12, j13, j22, p23b, p24, j24b]
  kernel_rfl
theorem inst : Tryz.f3.isInstance Tryz.prog Rows.tableBytesRow.origin Rows.tableBytesRow.targs := of_decide_eq_true (by kernel_rfl)
theorem wrap : Tryz.f3.isWrapper Tryz.prog Rows.tableBytesRow.wrapper Rows.tableBytesRow.mainSum := by unfold Func.isWrapper; first | (rw [if_pos (by decide +kernel)]; kernel_rfl) | (rw [if_neg (by decide +kernel)]; exact ⟨rfl, rfl⟩)
theorem fnNamed : Tryz.prog.funcNamed "exegete/exegetelaw13.TableBytes" = some 3 := by kernel_rfl
theorem over : Rows.tableBytesRow.holds Tryz.pinned (OpenSpec.ofChange Rows.tableBytesSpec) :=
  OpenClaim.holds_of_wide 3 Tryz.f3 rfl rfl rfl rfl rfl rfl rfl ⟨rfl, rfl, rfl, rfl, rfl⟩ rfl rfl rfl rfl rfl fnNamed Tryz.func3 jf
    inst wrap
    (fun os started H enc _ => lifted os started H enc)
theorem q1 : Rows.tableBytesRow.wfByText (OpenSpec.ofChange Rows.tableBytesSpec) = true := by kernel_rfl
theorem q4 : ([3, 5].all fun u => !Tryz.prog.wantsStandIn u) = true := by kernel_rfl
theorem q5 : false = Rows.tableBytesRow.goesBy Tryz.prog := by kernel_rfl
theorem proved : Rows.TableBytesCardSaid :=
  Claim7.holds_tied_plain_at .later [] [.data, .data, .data, .data, .pinned] true (true, "c1def23b0f26cc96193b4ec93cf4a8ebab1eb15391234d3fdd0a9735a667ee51") true over (fun _ h => by cases h) q1 (fun _ h => by cases h) tableBytes_row_tie rfl ⟨rfl, rfl⟩ q2 rfl
    (fun f fn hf hfn => by
      obtain rfl : f = 3 := Option.some.inj (fnNamed.symm.trans hf) |>.symm
      obtain rfl : fn = Tryz.f3 := (Option.some.inj (Tryz.func3.symm.trans hfn)).symm
      exact ⟨q3, fun j t ht => by
        rw [Tryz.params3] at ht
        have hm : t ∈ [3, 5] := by simpa using Array.mem_of_getElem? ht
        exact (show Tryz.prog.wantsStandIn t = false by simpa using List.all_eq_true.1 q4 t hm)⟩)
    q5
#print axioms proved
end Go.Proofs.YtcmfmnoamiibeaaGreatDoor.tableBytes
