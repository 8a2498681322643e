/- ConsoleDay answers true for every argument, and changes nothing that was there. Conditions: those of the given statement, and no others. -/
import Derived.Test.YtjleffkdaiaknaaGreatDoorAbAll
import Derived.Test.YtjleffkdaiaknaaGreatDoorCdE0
import Derived.Test.YtjleffkdaiaknaaGreatDoorCdE1
import Derived.Test.YtjleffkdaiaknaaGreatDoorCdE2
import Derived.Test.YtjleffkdaiaknaaGreatDoorCdCzu
import Derived.Test.YtjleffkdaiaknaaGreatDoorTie
import Derived.Test.YtjleffkdaiaknaaGreatDoorCards
import Derived.Test.YtjleffkdaiaknaaGreatDoorJ
import Derived.ProofKit
import Derived.OpenShut
import Derived.LaidMore
import Derived.Lay
import Derived.SevenTiedAt
import Derived.Stop.Joined
namespace Go.Proofs.YtjleffkdaiaknaaGreatDoor.consoleDay
open Go Go.ChangeShapes Go.WideShapes Go.ChangeAt Go.RowKit Go.Ab
theorem own : ownKnob Tryz.prog.godebug = none := by kernel_rfl
theorem laid_eq : Rows.consoleDayRow.laid = Go.Ab.Tryz.laidL := by kernel_rfl
theorem vl {e : Emb} {z : Int} {m r : Nat} (lo hi : Nat) (hz : (Lit.int .i64 z).wf = true) (hr : z % (m : Int) = r) (h1 : lo ≤ r := by omega) (h2 : r ≤ hi := by omega) (h3 : hi < 65536 := by decide) : VRel e (.x (.sy m (lo * 65536 + hi))) (.int .i64 z) := vrel_leftR e hz hr h1 h2 h3
set_option maxRecDepth 100000 in
theorem lwz {args : List AV} {args' : List Value} {W : World} (hs : W.ShapedOpen Tryz.prog) (hL : laidMetH Tryz.prog Go.Ab.Tryz.laidL W) (hr : Go.Ab.Tryz.k4.lawOk (fsN Go.Ab.Tryz.Tz 99) 40 args (heapOf Go.Ab.Tryz.bs) = true) (ha : VRels (emb0 Go.Ab.Tryz.bs) args args') :
    Calls Tryz.prog 4 args'.toArray W (fun e w' => e = .returned (.bool true) ∧ Kept W w') :=
  law_all (F := fsN Go.Ab.Tryz.Tz 99) (Go.Ab.Tryz.fsOkz 99) (dok (Go.Ab.Tryz.fsOkz 99) Go.Ab.Tryz.mixed _ _) Go.Ab.Tryz.c4 hr (Go.Ab.Tryz.start hs hL) ha
theorem walk (a0 : Int) (w0 : (Lit.int .i64 a0).wf = true) (W : World) (hs : W.ShapedOpen Tryz.prog) (hL : laidMetH Tryz.prog Rows.consoleDayRow.laid W) :
    Calls Tryz.prog 4 #[.int .i64 a0] W fun e w' => e = .returned (.bool true) ∧ Kept W w' := by
  rw [laid_eq] at hL
  obtain ⟨r0, h0, l0⟩ := left_of a0 3 (by decide)
  rcases Nat.lt_or_ge r0 1 with g0_0 | g0_0
  · skip
    exact lwz hs hL Go.Ab.Tryz.evConsoleDay0 (.cons (vl 0 0 w0 h0) .nil)
  rcases Nat.lt_or_ge r0 2 with g0_1 | g0_1
  · skip
    exact lwz hs hL Go.Ab.Tryz.evConsoleDay1 (.cons (vl 1 1 w0 h0) .nil)
  exact lwz hs hL Go.Ab.Tryz.evConsoleDay2 (.cons (vl 2 2 w0 h0) .nil)
set_option maxRecDepth 100000 in
theorem lifted (os : Os) (started : os.Started) (H : Type) (enc : TypeId × Value → H) :
    ReturnsInHanded {} Tryz.checked os 4 .any (fun w args => (Rows.consoleDaySpec.pre enc Tryz.prog Tryz.f4 Rows.consoleDayRow.domain false w args ∧ laidMetH Tryz.prog Rows.consoleDayRow.laid w) ∧ sizedMet enc Tryz.prog Tryz.f4 (OpenSpec.ofChange Rows.consoleDaySpec) false w args)
      (Rows.consoleDaySpec.post enc Tryz.prog Tryz.f4 false true false false) := by
  refine handed_shaped (C := Tryz.checked) (X := fun w _ => laidMetH Tryz.prog Rows.consoleDayRow.laid w) (fun _ _ _ hh h => h.of_heap hh) own started (by kernel_rfl) Tryz.func4
    (ChangeSpec.witness_shaped (enc := enc) (C := Tryz.checked) (os := os) (X := fun w _ => laidMetH Tryz.prog Rows.consoleDayRow.laid w) false (World.laidAll Tryz.prog os Rows.consoleDayRow.laid) #[.int .i64 0] 8 (World.laidAll_os _ _ _)
      (World.shaped_of_ZipB (by kernel_rfl) (by kernel_rfl)) (by kernel_rfl) (by kernel_rfl) (by kernel_rfl)
      (by rw [MakeChecks.laidMetH_plain _ _ _ (by kernel_rfl)]; exact laidMet_laidAll _ (by kernel_rfl) (by kernel_rfl))) ?_
  intro W base args ds gs before hsh hval0 hW hL
  have hval : ∀ (j : Nat) t v, Tryz.f4.params[j]? = some t → args[j]? = some v → Value.okWide Tryz.prog W .any base t v := hval0
  have hW' := hW
  obtain ⟨p, q, hA0, hV, rfl, hfz, hnd⟩ := hW
  have hA : DataW.TrodAll enc Tryz.prog W 0 (fun _ => true) true Tryz.f4.params.toList args.toList ds p := hA0
  rw [Tryz.params4] at hA hval
  obtain ⟨v0, vs0, d0, ds0, p0, q0, hargs, rfl, rfl, h0, r0⟩ := trodAll_cons hA
  obtain ⟨rfl, rfl, rfl⟩ := trodAll_nil r0
  obtain rfl : args = #[v0] := by cases args; simp_all
  obtain ⟨rfl, rfl⟩ := trodVars_none hV
  obtain ⟨a0, rfl, rfl, rfl, w0⟩ := open_int Tryz.underlying3 (hval 0 3 v0 rfl rfl) h0
  clear hA0 hval0
  simp only [List.append_nil] at hW'
  refine (walk a0 w0 W hsh hL).mono fun e W' ⟨he, hg⟩ => ?_
  subst he
  exact ⟨_, rfl, post_kept (pa := []) (pv := []) hW' (fun _ _ _ => (trodAll_cons_mk (shut_bool Tryz.underlying4 _) trodAll_mk0)) (fun sp => (trodAll_cons_mk (shut_int Tryz.underlying3 w0) trodAll_mk0)) (fun _ => rfl) hg⟩

theorem j1 : Rows.consoleDayRow.wf (OpenSpec.ofChange Rows.consoleDaySpec) = true := by kernel_rfl
theorem j4 : (Tryz.f4.params.all (Tryz.prog.readableRec ·)) = true := by kernel_rfl
theorem j5 : namedTie Tryz.prog Rows.consoleDayRow.named Rows.consoleDaySpec.vars = true := by kernel_rfl
theorem j10 : (Rows.consoleDayRow.inPlace == Tryz.prog.inPlace 4) = true := by kernel_rfl
theorem j11 : (Rows.consoleDayRow.unfollowed == Tryz.prog.unfollowed 4) = true := by kernel_rfl
theorem j12 : (Rows.consoleDayRow.recurses == Tryz.prog.recurses 4) = true := by kernel_rfl
theorem j13 : (Rows.consoleDayRow.named == Tryz.prog.varsNamed 4) = true := by kernel_rfl
theorem j22 : (Rows.consoleDayRow.plainKeys == Tryz.prog.plainKeys) = true := by kernel_rfl
theorem j24b : (Rows.consoleDayRow.lifted == Tryz.prog.liftsFinal) = true := by kernel_rfl
theorem jf : joinedFacts Tryz.prog 4 Tryz.f4 Rows.consoleDaySpec Rows.consoleDayRow = true := by
  unfold joinedFacts
  rw [j1, p2, p3, j4, j5, j10, j11, j12, j13, j22, p23b, p24, j24b]
  kernel_rfl
theorem inst : Tryz.f4.isInstance Tryz.prog Rows.consoleDayRow.origin Rows.consoleDayRow.targs := of_decide_eq_true (by kernel_rfl)
theorem wrap : Tryz.f4.isWrapper Tryz.prog Rows.consoleDayRow.wrapper Rows.consoleDayRow.mainSum := by unfold Func.isWrapper; first | (rw [if_pos (by decide +kernel)]; kernel_rfl) | (rw [if_neg (by decide +kernel)]; exact ⟨rfl, rfl⟩)
theorem fnNamed : Tryz.prog.funcNamed "exegete/exegetelaw25.ConsoleDay" = some 4 := by kernel_rfl
theorem over : Rows.consoleDayRow.holds Tryz.pinned (OpenSpec.ofChange Rows.consoleDaySpec) :=
  OpenClaim.holds_of_wide 4 Tryz.f4 rfl rfl rfl rfl rfl rfl rfl ⟨rfl, rfl, rfl, rfl, rfl⟩ rfl rfl rfl rfl rfl fnNamed Tryz.func4 jf
    inst wrap
    (fun os started H enc _ => lifted os started H enc)
theorem q1 : Rows.consoleDayRow.wfByText (OpenSpec.ofChange Rows.consoleDaySpec) = true := by kernel_rfl
theorem q4 : ([3].all fun u => !Tryz.prog.wantsStandIn u) = true := by kernel_rfl
theorem q5 : false = Rows.consoleDayRow.goesBy Tryz.prog := by kernel_rfl
theorem proved : Rows.ConsoleDayCardSaid :=
  Claim7.holds_tied_plain_at .later [] [.data, .data, .data, .data, .sentinel, .sentinel, .pinned] true (true, "908c56f920478d7a9d685feb152f7ded868f528006a7e75ba93741bda840bd24") true over (fun _ h => by cases h) q1 (fun _ h => by cases h) consoleDay_row_tie rfl ⟨rfl, rfl⟩ q2 rfl
    (fun f fn hf hfn => by
      obtain rfl : f = 4 := Option.some.inj (fnNamed.symm.trans hf) |>.symm
      obtain rfl : fn = Tryz.f4 := (Option.some.inj (Tryz.func4.symm.trans hfn)).symm
      exact ⟨q3, fun j t ht => by
        rw [Tryz.params4] at ht
        have hm : t ∈ [3] := by simpa using Array.mem_of_getElem? ht
        exact (show Tryz.prog.wantsStandIn t = false by simpa using List.all_eq_true.1 q4 t hm)⟩)
    q5
#print axioms proved
end Go.Proofs.YtjleffkdaiaknaaGreatDoor.consoleDay
