/- FactForms answers true for every argument, and changes nothing that was there. Conditions: those of the given statement, and no others. -/
import Derived.Test.YtocibeohfbdndaaGreatDoorAbAll
import Derived.Test.YtocibeohfbdndaaGreatDoorFfE0
import Derived.Test.YtocibeohfbdndaaGreatDoorFfE1
import Derived.Test.YtocibeohfbdndaaGreatDoorFfE2
import Derived.Test.YtocibeohfbdndaaGreatDoorFfE3
import Derived.Test.YtocibeohfbdndaaGreatDoorFfE4
import Derived.Test.YtocibeohfbdndaaGreatDoorFfCxu
import Derived.Test.YtocibeohfbdndaaGreatDoorTie
import Derived.Test.YtocibeohfbdndaaGreatDoorCards
import Derived.Test.YtocibeohfbdndaaGreatDoorJ
import Derived.ProofKit
import Derived.OpenShut
import Derived.LaidMore
import Derived.Lay
import Derived.SevenTiedAt
import Derived.Stop.Joined
namespace Go.Proofs.YtocibeohfbdndaaGreatDoor.factForms
open Go Go.ChangeShapes Go.WideShapes Go.ChangeAt Go.RowKit Go.Ab
theorem own : ownKnob Tryz.prog.godebug = none := by kernel_rfl
theorem laid_eq : Rows.factFormsRow.laid = Go.Ab.Tryz.laidL := by kernel_rfl
theorem vl {e : Emb} {z : Int} {m r : Nat} (lo hi : Nat) (hz : (Lit.int .i64 z).wf = true) (hr : z % (m : Int) = r) (h1 : lo ≤ r := by omega) (h2 : r ≤ hi := by omega) (h3 : hi < 65536 := by decide) : VRel e (.x (.sy m (lo * 65536 + hi))) (.int .i64 z) := vrel_leftR e hz hr h1 h2 h3
theorem lwx {args : List AV} {args' : List Value} {W : World} (hs : W.ShapedOpen Tryz.prog) (hL : laidMetH Tryz.prog Go.Ab.Tryz.laidL W) (hr : Go.Ab.Tryz.k7.lawOk (fsN Go.Ab.Tryz.Tx_2 99) 0 args (heapOf Go.Ab.Tryz.bs) = true) (ha : VRels (emb0 Go.Ab.Tryz.bs) args args') :
    Calls Tryz.prog 7 args'.toArray W (fun e w' => e = .returned (.bool true) ∧ Kept W w') :=
  law_all (Go.Ab.Tryz.fsOkx 99) (dok (Go.Ab.Tryz.fsOkx 99) Go.Ab.Tryz.mixed _ _) Go.Ab.Tryz.c7 hr (Go.Ab.Tryz.start hs hL) ha
theorem walk (a0 : Int) (w0 : (Lit.int .i64 a0).wf = true) (W : World) (hs : W.ShapedOpen Tryz.prog) (hL : laidMetH Tryz.prog Rows.factFormsRow.laid W) :
    Calls Tryz.prog 7 #[.int .i64 a0] W fun e w' => e = .returned (.bool true) ∧ Kept W w' := by
  rw [laid_eq] at hL
  obtain ⟨r0, h0, l0⟩ := left_of a0 50 (by decide)
  rcases Nat.lt_or_ge r0 1 with g0_0 | g0_0
  · skip
    exact lwx hs hL Go.Ab.Tryz.evFactForms0 (.cons (vl 0 0 w0 h0) .nil)
  rcases Nat.lt_or_ge r0 2 with g0_1 | g0_1
  · skip
    exact lwx hs hL Go.Ab.Tryz.evFactForms1 (.cons (vl 1 1 w0 h0) .nil)
  rcases Nat.lt_or_ge r0 3 with g0_2 | g0_2
  · skip
    exact lwx hs hL Go.Ab.Tryz.evFactForms2 (.cons (vl 2 2 w0 h0) .nil)
  rcases Nat.lt_or_ge r0 4 with g0_3 | g0_3
  · skip
    exact lwx hs hL Go.Ab.Tryz.evFactForms3 (.cons (vl 3 3 w0 h0) .nil)
  rcases Nat.lt_or_ge r0 5 with g0_4 | g0_4
  · skip
    exact lwx hs hL Go.Ab.Tryz.evFactForms4 (.cons (vl 4 4 w0 h0) .nil)
  rcases Nat.lt_or_ge r0 6 with g0_5 | g0_5
  · skip
    exact lwx hs hL Go.Ab.Tryz.evFactForms5 (.cons (vl 5 5 w0 h0) .nil)
  rcases Nat.lt_or_ge r0 7 with g0_6 | g0_6
  · skip
    exact lwx hs hL Go.Ab.Tryz.evFactForms6 (.cons (vl 6 6 w0 h0) .nil)
  rcases Nat.lt_or_ge r0 8 with g0_7 | g0_7
  · skip
    exact lwx hs hL Go.Ab.Tryz.evFactForms7 (.cons (vl 7 7 w0 h0) .nil)
  rcases Nat.lt_or_ge r0 9 with g0_8 | g0_8
  · skip
    exact lwx hs hL Go.Ab.Tryz.evFactForms8 (.cons (vl 8 8 w0 h0) .nil)
  rcases Nat.lt_or_ge r0 10 with g0_9 | g0_9
  · skip
    exact lwx hs hL Go.Ab.Tryz.evFactForms9 (.cons (vl 9 9 w0 h0) .nil)
  rcases Nat.lt_or_ge r0 11 with g0_10 | g0_10
  · skip
    exact lwx hs hL Go.Ab.Tryz.evFactForms10 (.cons (vl 10 10 w0 h0) .nil)
  rcases Nat.lt_or_ge r0 12 with g0_11 | g0_11
  · skip
    exact lwx hs hL Go.Ab.Tryz.evFactForms11 (.cons (vl 11 11 w0 h0) .nil)
  rcases Nat.lt_or_ge r0 13 with g0_12 | g0_12
  · skip
    exact lwx hs hL Go.Ab.Tryz.evFactForms12 (.cons (vl 12 12 w0 h0) .nil)
  rcases Nat.lt_or_ge r0 14 with g0_13 | g0_13
  · skip
    exact lwx hs hL Go.Ab.Tryz.evFactForms13 (.cons (vl 13 13 w0 h0) .nil)
  rcases Nat.lt_or_ge r0 15 with g0_14 | g0_14
  · skip
    exact lwx hs hL Go.Ab.Tryz.evFactForms14 (.cons (vl 14 14 w0 h0) .nil)
  rcases Nat.lt_or_ge r0 16 with g0_15 | g0_15
  · skip
    exact lwx hs hL Go.Ab.Tryz.evFactForms15 (.cons (vl 15 15 w0 h0) .nil)
  rcases Nat.lt_or_ge r0 17 with g0_16 | g0_16
  · skip
    exact lwx hs hL Go.Ab.Tryz.evFactForms16 (.cons (vl 16 16 w0 h0) .nil)
  rcases Nat.lt_or_ge r0 18 with g0_17 | g0_17
  · skip
    exact lwx hs hL Go.Ab.Tryz.evFactForms17 (.cons (vl 17 17 w0 h0) .nil)
  rcases Nat.lt_or_ge r0 19 with g0_18 | g0_18
  · skip
    exact lwx hs hL Go.Ab.Tryz.evFactForms18 (.cons (vl 18 18 w0 h0) .nil)
  rcases Nat.lt_or_ge r0 20 with g0_19 | g0_19
  · skip
    exact lwx hs hL Go.Ab.Tryz.evFactForms19 (.cons (vl 19 19 w0 h0) .nil)
  rcases Nat.lt_or_ge r0 21 with g0_20 | g0_20
  · skip
    exact lwx hs hL Go.Ab.Tryz.evFactForms20 (.cons (vl 20 20 w0 h0) .nil)
  rcases Nat.lt_or_ge r0 22 with g0_21 | g0_21
  · skip
    exact lwx hs hL Go.Ab.Tryz.evFactForms21 (.cons (vl 21 21 w0 h0) .nil)
  rcases Nat.lt_or_ge r0 23 with g0_22 | g0_22
  · skip
    exact lwx hs hL Go.Ab.Tryz.evFactForms22 (.cons (vl 22 22 w0 h0) .nil)
  rcases Nat.lt_or_ge r0 24 with g0_23 | g0_23
  · skip
    exact lwx hs hL Go.Ab.Tryz.evFactForms23 (.cons (vl 23 23 w0 h0) .nil)
  rcases Nat.lt_or_ge r0 25 with g0_24 | g0_24
  · skip
    exact lwx hs hL Go.Ab.Tryz.evFactForms24 (.cons (vl 24 24 w0 h0) .nil)
  rcases Nat.lt_or_ge r0 26 with g0_25 | g0_25
  · skip
    exact lwx hs hL Go.Ab.Tryz.evFactForms25 (.cons (vl 25 25 w0 h0) .nil)
  rcases Nat.lt_or_ge r0 27 with g0_26 | g0_26
  · skip
    exact lwx hs hL Go.Ab.Tryz.evFactForms26 (.cons (vl 26 26 w0 h0) .nil)
  rcases Nat.lt_or_ge r0 28 with g0_27 | g0_27
  · skip
    exact lwx hs hL Go.Ab.Tryz.evFactForms27 (.cons (vl 27 27 w0 h0) .nil)
  rcases Nat.lt_or_ge r0 29 with g0_28 | g0_28
  · skip
    exact lwx hs hL Go.Ab.Tryz.evFactForms28 (.cons (vl 28 28 w0 h0) .nil)
  rcases Nat.lt_or_ge r0 30 with g0_29 | g0_29
  · skip
    exact lwx hs hL Go.Ab.Tryz.evFactForms29 (.cons (vl 29 29 w0 h0) .nil)
  rcases Nat.lt_or_ge r0 31 with g0_30 | g0_30
  · skip
    exact lwx hs hL Go.Ab.Tryz.evFactForms30 (.cons (vl 30 30 w0 h0) .nil)
  rcases Nat.lt_or_ge r0 32 with g0_31 | g0_31
  · skip
    exact lwx hs hL Go.Ab.Tryz.evFactForms31 (.cons (vl 31 31 w0 h0) .nil)
  rcases Nat.lt_or_ge r0 33 with g0_32 | g0_32
  · skip
    exact lwx hs hL Go.Ab.Tryz.evFactForms32 (.cons (vl 32 32 w0 h0) .nil)
  rcases Nat.lt_or_ge r0 34 with g0_33 | g0_33
  · skip
    exact lwx hs hL Go.Ab.Tryz.evFactForms33 (.cons (vl 33 33 w0 h0) .nil)
  rcases Nat.lt_or_ge r0 35 with g0_34 | g0_34
  · skip
    exact lwx hs hL Go.Ab.Tryz.evFactForms34 (.cons (vl 34 34 w0 h0) .nil)
  rcases Nat.lt_or_ge r0 36 with g0_35 | g0_35
  · skip
    exact lwx hs hL Go.Ab.Tryz.evFactForms35 (.cons (vl 35 35 w0 h0) .nil)
  rcases Nat.lt_or_ge r0 37 with g0_36 | g0_36
  · skip
    exact lwx hs hL Go.Ab.Tryz.evFactForms36 (.cons (vl 36 36 w0 h0) .nil)
  rcases Nat.lt_or_ge r0 38 with g0_37 | g0_37
  · skip
    exact lwx hs hL Go.Ab.Tryz.evFactForms37 (.cons (vl 37 37 w0 h0) .nil)
  rcases Nat.lt_or_ge r0 39 with g0_38 | g0_38
  · skip
    exact lwx hs hL Go.Ab.Tryz.evFactForms38 (.cons (vl 38 38 w0 h0) .nil)
  rcases Nat.lt_or_ge r0 40 with g0_39 | g0_39
  · skip
    exact lwx hs hL Go.Ab.Tryz.evFactForms39 (.cons (vl 39 39 w0 h0) .nil)
  rcases Nat.lt_or_ge r0 41 with g0_40 | g0_40
  · skip
    exact lwx hs hL Go.Ab.Tryz.evFactForms40 (.cons (vl 40 40 w0 h0) .nil)
  rcases Nat.lt_or_ge r0 42 with g0_41 | g0_41
  · skip
    exact lwx hs hL Go.Ab.Tryz.evFactForms41 (.cons (vl 41 41 w0 h0) .nil)
  rcases Nat.lt_or_ge r0 43 with g0_42 | g0_42
  · skip
    exact lwx hs hL Go.Ab.Tryz.evFactForms42 (.cons (vl 42 42 w0 h0) .nil)
  rcases Nat.lt_or_ge r0 44 with g0_43 | g0_43
  · skip
    exact lwx hs hL Go.Ab.Tryz.evFactForms43 (.cons (vl 43 43 w0 h0) .nil)
  rcases Nat.lt_or_ge r0 45 with g0_44 | g0_44
  · skip
    exact lwx hs hL Go.Ab.Tryz.evFactForms44 (.cons (vl 44 44 w0 h0) .nil)
  rcases Nat.lt_or_ge r0 46 with g0_45 | g0_45
  · skip
    exact lwx hs hL Go.Ab.Tryz.evFactForms45 (.cons (vl 45 45 w0 h0) .nil)
  rcases Nat.lt_or_ge r0 47 with g0_46 | g0_46
  · skip
    exact lwx hs hL Go.Ab.Tryz.evFactForms46 (.cons (vl 46 46 w0 h0) .nil)
  rcases Nat.lt_or_ge r0 48 with g0_47 | g0_47
  · skip
    exact lwx hs hL Go.Ab.Tryz.evFactForms47 (.cons (vl 47 47 w0 h0) .nil)
  rcases Nat.lt_or_ge r0 49 with g0_48 | g0_48
  · skip
    exact lwx hs hL Go.Ab.Tryz.evFactForms48 (.cons (vl 48 48 w0 h0) .nil)
  exact lwx hs hL Go.Ab.Tryz.evFactForms49 (.cons (vl 49 49 w0 h0) .nil)
set_option maxRecDepth 100000 in
theorem lifted (os : Os) (started : os.Started) (H : Type) (enc : TypeId × Value → H) :
    ReturnsInHanded {} Tryz.checked os 7 .any (fun w args => (Rows.factFormsSpec.pre enc Tryz.prog Tryz.f7 Rows.factFormsRow.domain false w args ∧ laidMetH Tryz.prog Rows.factFormsRow.laid w) ∧ sizedMet enc Tryz.prog Tryz.f7 (OpenSpec.ofChange Rows.factFormsSpec) false w args)
      (Rows.factFormsSpec.post enc Tryz.prog Tryz.f7 false true false false) := by
  refine handed_shaped (C := Tryz.checked) (X := fun w _ => laidMetH Tryz.prog Rows.factFormsRow.laid w) (fun _ _ _ hh h => h.of_heap hh) own started (by kernel_rfl) Tryz.func7
    (ChangeSpec.witness_shaped (enc := enc) (C := Tryz.checked) (os := os) (X := fun w _ => laidMetH Tryz.prog Rows.factFormsRow.laid w) false (World.laidAll Tryz.prog os Rows.factFormsRow.laid) #[.int .i64 0] 8 (World.laidAll_os _ _ _)
      (World.shaped_of_ZipB (by kernel_rfl) (by kernel_rfl)) (by kernel_rfl) (by kernel_rfl) (by kernel_rfl)
      (by rw [MakeChecks.laidMetH_plain _ _ _ (by kernel_rfl)]; exact laidMet_laidAll _ (by kernel_rfl) (by kernel_rfl))) ?_
  intro W base args ds gs before hsh hval0 hW hL
  have hval : ∀ (j : Nat) t v, Tryz.f7.params[j]? = some t → args[j]? = some v → Value.okWide Tryz.prog W .any base t v := hval0
  have hW' := hW
  obtain ⟨p, q, hA0, hV, rfl, hfz, hnd⟩ := hW
  have hA : DataW.TrodAll enc Tryz.prog W 0 (fun _ => true) true Tryz.f7.params.toList args.toList ds p := hA0
  rw [Tryz.params7] at hA hval
  obtain ⟨v0, vs0, d0, ds0, p0, q0, hargs, rfl, rfl, h0, r0⟩ := trodAll_cons hA
  obtain ⟨rfl, rfl, rfl⟩ := trodAll_nil r0
  obtain rfl : args = #[v0] := by cases args; simp_all
  obtain ⟨rfl, rfl⟩ := trodVars_none hV
  obtain ⟨a0, rfl, rfl, rfl, w0⟩ := open_int Tryz.underlying3 (hval 0 3 v0 rfl rfl) h0
  clear hA0 hval0
  simp only [List.append_nil] at hW'
  refine (walk a0 w0 W hsh hL).mono fun e W' ⟨he, hg⟩ => ?_
  subst he
  exact ⟨_, rfl, post_kept (pa := []) (pv := []) hW' (fun _ _ _ => (trodAll_cons_mk (shut_bool Tryz.underlying4 _) trodAll_mk0)) (fun sp => (trodAll_cons_mk (shut_int Tryz.underlying3 w0) trodAll_mk0)) (fun _ => rfl) hg⟩

theorem j1 : Rows.factFormsRow.wf (OpenSpec.ofChange Rows.factFormsSpec) = true := by kernel_rfl
theorem j4 : (Tryz.f7.params.all (Tryz.prog.readableRec ·)) = true := by kernel_rfl
theorem j5 : namedTie Tryz.prog Rows.factFormsRow.named Rows.factFormsSpec.vars = true := by kernel_rfl
theorem j10 : (Rows.factFormsRow.inPlace == Tryz.prog.inPlace 7) = true := by kernel_rfl
theorem j11 : (Rows.factFormsRow.unfollowed == Tryz.prog.unfollowed 7) = true := by kernel_rfl
theorem j12 : (Rows.factFormsRow.recurses == Tryz.prog.recurses 7) = true := by kernel_rfl
theorem j13 : (Rows.factFormsRow.named == Tryz.prog.varsNamed 7) = true := by kernel_rfl
theorem j22 : (Rows.factFormsRow.plainKeys == Tryz.prog.plainKeys) = true := by kernel_rfl
theorem j24b : (Rows.factFormsRow.lifted == Tryz.prog.liftsFinal) = true := by kernel_rfl
theorem jf : joinedFacts Tryz.prog 7 Tryz.f7 Rows.factFormsSpec Rows.factFormsRow = true := by
  unfold joinedFacts
  rw [j1, p2, p3, j4, j5, j10, j11, j12, j13, j22, p23b, p24, j24b]
  kernel_rfl
theorem inst : Tryz.f7.isInstance Tryz.prog Rows.factFormsRow.origin Rows.factFormsRow.targs := of_decide_eq_true (by kernel_rfl)
theorem wrap : Tryz.f7.isWrapper Tryz.prog Rows.factFormsRow.wrapper Rows.factFormsRow.mainSum := by unfold Func.isWrapper; first | (rw [if_pos (by decide +kernel)]; kernel_rfl) | (rw [if_neg (by decide +kernel)]; exact ⟨rfl, rfl⟩)
theorem fnNamed : Tryz.prog.funcNamed "exegete/exegetelaw20.FactForms" = some 7 := by kernel_rfl
theorem over : Rows.factFormsRow.holds Tryz.pinned (OpenSpec.ofChange Rows.factFormsSpec) :=
  OpenClaim.holds_of_wide 7 Tryz.f7 rfl rfl rfl rfl rfl rfl rfl ⟨rfl, rfl, rfl, rfl, rfl⟩ rfl rfl rfl rfl rfl fnNamed Tryz.func7 jf
    inst wrap
    (fun os started H enc _ => lifted os started H enc)
theorem q1 : Rows.factFormsRow.wfByText (OpenSpec.ofChange Rows.factFormsSpec) = true := by kernel_rfl
theorem q4 : ([3].all fun u => !Tryz.prog.wantsStandIn u) = true := by kernel_rfl
theorem q5 : false = Rows.factFormsRow.goesBy Tryz.prog := by kernel_rfl
theorem proved : Rows.FactFormsCardSaid :=
  Claim7.holds_tied_plain_at .later [] [.data, .data, .data, .data, .pinned] true (true, "750251462bffd9c24a6ed2cd6e881292cc1fd3507556a3893ab952016f8bb3f5") true over (fun _ h => by cases h) q1 (fun _ h => by cases h) factForms_row_tie rfl ⟨rfl, rfl⟩ q2 rfl
    (fun f fn hf hfn => by
      obtain rfl : f = 7 := Option.some.inj (fnNamed.symm.trans hf) |>.symm
      obtain rfl : fn = Tryz.f7 := (Option.some.inj (Tryz.func7.symm.trans hfn)).symm
      exact ⟨q3, fun j t ht => by
        rw [Tryz.params7] at ht
        have hm : t ∈ [3] := by simpa using Array.mem_of_getElem? ht
        exact (show Tryz.prog.wantsStandIn t = false by simpa using List.all_eq_true.1 q4 t hm)⟩)
    q5
#print axioms proved
end Go.Proofs.YtocibeohfbdndaaGreatDoor.factForms
