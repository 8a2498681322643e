/- RunLong answers true for every argument, and changes nothing that was there. Conditions: those of the given statement, and no others. -/
import Derived.Test.YtocibeohfbdndaaGreatDoorAbAll
import Derived.Test.YtocibeohfbdndaaGreatDoorRlE0
import Derived.Test.YtocibeohfbdndaaGreatDoorRlE1
import Derived.Test.YtocibeohfbdndaaGreatDoorRlE2
import Derived.Test.YtocibeohfbdndaaGreatDoorRlE3
import Derived.Test.YtocibeohfbdndaaGreatDoorRlE4
import Derived.Test.YtocibeohfbdndaaGreatDoorRlE5
import Derived.Test.YtocibeohfbdndaaGreatDoorRlE6
import Derived.Test.YtocibeohfbdndaaGreatDoorRlE7
import Derived.Test.YtocibeohfbdndaaGreatDoorRlE8
import Derived.Test.YtocibeohfbdndaaGreatDoorRlE9
import Derived.Test.YtocibeohfbdndaaGreatDoorRlE10
import Derived.Test.YtocibeohfbdndaaGreatDoorRlE11
import Derived.Test.YtocibeohfbdndaaGreatDoorRlE12
import Derived.Test.YtocibeohfbdndaaGreatDoorRlE13
import Derived.Test.YtocibeohfbdndaaGreatDoorRlE14
import Derived.Test.YtocibeohfbdndaaGreatDoorRlE15
import Derived.Test.YtocibeohfbdndaaGreatDoorRlE16
import Derived.Test.YtocibeohfbdndaaGreatDoorRlE17
import Derived.Test.YtocibeohfbdndaaGreatDoorRlE18
import Derived.Test.YtocibeohfbdndaaGreatDoorRlE19
import Derived.Test.YtocibeohfbdndaaGreatDoorRlE20
import Derived.Test.YtocibeohfbdndaaGreatDoorRlE21
import Derived.Test.YtocibeohfbdndaaGreatDoorRlCxu
import Derived.Test.YtocibeohfbdndaaGreatDoorTie
import Derived.Test.YtocibeohfbdndaaGreatDoorCards
import Derived.Test.YtocibeohfbdndaaGreatDoorJ
import Derived.ProofKit
import Derived.OpenShut
import Derived.LaidMore
import Derived.Lay
import Derived.SevenTiedAt
import Derived.Stop.Joined
namespace Go.Proofs.YtocibeohfbdndaaGreatDoor.runLong
open Go Go.ChangeShapes Go.WideShapes Go.ChangeAt Go.RowKit Go.Ab
theorem own : ownKnob Tryz.prog.godebug = none := by kernel_rfl
theorem laid_eq : Rows.runLongRow.laid = Go.Ab.Tryz.laidL := by kernel_rfl
theorem vl {e : Emb} {z : Int} {m r : Nat} (lo hi : Nat) (hz : (Lit.int .i64 z).wf = true) (hr : z % (m : Int) = r) (h1 : lo ≤ r := by omega) (h2 : r ≤ hi := by omega) (h3 : hi < 65536 := by decide) : VRel e (.x (.sy m (lo * 65536 + hi))) (.int .i64 z) := vrel_leftR e hz hr h1 h2 h3
theorem lwx {args : List AV} {args' : List Value} {W : World} (hs : W.ShapedOpen Tryz.prog) (hL : laidMetH Tryz.prog Go.Ab.Tryz.laidL W) (hr : Go.Ab.Tryz.k5.lawOk (fsN Go.Ab.Tryz.Tx_1 99) 0 args (heapOf Go.Ab.Tryz.bs) = true) (ha : VRels (emb0 Go.Ab.Tryz.bs) args args') :
    Calls Tryz.prog 5 args'.toArray W (fun e w' => e = .returned (.bool true) ∧ Kept W w') :=
  law_all (Go.Ab.Tryz.fsOkx 99) (dok (Go.Ab.Tryz.fsOkx 99) Go.Ab.Tryz.mixed _ _) Go.Ab.Tryz.c5 hr (Go.Ab.Tryz.start hs hL) ha
theorem walk (a0 : Int) (a1 : Bool) (w0 : (Lit.int .i64 a0).wf = true) (W : World) (hs : W.ShapedOpen Tryz.prog) (hL : laidMetH Tryz.prog Rows.runLongRow.laid W) :
    Calls Tryz.prog 5 #[.int .i64 a0, .bool a1] W fun e w' => e = .returned (.bool true) ∧ Kept W w' := by
  rw [laid_eq] at hL
  have L := fun {x y} hr ha => lwx (args := x) (args' := y) hs hL hr ha
  obtain ⟨r0, h0, l0⟩ := left_of a0 99 (by decide)
  rcases Nat.lt_or_ge r0 1 with g | g
  · cases a1 with
    | false => exact L Tryz.evRunLong0 (.cons (vl 0 0 w0 h0) (.cons (.b _) .nil))
    | true => exact L Tryz.evRunLong1 (.cons (vl 0 0 w0 h0) (.cons (.b _) .nil))
  rcases Nat.lt_or_ge r0 2 with g | g
  · cases a1 with
    | false => exact L Tryz.evRunLong2 (.cons (vl 1 1 w0 h0) (.cons (.b _) .nil))
    | true => exact L Tryz.evRunLong3 (.cons (vl 1 1 w0 h0) (.cons (.b _) .nil))
  rcases Nat.lt_or_ge r0 3 with g | g
  · cases a1 with
    | false => exact L Tryz.evRunLong4 (.cons (vl 2 2 w0 h0) (.cons (.b _) .nil))
    | true => exact L Tryz.evRunLong5 (.cons (vl 2 2 w0 h0) (.cons (.b _) .nil))
  rcases Nat.lt_or_ge r0 4 with g | g
  · cases a1 with
    | false => exact L Tryz.evRunLong6 (.cons (vl 3 3 w0 h0) (.cons (.b _) .nil))
    | true => exact L Tryz.evRunLong7 (.cons (vl 3 3 w0 h0) (.cons (.b _) .nil))
  rcases Nat.lt_or_ge r0 5 with g | g
  · cases a1 with
    | false => exact L Tryz.evRunLong8 (.cons (vl 4 4 w0 h0) (.cons (.b _) .nil))
    | true => exact L Tryz.evRunLong9 (.cons (vl 4 4 w0 h0) (.cons (.b _) .nil))
  rcases Nat.lt_or_ge r0 6 with g | g
  · cases a1 with
    | false => exact L Tryz.evRunLong10 (.cons (vl 5 5 w0 h0) (.cons (.b _) .nil))
    | true => exact L Tryz.evRunLong11 (.cons (vl 5 5 w0 h0) (.cons (.b _) .nil))
  rcases Nat.lt_or_ge r0 7 with g | g
  · cases a1 with
    | false => exact L Tryz.evRunLong12 (.cons (vl 6 6 w0 h0) (.cons (.b _) .nil))
    | true => exact L Tryz.evRunLong13 (.cons (vl 6 6 w0 h0) (.cons (.b _) .nil))
  rcases Nat.lt_or_ge r0 8 with g | g
  · cases a1 with
    | false => exact L Tryz.evRunLong14 (.cons (vl 7 7 w0 h0) (.cons (.b _) .nil))
    | true => exact L Tryz.evRunLong15 (.cons (vl 7 7 w0 h0) (.cons (.b _) .nil))
  rcases Nat.lt_or_ge r0 9 with g | g
  · cases a1 with
    | false => exact L Tryz.evRunLong16 (.cons (vl 8 8 w0 h0) (.cons (.b _) .nil))
    | true => exact L Tryz.evRunLong17 (.cons (vl 8 8 w0 h0) (.cons (.b _) .nil))
  rcases Nat.lt_or_ge r0 10 with g | g
  · cases a1 with
    | false => exact L Tryz.evRunLong18 (.cons (vl 9 9 w0 h0) (.cons (.b _) .nil))
    | true => exact L Tryz.evRunLong19 (.cons (vl 9 9 w0 h0) (.cons (.b _) .nil))
  rcases Nat.lt_or_ge r0 11 with g | g
  · cases a1 with
    | false => exact L Tryz.evRunLong20 (.cons (vl 10 10 w0 h0) (.cons (.b _) .nil))
    | true => exact L Tryz.evRunLong21 (.cons (vl 10 10 w0 h0) (.cons (.b _) .nil))
  rcases Nat.lt_or_ge r0 12 with g | g
  · cases a1 with
    | false => exact L Tryz.evRunLong22 (.cons (vl 11 11 w0 h0) (.cons (.b _) .nil))
    | true => exact L Tryz.evRunLong23 (.cons (vl 11 11 w0 h0) (.cons (.b _) .nil))
  rcases Nat.lt_or_ge r0 13 with g | g
  · cases a1 with
    | false => exact L Tryz.evRunLong24 (.cons (vl 12 12 w0 h0) (.cons (.b _) .nil))
    | true => exact L Tryz.evRunLong25 (.cons (vl 12 12 w0 h0) (.cons (.b _) .nil))
  rcases Nat.lt_or_ge r0 14 with g | g
  · cases a1 with
    | false => exact L Tryz.evRunLong26 (.cons (vl 13 13 w0 h0) (.cons (.b _) .nil))
    | true => exact L Tryz.evRunLong27 (.cons (vl 13 13 w0 h0) (.cons (.b _) .nil))
  rcases Nat.lt_or_ge r0 15 with g | g
  · cases a1 with
    | false => exact L Tryz.evRunLong28 (.cons (vl 14 14 w0 h0) (.cons (.b _) .nil))
    | true => exact L Tryz.evRunLong29 (.cons (vl 14 14 w0 h0) (.cons (.b _) .nil))
  rcases Nat.lt_or_ge r0 16 with g | g
  · cases a1 with
    | false => exact L Tryz.evRunLong30 (.cons (vl 15 15 w0 h0) (.cons (.b _) .nil))
    | true => exact L Tryz.evRunLong31 (.cons (vl 15 15 w0 h0) (.cons (.b _) .nil))
  rcases Nat.lt_or_ge r0 17 with g | g
  · cases a1 with
    | false => exact L Tryz.evRunLong32 (.cons (vl 16 16 w0 h0) (.cons (.b _) .nil))
    | true => exact L Tryz.evRunLong33 (.cons (vl 16 16 w0 h0) (.cons (.b _) .nil))
  rcases Nat.lt_or_ge r0 18 with g | g
  · cases a1 with
    | false => exact L Tryz.evRunLong34 (.cons (vl 17 17 w0 h0) (.cons (.b _) .nil))
    | true => exact L Tryz.evRunLong35 (.cons (vl 17 17 w0 h0) (.cons (.b _) .nil))
  rcases Nat.lt_or_ge r0 19 with g | g
  · cases a1 with
    | false => exact L Tryz.evRunLong36 (.cons (vl 18 18 w0 h0) (.cons (.b _) .nil))
    | true => exact L Tryz.evRunLong37 (.cons (vl 18 18 w0 h0) (.cons (.b _) .nil))
  rcases Nat.lt_or_ge r0 20 with g | g
  · cases a1 with
    | false => exact L Tryz.evRunLong38 (.cons (vl 19 19 w0 h0) (.cons (.b _) .nil))
    | true => exact L Tryz.evRunLong39 (.cons (vl 19 19 w0 h0) (.cons (.b _) .nil))
  rcases Nat.lt_or_ge r0 21 with g | g
  · cases a1 with
    | false => exact L Tryz.evRunLong40 (.cons (vl 20 20 w0 h0) (.cons (.b _) .nil))
    | true => exact L Tryz.evRunLong41 (.cons (vl 20 20 w0 h0) (.cons (.b _) .nil))
  rcases Nat.lt_or_ge r0 22 with g | g
  · cases a1 with
    | false => exact L Tryz.evRunLong42 (.cons (vl 21 21 w0 h0) (.cons (.b _) .nil))
    | true => exact L Tryz.evRunLong43 (.cons (vl 21 21 w0 h0) (.cons (.b _) .nil))
  rcases Nat.lt_or_ge r0 23 with g | g
  · cases a1 with
    | false => exact L Tryz.evRunLong44 (.cons (vl 22 22 w0 h0) (.cons (.b _) .nil))
    | true => exact L Tryz.evRunLong45 (.cons (vl 22 22 w0 h0) (.cons (.b _) .nil))
  rcases Nat.lt_or_ge r0 24 with g | g
  · cases a1 with
    | false => exact L Tryz.evRunLong46 (.cons (vl 23 23 w0 h0) (.cons (.b _) .nil))
    | true => exact L Tryz.evRunLong47 (.cons (vl 23 23 w0 h0) (.cons (.b _) .nil))
  rcases Nat.lt_or_ge r0 25 with g | g
  · cases a1 with
    | false => exact L Tryz.evRunLong48 (.cons (vl 24 24 w0 h0) (.cons (.b _) .nil))
    | true => exact L Tryz.evRunLong49 (.cons (vl 24 24 w0 h0) (.cons (.b _) .nil))
  rcases Nat.lt_or_ge r0 26 with g | g
  · cases a1 with
    | false => exact L Tryz.evRunLong50 (.cons (vl 25 25 w0 h0) (.cons (.b _) .nil))
    | true => exact L Tryz.evRunLong51 (.cons (vl 25 25 w0 h0) (.cons (.b _) .nil))
  rcases Nat.lt_or_ge r0 27 with g | g
  · cases a1 with
    | false => exact L Tryz.evRunLong52 (.cons (vl 26 26 w0 h0) (.cons (.b _) .nil))
    | true => exact L Tryz.evRunLong53 (.cons (vl 26 26 w0 h0) (.cons (.b _) .nil))
  rcases Nat.lt_or_ge r0 28 with g | g
  · cases a1 with
    | false => exact L Tryz.evRunLong54 (.cons (vl 27 27 w0 h0) (.cons (.b _) .nil))
    | true => exact L Tryz.evRunLong55 (.cons (vl 27 27 w0 h0) (.cons (.b _) .nil))
  rcases Nat.lt_or_ge r0 29 with g | g
  · cases a1 with
    | false => exact L Tryz.evRunLong56 (.cons (vl 28 28 w0 h0) (.cons (.b _) .nil))
    | true => exact L Tryz.evRunLong57 (.cons (vl 28 28 w0 h0) (.cons (.b _) .nil))
  rcases Nat.lt_or_ge r0 30 with g | g
  · cases a1 with
    | false => exact L Tryz.evRunLong58 (.cons (vl 29 29 w0 h0) (.cons (.b _) .nil))
    | true => exact L Tryz.evRunLong59 (.cons (vl 29 29 w0 h0) (.cons (.b _) .nil))
  rcases Nat.lt_or_ge r0 31 with g | g
  · cases a1 with
    | false => exact L Tryz.evRunLong60 (.cons (vl 30 30 w0 h0) (.cons (.b _) .nil))
    | true => exact L Tryz.evRunLong61 (.cons (vl 30 30 w0 h0) (.cons (.b _) .nil))
  rcases Nat.lt_or_ge r0 32 with g | g
  · cases a1 with
    | false => exact L Tryz.evRunLong62 (.cons (vl 31 31 w0 h0) (.cons (.b _) .nil))
    | true => exact L Tryz.evRunLong63 (.cons (vl 31 31 w0 h0) (.cons (.b _) .nil))
  rcases Nat.lt_or_ge r0 33 with g | g
  · cases a1 with
    | false => exact L Tryz.evRunLong64 (.cons (vl 32 32 w0 h0) (.cons (.b _) .nil))
    | true => exact L Tryz.evRunLong65 (.cons (vl 32 32 w0 h0) (.cons (.b _) .nil))
  rcases Nat.lt_or_ge r0 34 with g | g
  · cases a1 with
    | false => exact L Tryz.evRunLong66 (.cons (vl 33 33 w0 h0) (.cons (.b _) .nil))
    | true => exact L Tryz.evRunLong67 (.cons (vl 33 33 w0 h0) (.cons (.b _) .nil))
  rcases Nat.lt_or_ge r0 35 with g | g
  · cases a1 with
    | false => exact L Tryz.evRunLong68 (.cons (vl 34 34 w0 h0) (.cons (.b _) .nil))
    | true => exact L Tryz.evRunLong69 (.cons (vl 34 34 w0 h0) (.cons (.b _) .nil))
  rcases Nat.lt_or_ge r0 36 with g | g
  · cases a1 with
    | false => exact L Tryz.evRunLong70 (.cons (vl 35 35 w0 h0) (.cons (.b _) .nil))
    | true => exact L Tryz.evRunLong71 (.cons (vl 35 35 w0 h0) (.cons (.b _) .nil))
  rcases Nat.lt_or_ge r0 37 with g | g
  · cases a1 with
    | false => exact L Tryz.evRunLong72 (.cons (vl 36 36 w0 h0) (.cons (.b _) .nil))
    | true => exact L Tryz.evRunLong73 (.cons (vl 36 36 w0 h0) (.cons (.b _) .nil))
  rcases Nat.lt_or_ge r0 38 with g | g
  · cases a1 with
    | false => exact L Tryz.evRunLong74 (.cons (vl 37 37 w0 h0) (.cons (.b _) .nil))
    | true => exact L Tryz.evRunLong75 (.cons (vl 37 37 w0 h0) (.cons (.b _) .nil))
  rcases Nat.lt_or_ge r0 39 with g | g
  · cases a1 with
    | false => exact L Tryz.evRunLong76 (.cons (vl 38 38 w0 h0) (.cons (.b _) .nil))
    | true => exact L Tryz.evRunLong77 (.cons (vl 38 38 w0 h0) (.cons (.b _) .nil))
  rcases Nat.lt_or_ge r0 40 with g | g
  · cases a1 with
    | false => exact L Tryz.evRunLong78 (.cons (vl 39 39 w0 h0) (.cons (.b _) .nil))
    | true => exact L Tryz.evRunLong79 (.cons (vl 39 39 w0 h0) (.cons (.b _) .nil))
  rcases Nat.lt_or_ge r0 41 with g | g
  · cases a1 with
    | false => exact L Tryz.evRunLong80 (.cons (vl 40 40 w0 h0) (.cons (.b _) .nil))
    | true => exact L Tryz.evRunLong81 (.cons (vl 40 40 w0 h0) (.cons (.b _) .nil))
  rcases Nat.lt_or_ge r0 42 with g | g
  · cases a1 with
    | false => exact L Tryz.evRunLong82 (.cons (vl 41 41 w0 h0) (.cons (.b _) .nil))
    | true => exact L Tryz.evRunLong83 (.cons (vl 41 41 w0 h0) (.cons (.b _) .nil))
  rcases Nat.lt_or_ge r0 43 with g | g
  · cases a1 with
    | false => exact L Tryz.evRunLong84 (.cons (vl 42 42 w0 h0) (.cons (.b _) .nil))
    | true => exact L Tryz.evRunLong85 (.cons (vl 42 42 w0 h0) (.cons (.b _) .nil))
  rcases Nat.lt_or_ge r0 44 with g | g
  · cases a1 with
    | false => exact L Tryz.evRunLong86 (.cons (vl 43 43 w0 h0) (.cons (.b _) .nil))
    | true => exact L Tryz.evRunLong87 (.cons (vl 43 43 w0 h0) (.cons (.b _) .nil))
  rcases Nat.lt_or_ge r0 45 with g | g
  · cases a1 with
    | false => exact L Tryz.evRunLong88 (.cons (vl 44 44 w0 h0) (.cons (.b _) .nil))
    | true => exact L Tryz.evRunLong89 (.cons (vl 44 44 w0 h0) (.cons (.b _) .nil))
  rcases Nat.lt_or_ge r0 46 with g | g
  · cases a1 with
    | false => exact L Tryz.evRunLong90 (.cons (vl 45 45 w0 h0) (.cons (.b _) .nil))
    | true => exact L Tryz.evRunLong91 (.cons (vl 45 45 w0 h0) (.cons (.b _) .nil))
  rcases Nat.lt_or_ge r0 47 with g | g
  · cases a1 with
    | false => exact L Tryz.evRunLong92 (.cons (vl 46 46 w0 h0) (.cons (.b _) .nil))
    | true => exact L Tryz.evRunLong93 (.cons (vl 46 46 w0 h0) (.cons (.b _) .nil))
  rcases Nat.lt_or_ge r0 48 with g | g
  · cases a1 with
    | false => exact L Tryz.evRunLong94 (.cons (vl 47 47 w0 h0) (.cons (.b _) .nil))
    | true => exact L Tryz.evRunLong95 (.cons (vl 47 47 w0 h0) (.cons (.b _) .nil))
  rcases Nat.lt_or_ge r0 49 with g | g
  · cases a1 with
    | false => exact L Tryz.evRunLong96 (.cons (vl 48 48 w0 h0) (.cons (.b _) .nil))
    | true => exact L Tryz.evRunLong97 (.cons (vl 48 48 w0 h0) (.cons (.b _) .nil))
  rcases Nat.lt_or_ge r0 50 with g | g
  · cases a1 with
    | false => exact L Tryz.evRunLong98 (.cons (vl 49 49 w0 h0) (.cons (.b _) .nil))
    | true => exact L Tryz.evRunLong99 (.cons (vl 49 49 w0 h0) (.cons (.b _) .nil))
  rcases Nat.lt_or_ge r0 51 with g | g
  · cases a1 with
    | false => exact L Tryz.evRunLong100 (.cons (vl 50 50 w0 h0) (.cons (.b _) .nil))
    | true => exact L Tryz.evRunLong101 (.cons (vl 50 50 w0 h0) (.cons (.b _) .nil))
  rcases Nat.lt_or_ge r0 52 with g | g
  · cases a1 with
    | false => exact L Tryz.evRunLong102 (.cons (vl 51 51 w0 h0) (.cons (.b _) .nil))
    | true => exact L Tryz.evRunLong103 (.cons (vl 51 51 w0 h0) (.cons (.b _) .nil))
  rcases Nat.lt_or_ge r0 53 with g | g
  · cases a1 with
    | false => exact L Tryz.evRunLong104 (.cons (vl 52 52 w0 h0) (.cons (.b _) .nil))
    | true => exact L Tryz.evRunLong105 (.cons (vl 52 52 w0 h0) (.cons (.b _) .nil))
  rcases Nat.lt_or_ge r0 54 with g | g
  · cases a1 with
    | false => exact L Tryz.evRunLong106 (.cons (vl 53 53 w0 h0) (.cons (.b _) .nil))
    | true => exact L Tryz.evRunLong107 (.cons (vl 53 53 w0 h0) (.cons (.b _) .nil))
  rcases Nat.lt_or_ge r0 55 with g | g
  · cases a1 with
    | false => exact L Tryz.evRunLong108 (.cons (vl 54 54 w0 h0) (.cons (.b _) .nil))
    | true => exact L Tryz.evRunLong109 (.cons (vl 54 54 w0 h0) (.cons (.b _) .nil))
  rcases Nat.lt_or_ge r0 56 with g | g
  · cases a1 with
    | false => exact L Tryz.evRunLong110 (.cons (vl 55 55 w0 h0) (.cons (.b _) .nil))
    | true => exact L Tryz.evRunLong111 (.cons (vl 55 55 w0 h0) (.cons (.b _) .nil))
  rcases Nat.lt_or_ge r0 57 with g | g
  · cases a1 with
    | false => exact L Tryz.evRunLong112 (.cons (vl 56 56 w0 h0) (.cons (.b _) .nil))
    | true => exact L Tryz.evRunLong113 (.cons (vl 56 56 w0 h0) (.cons (.b _) .nil))
  rcases Nat.lt_or_ge r0 58 with g | g
  · cases a1 with
    | false => exact L Tryz.evRunLong114 (.cons (vl 57 57 w0 h0) (.cons (.b _) .nil))
    | true => exact L Tryz.evRunLong115 (.cons (vl 57 57 w0 h0) (.cons (.b _) .nil))
  rcases Nat.lt_or_ge r0 59 with g | g
  · cases a1 with
    | false => exact L Tryz.evRunLong116 (.cons (vl 58 58 w0 h0) (.cons (.b _) .nil))
    | true => exact L Tryz.evRunLong117 (.cons (vl 58 58 w0 h0) (.cons (.b _) .nil))
  rcases Nat.lt_or_ge r0 60 with g | g
  · cases a1 with
    | false => exact L Tryz.evRunLong118 (.cons (vl 59 59 w0 h0) (.cons (.b _) .nil))
    | true => exact L Tryz.evRunLong119 (.cons (vl 59 59 w0 h0) (.cons (.b _) .nil))
  rcases Nat.lt_or_ge r0 61 with g | g
  · cases a1 with
    | false => exact L Tryz.evRunLong120 (.cons (vl 60 60 w0 h0) (.cons (.b _) .nil))
    | true => exact L Tryz.evRunLong121 (.cons (vl 60 60 w0 h0) (.cons (.b _) .nil))
  rcases Nat.lt_or_ge r0 62 with g | g
  · cases a1 with
    | false => exact L Tryz.evRunLong122 (.cons (vl 61 61 w0 h0) (.cons (.b _) .nil))
    | true => exact L Tryz.evRunLong123 (.cons (vl 61 61 w0 h0) (.cons (.b _) .nil))
  rcases Nat.lt_or_ge r0 63 with g | g
  · cases a1 with
    | false => exact L Tryz.evRunLong124 (.cons (vl 62 62 w0 h0) (.cons (.b _) .nil))
    | true => exact L Tryz.evRunLong125 (.cons (vl 62 62 w0 h0) (.cons (.b _) .nil))
  rcases Nat.lt_or_ge r0 64 with g | g
  · cases a1 with
    | false => exact L Tryz.evRunLong126 (.cons (vl 63 63 w0 h0) (.cons (.b _) .nil))
    | true => exact L Tryz.evRunLong127 (.cons (vl 63 63 w0 h0) (.cons (.b _) .nil))
  rcases Nat.lt_or_ge r0 65 with g | g
  · cases a1 with
    | false => exact L Tryz.evRunLong128 (.cons (vl 64 64 w0 h0) (.cons (.b _) .nil))
    | true => exact L Tryz.evRunLong129 (.cons (vl 64 64 w0 h0) (.cons (.b _) .nil))
  rcases Nat.lt_or_ge r0 66 with g | g
  · cases a1 with
    | false => exact L Tryz.evRunLong130 (.cons (vl 65 65 w0 h0) (.cons (.b _) .nil))
    | true => exact L Tryz.evRunLong131 (.cons (vl 65 65 w0 h0) (.cons (.b _) .nil))
  rcases Nat.lt_or_ge r0 67 with g | g
  · cases a1 with
    | false => exact L Tryz.evRunLong132 (.cons (vl 66 66 w0 h0) (.cons (.b _) .nil))
    | true => exact L Tryz.evRunLong133 (.cons (vl 66 66 w0 h0) (.cons (.b _) .nil))
  rcases Nat.lt_or_ge r0 68 with g | g
  · cases a1 with
    | false => exact L Tryz.evRunLong134 (.cons (vl 67 67 w0 h0) (.cons (.b _) .nil))
    | true => exact L Tryz.evRunLong135 (.cons (vl 67 67 w0 h0) (.cons (.b _) .nil))
  rcases Nat.lt_or_ge r0 69 with g | g
  · cases a1 with
    | false => exact L Tryz.evRunLong136 (.cons (vl 68 68 w0 h0) (.cons (.b _) .nil))
    | true => exact L Tryz.evRunLong137 (.cons (vl 68 68 w0 h0) (.cons (.b _) .nil))
  rcases Nat.lt_or_ge r0 70 with g | g
  · cases a1 with
    | false => exact L Tryz.evRunLong138 (.cons (vl 69 69 w0 h0) (.cons (.b _) .nil))
    | true => exact L Tryz.evRunLong139 (.cons (vl 69 69 w0 h0) (.cons (.b _) .nil))
  rcases Nat.lt_or_ge r0 71 with g | g
  · cases a1 with
    | false => exact L Tryz.evRunLong140 (.cons (vl 70 70 w0 h0) (.cons (.b _) .nil))
    | true => exact L Tryz.evRunLong141 (.cons (vl 70 70 w0 h0) (.cons (.b _) .nil))
  rcases Nat.lt_or_ge r0 72 with g | g
  · cases a1 with
    | false => exact L Tryz.evRunLong142 (.cons (vl 71 71 w0 h0) (.cons (.b _) .nil))
    | true => exact L Tryz.evRunLong143 (.cons (vl 71 71 w0 h0) (.cons (.b _) .nil))
  rcases Nat.lt_or_ge r0 73 with g | g
  · cases a1 with
    | false => exact L Tryz.evRunLong144 (.cons (vl 72 72 w0 h0) (.cons (.b _) .nil))
    | true => exact L Tryz.evRunLong145 (.cons (vl 72 72 w0 h0) (.cons (.b _) .nil))
  rcases Nat.lt_or_ge r0 74 with g | g
  · cases a1 with
    | false => exact L Tryz.evRunLong146 (.cons (vl 73 73 w0 h0) (.cons (.b _) .nil))
    | true => exact L Tryz.evRunLong147 (.cons (vl 73 73 w0 h0) (.cons (.b _) .nil))
  rcases Nat.lt_or_ge r0 75 with g | g
  · cases a1 with
    | false => exact L Tryz.evRunLong148 (.cons (vl 74 74 w0 h0) (.cons (.b _) .nil))
    | true => exact L Tryz.evRunLong149 (.cons (vl 74 74 w0 h0) (.cons (.b _) .nil))
  rcases Nat.lt_or_ge r0 76 with g | g
  · cases a1 with
    | false => exact L Tryz.evRunLong150 (.cons (vl 75 75 w0 h0) (.cons (.b _) .nil))
    | true => exact L Tryz.evRunLong151 (.cons (vl 75 75 w0 h0) (.cons (.b _) .nil))
  rcases Nat.lt_or_ge r0 77 with g | g
  · cases a1 with
    | false => exact L Tryz.evRunLong152 (.cons (vl 76 76 w0 h0) (.cons (.b _) .nil))
    | true => exact L Tryz.evRunLong153 (.cons (vl 76 76 w0 h0) (.cons (.b _) .nil))
  rcases Nat.lt_or_ge r0 78 with g | g
  · cases a1 with
    | false => exact L Tryz.evRunLong154 (.cons (vl 77 77 w0 h0) (.cons (.b _) .nil))
    | true => exact L Tryz.evRunLong155 (.cons (vl 77 77 w0 h0) (.cons (.b _) .nil))
  rcases Nat.lt_or_ge r0 79 with g | g
  · cases a1 with
    | false => exact L Tryz.evRunLong156 (.cons (vl 78 78 w0 h0) (.cons (.b _) .nil))
    | true => exact L Tryz.evRunLong157 (.cons (vl 78 78 w0 h0) (.cons (.b _) .nil))
  rcases Nat.lt_or_ge r0 80 with g | g
  · cases a1 with
    | false => exact L Tryz.evRunLong158 (.cons (vl 79 79 w0 h0) (.cons (.b _) .nil))
    | true => exact L Tryz.evRunLong159 (.cons (vl 79 79 w0 h0) (.cons (.b _) .nil))
  rcases Nat.lt_or_ge r0 81 with g | g
  · cases a1 with
    | false => exact L Tryz.evRunLong160 (.cons (vl 80 80 w0 h0) (.cons (.b _) .nil))
    | true => exact L Tryz.evRunLong161 (.cons (vl 80 80 w0 h0) (.cons (.b _) .nil))
  rcases Nat.lt_or_ge r0 82 with g | g
  · cases a1 with
    | false => exact L Tryz.evRunLong162 (.cons (vl 81 81 w0 h0) (.cons (.b _) .nil))
    | true => exact L Tryz.evRunLong163 (.cons (vl 81 81 w0 h0) (.cons (.b _) .nil))
  rcases Nat.lt_or_ge r0 83 with g | g
  · cases a1 with
    | false => exact L Tryz.evRunLong164 (.cons (vl 82 82 w0 h0) (.cons (.b _) .nil))
    | true => exact L Tryz.evRunLong165 (.cons (vl 82 82 w0 h0) (.cons (.b _) .nil))
  rcases Nat.lt_or_ge r0 84 with g | g
  · cases a1 with
    | false => exact L Tryz.evRunLong166 (.cons (vl 83 83 w0 h0) (.cons (.b _) .nil))
    | true => exact L Tryz.evRunLong167 (.cons (vl 83 83 w0 h0) (.cons (.b _) .nil))
  rcases Nat.lt_or_ge r0 85 with g | g
  · cases a1 with
    | false => exact L Tryz.evRunLong168 (.cons (vl 84 84 w0 h0) (.cons (.b _) .nil))
    | true => exact L Tryz.evRunLong169 (.cons (vl 84 84 w0 h0) (.cons (.b _) .nil))
  rcases Nat.lt_or_ge r0 86 with g | g
  · cases a1 with
    | false => exact L Tryz.evRunLong170 (.cons (vl 85 85 w0 h0) (.cons (.b _) .nil))
    | true => exact L Tryz.evRunLong171 (.cons (vl 85 85 w0 h0) (.cons (.b _) .nil))
  rcases Nat.lt_or_ge r0 87 with g | g
  · cases a1 with
    | false => exact L Tryz.evRunLong172 (.cons (vl 86 86 w0 h0) (.cons (.b _) .nil))
    | true => exact L Tryz.evRunLong173 (.cons (vl 86 86 w0 h0) (.cons (.b _) .nil))
  rcases Nat.lt_or_ge r0 88 with g | g
  · cases a1 with
    | false => exact L Tryz.evRunLong174 (.cons (vl 87 87 w0 h0) (.cons (.b _) .nil))
    | true => exact L Tryz.evRunLong175 (.cons (vl 87 87 w0 h0) (.cons (.b _) .nil))
  rcases Nat.lt_or_ge r0 89 with g | g
  · cases a1 with
    | false => exact L Tryz.evRunLong176 (.cons (vl 88 88 w0 h0) (.cons (.b _) .nil))
    | true => exact L Tryz.evRunLong177 (.cons (vl 88 88 w0 h0) (.cons (.b _) .nil))
  rcases Nat.lt_or_ge r0 90 with g | g
  · cases a1 with
    | false => exact L Tryz.evRunLong178 (.cons (vl 89 89 w0 h0) (.cons (.b _) .nil))
    | true => exact L Tryz.evRunLong179 (.cons (vl 89 89 w0 h0) (.cons (.b _) .nil))
  rcases Nat.lt_or_ge r0 91 with g | g
  · cases a1 with
    | false => exact L Tryz.evRunLong180 (.cons (vl 90 90 w0 h0) (.cons (.b _) .nil))
    | true => exact L Tryz.evRunLong181 (.cons (vl 90 90 w0 h0) (.cons (.b _) .nil))
  rcases Nat.lt_or_ge r0 92 with g | g
  · cases a1 with
    | false => exact L Tryz.evRunLong182 (.cons (vl 91 91 w0 h0) (.cons (.b _) .nil))
    | true => exact L Tryz.evRunLong183 (.cons (vl 91 91 w0 h0) (.cons (.b _) .nil))
  rcases Nat.lt_or_ge r0 93 with g | g
  · cases a1 with
    | false => exact L Tryz.evRunLong184 (.cons (vl 92 92 w0 h0) (.cons (.b _) .nil))
    | true => exact L Tryz.evRunLong185 (.cons (vl 92 92 w0 h0) (.cons (.b _) .nil))
  rcases Nat.lt_or_ge r0 94 with g | g
  · cases a1 with
    | false => exact L Tryz.evRunLong186 (.cons (vl 93 93 w0 h0) (.cons (.b _) .nil))
    | true => exact L Tryz.evRunLong187 (.cons (vl 93 93 w0 h0) (.cons (.b _) .nil))
  rcases Nat.lt_or_ge r0 95 with g | g
  · cases a1 with
    | false => exact L Tryz.evRunLong188 (.cons (vl 94 94 w0 h0) (.cons (.b _) .nil))
    | true => exact L Tryz.evRunLong189 (.cons (vl 94 94 w0 h0) (.cons (.b _) .nil))
  rcases Nat.lt_or_ge r0 96 with g | g
  · cases a1 with
    | false => exact L Tryz.evRunLong190 (.cons (vl 95 95 w0 h0) (.cons (.b _) .nil))
    | true => exact L Tryz.evRunLong191 (.cons (vl 95 95 w0 h0) (.cons (.b _) .nil))
  rcases Nat.lt_or_ge r0 97 with g | g
  · cases a1 with
    | false => exact L Tryz.evRunLong192 (.cons (vl 96 96 w0 h0) (.cons (.b _) .nil))
    | true => exact L Tryz.evRunLong193 (.cons (vl 96 96 w0 h0) (.cons (.b _) .nil))
  rcases Nat.lt_or_ge r0 98 with g | g
  · cases a1 with
    | false => exact L Tryz.evRunLong194 (.cons (vl 97 97 w0 h0) (.cons (.b _) .nil))
    | true => exact L Tryz.evRunLong195 (.cons (vl 97 97 w0 h0) (.cons (.b _) .nil))
  cases a1 with
  | false =>
    exact L Tryz.evRunLong196 (.cons (vl 98 98 w0 h0) (.cons (.b _) .nil))
  | true =>
    exact L Tryz.evRunLong197 (.cons (vl 98 98 w0 h0) (.cons (.b _) .nil))
set_option maxRecDepth 100000 in
theorem lifted (os : Os) (started : os.Started) (H : Type) (enc : TypeId × Value → H) :
    ReturnsInHanded {} Tryz.checked os 5 .any (fun w args => (Rows.runLongSpec.pre enc Tryz.prog Tryz.f5 Rows.runLongRow.domain false w args ∧ laidMetH Tryz.prog Rows.runLongRow.laid w) ∧ sizedMet enc Tryz.prog Tryz.f5 (OpenSpec.ofChange Rows.runLongSpec) false w args)
      (Rows.runLongSpec.post enc Tryz.prog Tryz.f5 false true false false) := by
  refine handed_shaped (C := Tryz.checked) (X := fun w _ => laidMetH Tryz.prog Rows.runLongRow.laid w) (fun _ _ _ hh h => h.of_heap hh) own started (by kernel_rfl) Tryz.func5
    (ChangeSpec.witness_shaped (enc := enc) (C := Tryz.checked) (os := os) (X := fun w _ => laidMetH Tryz.prog Rows.runLongRow.laid w) false (World.laidAll Tryz.prog os Rows.runLongRow.laid) #[.int .i64 0, .bool false] 8 (World.laidAll_os _ _ _)
      (World.shaped_of_ZipB (by kernel_rfl) (by kernel_rfl)) (by kernel_rfl) (by kernel_rfl) (by kernel_rfl)
      (by rw [MakeChecks.laidMetH_plain _ _ _ (by kernel_rfl)]; exact laidMet_laidAll _ (by kernel_rfl) (by kernel_rfl))) ?_
  intro W base args ds gs before hsh hval0 hW hL
  have hval : ∀ (j : Nat) t v, Tryz.f5.params[j]? = some t → args[j]? = some v → Value.okWide Tryz.prog W .any base t v := hval0
  have hW' := hW
  obtain ⟨p, q, hA0, hV, rfl, hfz, hnd⟩ := hW
  have hA : DataW.TrodAll enc Tryz.prog W 0 (fun _ => true) true Tryz.f5.params.toList args.toList ds p := hA0
  rw [Tryz.params5] at hA hval
  obtain ⟨v0, vs0, d0, ds0, p0, q0, hargs, rfl, rfl, h0, r0⟩ := trodAll_cons hA
  obtain ⟨v1, vs1, d1, ds1, p1, q1, rfl, rfl, rfl, h1, r1⟩ := trodAll_cons r0
  obtain ⟨rfl, rfl, rfl⟩ := trodAll_nil r1
  obtain rfl : args = #[v0, v1] := by cases args; simp_all
  obtain ⟨rfl, rfl⟩ := trodVars_none hV
  obtain ⟨a0, rfl, rfl, rfl, w0⟩ := open_int Tryz.underlying3 (hval 0 3 v0 rfl rfl) h0
  obtain ⟨a1, rfl, rfl, rfl⟩ := open_bool Tryz.underlying4 (hval 1 4 v1 rfl rfl) h1
  clear hA0 hval0
  simp only [List.append_nil] at hW'
  refine (walk a0 a1 w0 W hsh hL).mono fun e W' ⟨he, hg⟩ => ?_
  subst he
  exact ⟨_, rfl, post_kept (pa := []) (pv := []) hW' (fun _ _ _ => (trodAll_cons_mk (shut_bool Tryz.underlying4 _) trodAll_mk0)) (fun sp => (trodAll_cons_mk (shut_int Tryz.underlying3 w0) (trodAll_cons_mk (shut_bool Tryz.underlying4 _) trodAll_mk0))) (fun _ => rfl) hg⟩

theorem j1 : Rows.runLongRow.wf (OpenSpec.ofChange Rows.runLongSpec) = true := by kernel_rfl
theorem j4 : (Tryz.f5.params.all (Tryz.prog.readableRec ·)) = true := by kernel_rfl
theorem j5 : namedTie Tryz.prog Rows.runLongRow.named Rows.runLongSpec.vars = true := by kernel_rfl
theorem j10 : (Rows.runLongRow.inPlace == Tryz.prog.inPlace 5) = true := by kernel_rfl
theorem j11 : (Rows.runLongRow.unfollowed == Tryz.prog.unfollowed 5) = true := by kernel_rfl
theorem j12 : (Rows.runLongRow.recurses == Tryz.prog.recurses 5) = true := by kernel_rfl
theorem j13 : (Rows.runLongRow.named == Tryz.prog.varsNamed 5) = true := by kernel_rfl
theorem j22 : (Rows.runLongRow.plainKeys == Tryz.prog.plainKeys) = true := by kernel_rfl
theorem j24b : (Rows.runLongRow.lifted == Tryz.prog.liftsFinal) = true := by kernel_rfl
theorem jf : joinedFacts Tryz.prog 5 Tryz.f5 Rows.runLongSpec Rows.runLongRow = true := by
  unfold joinedFacts
  rw [j1, p2, p3, j4, j5, j10, j11, j12, j13, j22, p23b, p24, j24b]
  kernel_rfl
theorem inst : Tryz.f5.isInstance Tryz.prog Rows.runLongRow.origin Rows.runLongRow.targs := of_decide_eq_true (by kernel_rfl)
theorem wrap : Tryz.f5.isWrapper Tryz.prog Rows.runLongRow.wrapper Rows.runLongRow.mainSum := by unfold Func.isWrapper; first | (rw [if_pos (by decide +kernel)]; kernel_rfl) | (rw [if_neg (by decide +kernel)]; exact ⟨rfl, rfl⟩)
theorem fnNamed : Tryz.prog.funcNamed "exegete/exegetelaw14.RunLong" = some 5 := by kernel_rfl
theorem over : Rows.runLongRow.holds Tryz.pinned (OpenSpec.ofChange Rows.runLongSpec) :=
  OpenClaim.holds_of_wide 5 Tryz.f5 rfl rfl rfl rfl rfl rfl rfl ⟨rfl, rfl, rfl, rfl, rfl⟩ rfl rfl rfl rfl rfl fnNamed Tryz.func5 jf
    inst wrap
    (fun os started H enc _ => lifted os started H enc)
theorem q1 : Rows.runLongRow.wfByText (OpenSpec.ofChange Rows.runLongSpec) = true := by kernel_rfl
theorem q4 : ([3, 4].all fun u => !Tryz.prog.wantsStandIn u) = true := by kernel_rfl
theorem q5 : false = Rows.runLongRow.goesBy Tryz.prog := by kernel_rfl
theorem proved : Rows.RunLongCardSaid :=
  Claim7.holds_tied_plain_at .later [] [.data, .data, .data, .data, .pinned] true (true, "750251462bffd9c24a6ed2cd6e881292cc1fd3507556a3893ab952016f8bb3f5") true over (fun _ h => by cases h) q1 (fun _ h => by cases h) runLong_row_tie rfl ⟨rfl, rfl⟩ q2 rfl
    (fun f fn hf hfn => by
      obtain rfl : f = 5 := Option.some.inj (fnNamed.symm.trans hf) |>.symm
      obtain rfl : fn = Tryz.f5 := (Option.some.inj (Tryz.func5.symm.trans hfn)).symm
      exact ⟨q3, fun j t ht => by
        rw [Tryz.params5] at ht
        have hm : t ∈ [3, 4] := by simpa using Array.mem_of_getElem? ht
        exact (show Tryz.prog.wantsStandIn t = false by simpa using List.all_eq_true.1 q4 t hm)⟩)
    q5
#print axioms proved
end Go.Proofs.YtocibeohfbdndaaGreatDoor.runLong
