/- Any whole number as one from 0 to m - 1: the helper of the statements. -/
import Derived.Test.YtfhaailmhaamfaaGreatDoorAbMemo
namespace Go.Ab
open Go
noncomputable section

def bad : AV := .x .bad
def kWithinG (M h : Nat) : KFun := ⟨17, (.nd (.nd (.nd .lf 4 .lf) 5 .lf) 1 (.nd .lf 0 .lf)), (.nd (.nd (.nd .lf bad .lf) bad .lf) bad (.nd .lf bad .lf)), [(.rgt .top), .top],
  (.seq (.reg [.p (.lft (.lft .top)) (.move (.c (.i 3 0)))]) (.seq (.seq (.reg [.l 6 (.move (.va .top)), .l 7 (.bin .lt 3 M h (.t 6) (.c (.i 3 1)))]) (.cond (.t 7) (.seq (.reg [.p (.lft (.lft .top)) (.move (.c (.i 3 0)))]) .ret) .skip)) (.seq (.reg [.l 8 (.move (.va (.rgt .top))), .l 9 (.move (.va .top)), .l 10 (.bin .rem 3 M h (.t 8) (.t 9)), .p (.lft .top) (.move (.t 10))]) (.seq (.seq (.reg [.l 11 (.move (.va (.lft .top))), .l 12 (.bin .lt 3 M h (.t 11) (.c (.i 3 0)))]) (.cond (.t 12) (.reg [.l 13 (.move (.va (.lft .top))), .l 14 (.move (.va .top)), .l 15 (.bin .add 3 M h (.t 13) (.t 14)), .p (.lft .top) (.move (.t 15))]) .skip)) (.seq (.reg [.l 16 (.move (.va (.lft .top))), .p (.lft (.lft .top)) (.move (.t 16))]) .ret))))),
  [.one (.va (.lft (.lft .top)))]⟩

/-- The code of exegetekeep.Within. -/
def kWithin : KFun := kWithinG 18446744073709551616 9223372036854775808

section
variable {F : Fs} {en : Env} {H : AHeap}
theorem den_seq (a b : KCode) : (KCode.seq a b).den F en H = rSeq (a.den F en H) (b.den F) := rfl
theorem den_reg (l : List KE) : (KCode.reg l).den F en H = runE F l ⟨.nil, en.B⟩ H := rfl
theorem den_cond (c : KO) (a b : KCode) : (KCode.cond c a b).den F en H = avB .fail (fun t => Bool.rec (motive := fun _ => Res) (b.den F en H) (a.den F en H) t) (c.den en) := rfl
theorem den_cond_t {c : KO} {a b : KCode} (h : c.den en = .b true) : (KCode.cond c a b).den F en H = a.den F en H := by rw [den_cond, h]; rfl
theorem den_cond_f {c : KO} {a b : KCode} (h : c.den en = .b false) : (KCode.cond c a b).den F en H = b.den F en H := by rw [den_cond, h]; rfl
theorem den_skip : KCode.skip.den F en H = .nrm en H := rfl
theorem den_ret : KCode.ret.den F en H = .ret en H := rfl
theorem rSeq_nrm (f : Env → AHeap → Res) : rSeq (.nrm en H) f = f en H := rfl
theorem rSeq_ret (f : Env → AHeap → Res) : rSeq (.ret en H) f = .ret en H := rfl
theorem runE_nil : runE F [] en H = .nrm en H := rfl
theorem runE_l (d : Nat) (k : KOp) (l : List KE) : runE F (.l d k :: l) en H = oRes (k.den F en H) (fun v H' => runE F l ⟨.cons d v en.loc, en.B⟩ H') := rfl
theorem runE_p (d : VP) (k : KOp) (l : List KE) : runE F (.p d k :: l) en H = oRes (k.den F en H) (fun v H' => runE F l ⟨en.loc, d.put v en.B⟩ H') := rfl
theorem den_move (x : KO) : (KOp.move x).den F en H = .v (x.den en) H := rfl
theorem oRes_v (v : AV) (f : AV → AHeap → Res) : oRes (.v v H) f = f v H := rfl
theorem den_bin (b : KBin) (k M h : Nat) (x y : KO) {n m : Nat} (hx : x.den en = .i k n) (hy : y.den en = .i k m) {v : AV} (hv : b.den k M h n m = some v) : (KOp.bin b k M h x y).den F en H = .v v H := by
  show opBinG k (b.den k M h) (b.rng k M h) x.den y.den en H = _
  unfold opBinG
  rw [hx, hy]
  show bif' .fail (bif' .fail (optE .fail (fun v => ORes.v v H) (b.den k M h n m)) (Nat.beq k k)) (Nat.beq k k) = _
  rw [hv, Nat.beq_refl]
  rfl
end

/-- What is left of the digits n, divided by m. -/
def wdR (n m : Nat) : Nat := if n < 9223372036854775808 then n % m else (18446744073709551616 - (18446744073709551616 - n) % m) % 18446744073709551616
def wdN (n m : Nat) : Nat := if wdR n m < 9223372036854775808 then wdR n m else (wdR n m + m) % 18446744073709551616

theorem rem_wd (n m : Nat) (h1 : 1 ≤ m) (h2 : m < 9223372036854775808) : iRem 3 18446744073709551616 9223372036854775808 n m = some (.i 3 (wdR n m)) := by
  unfold iRem
  rw [brec, if_neg (by rw [beq_tt]; omega), brec]
  simp only [ble_tt]
  rw [absD_eq, absD_eq, if_pos h2]
  unfold wdR
  by_cases h : n < 9223372036854775808
  · rw [if_pos (show n + 1 ≤ 9223372036854775808 from h), if_pos h, if_pos h]; rfl
  · rw [if_neg (show ¬ n + 1 ≤ 9223372036854775808 from h), if_neg h, if_neg h]; rfl
theorem lt_wd (n m : Nat) (hn : n < 18446744073709551616) (hm : m < 9223372036854775808) : iLt 18446744073709551616 9223372036854775808 n m = some (.b (decide (9223372036854775808 ≤ n ∨ n < m))) := by
  have he : (Nat.ble ((n + 9223372036854775808) % 18446744073709551616 + 1) ((m + 9223372036854775808) % 18446744073709551616) = true) ↔ (9223372036854775808 ≤ n ∨ n < m) := by
    rw [ble_tt]; omega
  have hb : Nat.ble ((n + 9223372036854775808) % 18446744073709551616 + 1) ((m + 9223372036854775808) % 18446744073709551616) = decide (9223372036854775808 ≤ n ∨ n < m) := by
    rw [Bool.eq_iff_iff, he, decide_eq_true_iff]
  exact congrArg (fun b => some (AVp.b b)) hb

theorem wdR_lt (n m : Nat) (h1 : 1 ≤ m) (h2 : m < 9223372036854775808) : wdR n m < 18446744073709551616 := by
  unfold wdR
  have := Nat.mod_lt n (show 0 < m from h1)
  split <;> omega

theorem within_runG (F : Fs) (H : AHeap) (M h n m r : Nat) (s : Bool) (c1 : KBin.lt.den 3 M h m 1 = some (.b false)) (c2 : KBin.rem.den 3 M h n m = some (.i 3 r)) (c3 : KBin.lt.den 3 M h r 0 = some (.b s)) :
    (kWithinG M h).run F [.i 3 n, .i 3 m] H = .v (.i 3 (if s = true then Nat.mod (Nat.add r m) M else r)) H := by
  have body : ∃ en, (kWithinG M h).body.den F ⟨.nil, .nd (.nd (.nd .lf bad .lf) bad .lf) (.i 3 m) (.nd .lf (.i 3 n) .lf)⟩ (H.withLow H.nxt) = .ret en (H.withLow H.nxt) ∧ evalR (kWithinG M h).rs en (H.withLow H.nxt) = some [.i 3 (if s = true then Nat.mod (Nat.add r m) M else r)] := by
    unfold kWithinG
    simp only [den_seq, den_reg, runE_p, den_move, oRes_v, runE_nil, rSeq_nrm, runE_l]
    rw [den_bin (n := m) (m := 1) (hx := rfl) (hy := rfl) (hv := c1)]
    simp only [oRes_v, rSeq_nrm]
    rw [den_cond_f rfl]
    simp only [den_skip, rSeq_nrm, den_seq, den_reg, runE_l, runE_p, den_move, oRes_v]
    rw [den_bin (n := n) (m := m) (hx := rfl) (hy := rfl) (hv := c2)]
    simp only [oRes_v, runE_nil, rSeq_nrm, den_seq, den_reg, runE_l, den_move]
    rw [den_bin (n := r) (m := 0) (hx := rfl) (hy := rfl) (hv := c3)]
    simp only [oRes_v, rSeq_nrm]
    cases s with
    | true =>
      have c4 : KBin.add.den 3 M h r m = some (.i 3 (Nat.mod (Nat.add r m) M)) := rfl
      rw [den_cond_t rfl]
      simp only [den_reg, runE_l, runE_p, den_move, oRes_v]
      rw [den_bin (n := r) (m := m) (hx := rfl) (hy := rfl) (hv := c4)]
      exact ⟨_, rfl, rfl⟩
    | false =>
      rw [den_cond_f rfl]
      exact ⟨_, rfl, rfl⟩
  obtain ⟨en, body, res⟩ := body
  have hrun : (kWithinG M h).run F [.i 3 n, .i 3 m] H = finish (kWithinG M h).rs H ((kWithinG M h).body.den F ⟨.nil, .nd (.nd (.nd .lf bad .lf) bad .lf) (.i 3 m) (.nd .lf (.i 3 n) .lf)⟩ (H.withLow H.nxt)) := rfl
  rw [hrun, body]
  show optL .fail (fun l => backV l H (H.withLow H.nxt)) (evalR (kWithinG M h).rs en (H.withLow H.nxt)) = _
  rw [res]
  show backV [.i 3 (if s = true then Nat.mod (Nat.add r m) M else r)] H (H.withLow H.nxt) = _
  unfold backV
  have : Nat.ble H.nxt (H.withLow H.nxt).low = true := by rw [ble_tt]; exact Nat.le_refl _
  rw [this]
  rfl

theorem within_run (F : Fs) (H : AHeap) (n m : Nat) (h1 : 1 ≤ m) (h2 : m < 9223372036854775808) : kWithin.run F [.i 3 n, .i 3 m] H = .v (.i 3 (wdN n m)) H := by
  have hr := wdR_lt n m h1 h2
  have c1 : KBin.lt.den 3 18446744073709551616 9223372036854775808 m 1 = some (.b false) := by
    have : ¬ (9223372036854775808 ≤ m ∨ m < 1) := by omega
    have h := lt_wd m 1 (by omega) (by omega)
    rw [decide_eq_false this] at h
    exact h
  have c2 : KBin.rem.den 3 18446744073709551616 9223372036854775808 n m = some (.i 3 (wdR n m)) := rem_wd n m h1 h2
  have c3 : KBin.lt.den 3 18446744073709551616 9223372036854775808 (wdR n m) 0 = some (.b (decide (9223372036854775808 ≤ wdR n m ∨ wdR n m < 0))) := lt_wd _ 0 hr (by omega)
  have := within_runG F H _ _ n m _ _ c1 c2 c3
  unfold kWithin
  rw [this]
  have hv : (if decide (9223372036854775808 ≤ wdR n m ∨ wdR n m < 0) = true then Nat.mod (Nat.add (wdR n m) m) 18446744073709551616 else wdR n m) = wdN n m := by
    unfold wdN
    by_cases hs : wdR n m < 9223372036854775808
    · have hd : ¬ (9223372036854775808 ≤ wdR n m ∨ wdR n m < 0) := by omega
      rw [if_pos hs, decide_eq_false hd, if_neg (by simp)]
    · have hd : 9223372036854775808 ≤ wdR n m ∨ wdR n m < 0 := by omega
      rw [if_neg hs, decide_eq_true hd, if_pos rfl]
      rfl
  rw [hv]

theorem wd_emod (n m : Nat) (hn : n < 18446744073709551616) (h1 : 1 ≤ m) (h2 : m < 9223372036854775808) : ((kindOf 3).wrap (n : Int)) % (m : Int) = (wdN n m : Int) ∧ wdN n m < m := by
  have hw : (kindOf 3).wrap (n : Int) = if n < 9223372036854775808 then (n : Int) else (n : Int) - 18446744073709551616 := by
    show IntKind.i64.wrap (n : Int) = _
    unfold IntKind.wrap
    have hb : (2 : Int) ^ IntKind.i64.bits = 18446744073709551616 := by decide
    have hb2 : (2 : Int) ^ (IntKind.i64.bits - 1) = 9223372036854775808 := by decide
    have hs : IntKind.i64.signed = true := rfl
    simp only [hb, hb2, hs]
    have : ((n : Int) % 18446744073709551616) = n := by omega
    rw [this]
    by_cases h : n < 9223372036854775808
    · rw [if_pos h, if_neg (by simp; omega)]
    · rw [if_neg h, if_pos (by simp; omega)]
  rw [hw]
  have hml := Nat.mod_lt n (show 0 < m from h1)
  have hml2 := Nat.mod_lt (18446744073709551616 - n) (show 0 < m from h1)
  by_cases h : n < 9223372036854775808
  · have hR : wdR n m = n % m := by unfold wdR; rw [if_pos h]
    have hN : wdN n m = n % m := by unfold wdN; rw [hR, if_pos (by omega)]
    rw [if_pos h, hN]
    exact ⟨(Int.natCast_emod n m).symm, hml⟩
  · rw [if_neg h]
    have hz : (n : Int) - 18446744073709551616 = -((18446744073709551616 - n : Nat) : Int) := by omega
    rw [hz]
    generalize hq : 18446744073709551616 - n = q at *
    have hR : wdR n m = (18446744073709551616 - q % m) % 18446744073709551616 := by unfold wdR; rw [if_neg h, hq]
    have hqd := Nat.div_add_mod q m
    by_cases h0 : q % m = 0
    · have hR0 : wdR n m = 0 := by rw [hR, h0]
      have hN : wdN n m = 0 := by unfold wdN; rw [hR0]; rfl
      rw [hN]
      refine ⟨?_, by omega⟩
      rw [Int.neg_emod, if_pos]
      · rfl
      · exact Int.natCast_dvd_natCast.2 (Nat.dvd_of_mod_eq_zero h0)
    · have hR1 : wdR n m = 18446744073709551616 - q % m := by rw [hR, Nat.mod_eq_of_lt (by omega)]
      have hN : wdN n m = m - q % m := by
        unfold wdN
        rw [hR1, if_neg (by omega)]
        omega
      rw [hN]
      refine ⟨?_, by omega⟩
      have hnd : ¬ ((m : Int) ∣ (q : Int)) := fun hd => h0 (Nat.mod_eq_zero_of_dvd (Int.natCast_dvd_natCast.1 hd))
      rw [Int.neg_emod, if_neg hnd, Int.natAbs_natCast, ← Int.natCast_emod]
      omega

/-- Within, at a number that is not known. -/
def pWithin (args : List AV) (H : AHeap) : ORes :=
  List.rec (motive := fun _ => ORes) .fail (fun a l _ => List.rec (motive := fun _ => ORes) .fail (fun b l2 _ => List.rec (motive := fun _ => ORes)
    (avI .fail (fun k m => bif' .fail (bif' .fail (bif' .fail
      (AVp.rec (motive := fun _ => ORes) (fun k2 n => bif' .fail (bif' .fail (.v (.i 3 (Nat.mod n m)) H) (Nat.ble (Nat.add n 1) 9223372036854775808)) (Nat.beq k2 3)) (fun _ => .fail) (fun _ _ => .fail) (fun _ _ => .fail) (fun _ _ _ _ => .fail)
        (fun u => AX.casesOn (motive_1 := fun _ => ORes) u .fail .fail .fail .fail .fail .fail (fun _ => .fail) (fun _ _ _ => .fail) (fun _ _ => .fail) (fun _ => .fail) (fun _ => .fail) (fun _ => .fail)
          (fun q r => Bool.rec (motive := fun _ => ORes) (bif' .fail (.v (.x (.rg 3 (Nat.div r 65536) (Nat.mod r 65536))) H) (Nat.beq q m)) (bif' .fail (.v (.i 3 (Nat.mod (Nat.div r 65536) m)) H) (Nat.beq (Nat.mod q m) 0)) (Nat.beq (Nat.div r 65536) (Nat.mod r 65536)))
          (fun k2 _ _ => bif' .fail (.v (.x (.rg 3 0 (Nat.sub m 1))) H) (Nat.beq k2 3))) a)
      (Nat.ble (Nat.add m 1) 9223372036854775808)) (Nat.ble 1 m)) (Nat.beq k 3)) b) (fun _ _ _ => .fail) l2) l) args

theorem pWithin_of {K : KFun} (hK : ∀ (F : Fs) (H : AHeap) (n m : Nat), 1 ≤ m → m < 9223372036854775808 → K.run F [.i 3 n, .i 3 m] H = .v (.i 3 (wdN n m)) H) {P : Program} (hmix : P.follows .mixedOrders = true) {f : Nat} (hk : K.ok P dchk f = true) (args : List AV) (H : AHeap) : FSnd P f args H (pWithin args H) := by
  have hF : FsOk P (fun _ _ _ => .fail) := fun _ _ _ => trivial
  have run : ∀ n m, 1 ≤ m → m < 9223372036854775808 → FSnd P f [.i 3 n, .i 3 m] H (.v (.i 3 (wdN n m)) H) := fun n m h1 h2 => by
    have h0 := KFun.run_snd (K := K) hF (dok hF hmix K.S K.n) hk
    have h3 := h0 [.i 3 n, .i 3 m] H
    rw [hK _ H n m h1 h2] at h3
    exact h3
  -- one value for another
  have turn : ∀ (a v : AV) m, 1 ≤ m → m < 9223372036854775808 → (∀ e v', VRel e a v' → ∃ n, n < 18446744073709551616 ∧ VRel e (.i 3 n) v' ∧ ∀ e' u, VRel e' (.i 3 (wdN n m)) u → VRel e' v u) → FSnd P f [a, .i 3 m] H (.v v H) := fun a v m h1 h2 ht => by
    intro e w args' hr hargs
    cases hargs with
    | cons ha hl =>
      obtain ⟨n, hn, hi, hv⟩ := ht e _ ha
      have conv : ∀ E w', (∃ e' v', E = Ending.returned v' ∧ VRel e' (.i 3 (wdN n m)) v' ∧ Evo P.globals.size e H w e' H w') → ∃ e' v', E = Ending.returned v' ∧ VRel e' v v' ∧ Evo P.globals.size e H w e' H w' := by
        rintro E w' ⟨e', v', q1, q2, q3⟩
        exact ⟨e', v', q1, hv e' v' q2, q3⟩
      rcases run n m h1 h2 e w _ hr (.cons hi hl) with ⟨q1, q2⟩ | ⟨v1, w1, q1, q2⟩
      · exact .inl ⟨q1, Calls.mono q2 conv⟩
      · exact .inr ⟨v1, w1, q1, conv _ _ q2⟩
  have hb : 2 ^ (kindOf 3).bits = 18446744073709551616 := by decide
  have fit : ∀ {n}, n < 2 ^ (kindOf 3).bits → n < 18446744073709551616 := fun h => by rw [hb] at h; exact h
  unfold pWithin
  cases args with
  | nil => trivial
  | cons a l =>
  cases l with
  | nil => trivial
  | cons b l =>
  cases l with
  | cons => trivial
  | nil =>
  cases b with
  | i k m =>
    simp only [avI, bif']
    cases c1 : Nat.beq k 3 with
    | false => trivial
    | true =>
    have hk3 : k = 3 := Nat.eq_of_beq_eq_true c1
    subst hk3
    cases c2 : Nat.ble 1 m with
    | false => trivial
    | true =>
    have h1 : 1 ≤ m := Nat.le_of_ble_eq_true c2
    cases c3 : Nat.ble (Nat.add m 1) 9223372036854775808 with
    | false => trivial
    | true =>
    have h2 : m < 9223372036854775808 := Nat.le_of_ble_eq_true c3
    cases a with
    | i k2 n =>
      simp only
      cases c4 : Nat.beq k2 3 with
      | false => trivial
      | true =>
      have hk2 : k2 = 3 := Nat.eq_of_beq_eq_true c4
      subst hk2
      cases c5 : Nat.ble (Nat.add n 1) 9223372036854775808 with
      | false => trivial
      | true =>
      have h3 : n < 9223372036854775808 := Nat.le_of_ble_eq_true c5
      have he : wdN n m = n % m := by
        have hR : wdR n m = n % m := by unfold wdR; rw [if_pos h3]
        unfold wdN
        have := Nat.mod_lt n (show 0 < m from h1)
        rw [hR, if_pos (by omega)]
      have := run n m h1 h2
      rw [he] at this
      exact this
    | x u =>
      cases u with
      | sy q r =>
        simp only
        have key : ∀ n : Nat, n < 2 ^ (kindOf 3).bits → ∀ r2 : Nat, (kindOf 3).wrap (n : Int) % (q : Int) = r2 → q % m = 0 → wdN n m = r2 % m := fun n hn r2 hz h3 => by
          have h4 := (wd_emod n m (fit hn) h1 h2).1
          have h5 : (kindOf 3).wrap (n : Int) % (m : Int) = ((r2 % m : Nat) : Int) := by
            rw [Int.natCast_emod, ← hz, Int.emod_emod_of_dvd _ (Int.natCast_dvd_natCast.2 (Nat.dvd_of_mod_eq_zero h3))]
          rw [h5] at h4
          exact (Int.ofNat.inj h4).symm
        cases c4 : Nat.beq (Nat.div r 65536) (Nat.mod r 65536) with
        | true =>
          simp only
          have hlh : r / 65536 = r % 65536 := Nat.eq_of_beq_eq_true c4
          cases c5 : Nat.beq (Nat.mod q m) 0 with
          | false => trivial
          | true =>
          have h3 : q % m = 0 := Nat.eq_of_beq_eq_true c5
          refine turn _ _ m h1 h2 fun e v' hv => ?_
          cases hv with
          | sy _ _ n hn hz =>
            obtain ⟨r2, hz, l1, l2⟩ := hz
            refine ⟨n, fit hn, .i 3 n (by omega) hn, fun e' u hu => ?_⟩
            have h6 := key n hn r2 hz h3
            rw [show r2 = r / 65536 by omega] at h6
            rw [h6] at hu
            exact hu
        | false =>
          simp only
          cases c5 : Nat.beq q m with
          | false => trivial
          | true =>
          have h3 : q = m := Nat.eq_of_beq_eq_true c5
          refine turn _ _ m h1 h2 fun e v' hv => ?_
          cases hv with
          | sy _ _ n hn hz =>
            obtain ⟨r2, hz, l1, l2⟩ := hz
            refine ⟨n, fit hn, .i 3 n (by omega) hn, fun e' u hu => ?_⟩
            have h6 := key n hn r2 hz (by rw [h3]; exact Nat.mod_self m)
            have h7 := (wd_emod n m (fit hn) h1 h2)
            have h8 : r2 < m := by
              have h9 := Int.emod_lt_of_pos ((kindOf 3).wrap (n : Int)) (show (0 : Int) < (q : Int) by omega)
              rw [hz] at h9
              omega
            rw [Nat.mod_eq_of_lt h8] at h6
            rw [h6] at hu
            exact vrel_rg hu l1 l2
      | rg k2 lo hi =>
        simp only
        cases c4 : Nat.beq k2 3 with
        | false => trivial
        | true =>
        have hk2 : k2 = 3 := Nat.eq_of_beq_eq_true c4
        subst hk2
        refine turn _ _ m h1 h2 fun e v' hv => ?_
        cases hv with
        | rg _ _ _ n hk1 hn _ _ =>
          refine ⟨n, fit hn, .i 3 n (by omega) hn, fun e' u hu => ?_⟩
          have h4 := (wd_emod n m (fit hn) h1 h2).2
          exact vrel_rg hu (Nat.zero_le _) (show wdN n m ≤ m - 1 by omega)
      | _ => trivial
    | _ => trivial
  | _ => trivial
theorem pWithin_snd {P : Program} (hmix : P.follows .mixedOrders = true) {f : Nat} (hk : kWithin.ok P dchk f = true) (args : List AV) (H : AHeap) : FSnd P f args H (pWithin args H) :=
  pWithin_of (K := kWithin) (fun F H n m h1 h2 => within_run F H n m h1 h2) hmix hk args H
end
end Go.Ab
