/- From the evaluation of a law to the statement's contract: the start, the end. -/
import Derived.Test.YtfhaailmhaamfaaGreatDoorAbWithin
import Derived.Test.YtfhaailmhaamfaaGreatDoorAbP
import Derived.Handed
import Derived.ChangeSame
import Derived.Lib.LaidTab
namespace Go.Ab
open Go
noncomputable section

/-! ### The start -/
/-- A memory of these blocks. -/
def heapOf (bs : List ABlk) : AHeap := ⟨BT.ofList bs.reverse, bs.length, bs.length⟩
theorem heapOf_get (bs : List ABlk) (b : Nat) : (heapOf bs).get b = bs[b]? := by
  rw [AHeap.get_eq]
  show (if b < bs.length then (BT.ofList bs.reverse).get (bs.length - 1 - b) else none) = _
  by_cases h : b < bs.length
  · rw [if_pos h, BT.get_ofList, List.getElem?_reverse (by omega)]
    congr 1; omega
  · rw [if_neg h, List.getElem?_eq_none (by omega)]
/-- A table of whole numbers. -/
def tabB (k : Nat) (ds : List Nat) : ABlk := .c ds.length (BT.ofList (ds.map (AVp.i k))) false 0
def lenOf (x : Option ABlk) : Nat := match x with | some (.c n _ _ _) => n | _ => 0
def emb0 (bs : List ABlk) : Emb := fun b => if b < bs.length then some ⟨b, 0, lenOf bs[b]?, 0, lenOf bs[b]?⟩ else none
theorem emb0_some {bs : List ABlk} {b : Nat} {i : Info} (h : emb0 bs b = some i) : b < bs.length ∧ i = ⟨b, 0, lenOf bs[b]?, 0, lenOf bs[b]?⟩ := by
  unfold emb0 at h
  split at h
  · cases h; exact ⟨‹_›, rfl⟩
  · cases h

/-- What a table's block holds, there. -/
def TabAt (W : World) (g k : Nat) (ds : List Nat) : Prop :=
  k < 8 ∧ (∀ d ∈ ds, d < 2 ^ (kindOf k).bits) ∧ ∃ C ty z, W.heap[g]? = some (.cells C ty z) ∧ C = (ds.map fun (d : Nat) => Value.int (kindOf k) ((kindOf k).wrap (d : Int))).toArray

theorem rel_start {P : Program} {W : World} {bs : List ABlk} (hlen : bs.length = P.globals.size) (hW : P.globals.size ≤ W.heap.size)
    (hb : ∀ g x, bs[g]? = some x → x = .dead ∨ ∃ k ds, x = tabB k ds ∧ TabAt W g k ds) : Rel P.globals.size (emb0 bs) (heapOf bs) W where
  lt := fun b i h => (emb0_some h).1
  bnd := fun b i h => by
    obtain ⟨h1, rfl⟩ := emb0_some h
    show b < _
    omega
  glob := fun g hg => ⟨_, by unfold emb0; rw [if_pos (by omega)], rfl, rfl⟩
  obj := fun b i x h hg => by
    obtain ⟨h1, rfl⟩ := emb0_some h
    rw [heapOf_get] at hg
    rcases hb b x hg with rfl | ⟨k, ds, rfl, hk, hds, C, ty, z, hC, rfl⟩
    · trivial
    · have hl : lenOf bs[b]? = ds.length := by rw [hg]; rfl
      rw [hl]
      refine ⟨rfl, rfl, by simp, _, ty, z, hC, by simp, (by intro h; cases h), fun j hj => ?_⟩
      refine ⟨.i k ds[j], .int (kindOf k) ((kindOf k).wrap ((ds[j] : Nat) : Int)), ?_, ?_, .i k _ hk (hds _ (List.getElem_mem hj))⟩
      · rw [BT.get_ofList]; simp [hj]
      · simp [hj]
  sep := fun b1 i1 b2 i2 h1 h2 hne ho ha => by
    obtain ⟨q1, rfl⟩ := emb0_some h1
    obtain ⟨q2, rfl⟩ := emb0_some h2
    exact hne

/-! ### The end -/
/-- true, and nothing that was there has changed. -/
def okRes (N : Nat) (r : ORes) : Bool :=
  ORes.rec (motive := fun _ => Bool) (fun v H => avB false (fun b => Bool.rec (motive := fun _ => Bool) false (Nat.ble N H.low) b) v) (fun _ _ => false) false r
theorem okRes_spec {N : Nat} {r : ORes} (h : okRes N r = true) : ∃ H, r = .v (.b true) H ∧ N ≤ H.low := by
  cases r with
  | v v H =>
    cases v with
    | b t =>
      cases t with
      | true => exact ⟨H, rfl, Nat.le_of_ble_eq_true h⟩
      | false => cases h
    | _ => cases h
  | _ => cases h

def Kept (W w' : World) : Prop := w'.os = W.os ∧ w'.output = W.output ∧ ∀ B, B < W.heap.size → w'.heap[B]? = W.heap[B]?
theorem Kept.but {W w' : World} (h : Kept W w') (may : MemPlace → Prop) : W.keptBut w' may := by
  refine ⟨h.1, h.2.1, fun i hi => ?_⟩
  rw [h.2.2 i hi]
  cases hx : W.heap[i]? with
  | none => rfl
  | some o =>
    cases o with
    | cells c t z => exact ⟨rfl, rfl, rfl, fun _ _ => rfl⟩
    | map es clock => exact .inr ⟨rfl, rfl⟩
    | _ => rfl

theorem law_calls {P : Program} {F : Fs} (hF : FsOk P F) {dc : DCheck} {f : Nat} {K : KFun} (hk : K.ok P dc f = true) {args : List AV} {args' : List Value} {e : Emb} {H : AHeap} {W : World} (hres : okRes H.nxt (F f args H) = true) (hr : Rel P.globals.size e H W) (ha : VRels e args args') :
    Calls P f args'.toArray W (fun E w' => E = .returned (.bool true) ∧ Kept W w') := by
  obtain ⟨H', h1, h2⟩ := okRes_spec hres
  have h3 := hF f args H
  rw [h1] at h3
  have conv : ∀ E w', (∃ e' v', E = Ending.returned v' ∧ VRel e' (.b true) v' ∧ Evo P.globals.size e H W e' H' w') → E = .returned (.bool true) ∧ Kept W w' := by
    rintro E w' ⟨e', v', rfl, hv, hev⟩
    cases hv
    refine ⟨rfl, hev.os, hev.out, fun B hB => hev.frame B hB fun b i hb _ => .inr ?_⟩
    have := hr.lt b i hb
    omega
  rcases h3 e W args' hr ha with ⟨_, q⟩ | ⟨v, w', q, _⟩
  · exact Calls.mono q conv
  · exfalso
    unfold KFun.ok at hk
    cases hf : P.funcs[f]? with
    | none => rw [hf] at hk; cases hk
    | some fn =>
      rw [hf] at hk
      simp only [Bool.and_eq_true] at hk
      cases hb : fn.body with
      | none => rw [hb] at hk; exact absurd hk.2 (by simp)
      | some c =>
        rw [run_callFunc hf hk.1.1.1.1.1.1 hb] at q
        cases q

/-! ### The frame of a statement, with the shape of the world -/
theorem handed_shaped {H : Type} {enc : TypeId × Value → H} {a : Assume} {C : Checked} {os : Os} {f : FuncId} {fn : Func} {s : ChangeSpec} {conds : List PathCond} {apart fresh handsOn again : Bool} {X : World → Array Value → Prop}
    (hX : ∀ (w w' : World) (args : Array Value), w.heap = w'.heap → X w args → X w' args)
    (own : ownKnob C.prog.godebug = none) (started : os.Started) (noInit : C.prog.inits.idxOf? f = none) (hfn : C.prog.funcs[f]? = some fn)
    (witness : ∃ (w : World) (tape : Tape) (i : Input), w.os = os ∧ (w.forCall tape i).Shaped C.prog ∧ i.vars = [] ∧ Input.okWide C.prog (w.forCall tape i) .any w.heap.size f i ∧
      ((s.pre enc C.prog fn conds apart (w.forCall tape i).memory i.args ∧ X (w.forCall tape i).memory i.args) ∧ sizedMet enc C.prog fn (OpenSpec.ofChange s) apart (w.forCall tape i).memory i.args) ∧ a.holds C.prog (lone (Frame.enter C.prog f i.args .normal) [] (w.forCall tape i)))
    (contract : ∀ (W : World) (base : Nat) (args : Array Value) (ds gs : List (DataW H)) (before : List MemPlace), W.ShapedOpen C.prog →
      (∀ (j : Nat) t v, fn.params[j]? = some t → args[j]? = some v → Value.okWide C.prog W .any base t v) →
      DataW.Whole enc C.prog fn.params.toList s.vars apart W args.toList ds gs before → X W args →
      Calls C.prog f args W fun e W' => ∃ v, e = .returned v ∧ s.post enc C.prog fn apart fresh handsOn again W args v W') :
    ReturnsInHanded a C os f .any (fun w args => (s.pre enc C.prog fn conds apart w args ∧ X w args) ∧ sizedMet enc C.prog fn (OpenSpec.ofChange s) apart w args) (s.post enc C.prog fn apart fresh handsOn again) := by
  refine returnsInHanded_of_calls own started noInit witness ?_
  intro w tape i _ hsh _ hok hpre _
  obtain ⟨_, _, _, fn', hfn', _, _, _, _, hval⟩ := hok
  have e : fn' = fn := Option.some.inj (hfn'.symm.trans hfn)
  subst e
  obtain ⟨⟨⟨ds, gs, before, hw, _⟩, hx⟩, _⟩ := hpre
  have hw' := DataW.Whole.of_heap (w' := w.forCall tape i) (by rfl) hw
  refine (contract (w.forCall tape i) w.heap.size i.args ds gs before hsh hval hw' (hX _ _ _ (by rfl) hx)).mono fun e W' ⟨v, he, hp⟩ => ?_
  subst he
  exact ChangeSpec.post_blind hp

/-- What holds behind a call that changes nothing and answers a bool. -/
theorem post_kept {H : Type} {enc : TypeId × Value → H} {P : Program} {f : Func} {s : ChangeSpec} {apart fresh handsOn : Bool} {W W' : World} {args : Array Value} {v : Value} {ds gs : List (DataW H)} {before pa pv : List MemPlace}
    (hW : DataW.Whole enc P f.params.toList s.vars apart W args.toList ds gs before)
    (hres : ∀ (b : Nat) (sp : Nat → Bool) (hd : Bool), DataW.TrodAll enc P W' b sp hd f.resultTypes.toList (v.resultList f.resultTypes.size) (s.fn H (ds ++ gs)).results [])
    (hargs : ∀ sp : Nat → Bool, DataW.TrodAll enc P W' 0 sp true f.params.toList args.toList (s.fn H (ds ++ gs)).args pa)
    (hvars : ∀ sp : Nat → Bool, DataW.TrodVars enc P W' sp s.vars (s.fn H (ds ++ gs)).vars pv) (hk : Kept W W') : s.post enc P f apart fresh handsOn false W args v W' :=
  ⟨ds, gs, before, [], pa, pv, hW, hres _ _ _, hargs _, hvars _, hk.but _, fun h => by cases h⟩

/-- The globals are there. -/
def shapedB (P : Program) : Bool := (List.range P.globals.size).all fun g => (((begin P (fun _ _ => 0) default).world.heap[g]?).bind Obj.row?).isSome
theorem shaped_size {P : Program} {W : World} (hs : W.ShapedOpen P) (hb : shapedB P = true) : P.globals.size ≤ W.heap.size := by
  rcases Nat.lt_or_ge W.heap.size P.globals.size with h | h
  · exfalso
    unfold shapedB at hb
    rw [List.all_eq_true] at hb
    have h1 := hb W.heap.size (by simpa using h)
    obtain ⟨⟨zero, t⟩, hz⟩ := Option.isSome_iff_exists.1 h1
    obtain ⟨cs, hcs, _⟩ := hs.1 W.heap.size zero t h hz
    simp at hcs
  · exact h

/-- A listed table, as it lies. -/
theorem tabAt_of {P : Program} {W : World} {name : String} {k : Nat} {ds : List Nat} {g : Nat} (hg : P.globalNamed name = some g) (hk : k < 8) (hds : (ds.all fun d => Nat.ble (d + 1) (2 ^ (kindOf k).bits)) = true)
    (h : Lib.TabIs P W name (kindOf k) (ds.map fun (d : Nat) => (kindOf k).wrap (d : Int))) : TabAt W g k ds := by
  refine ⟨hk, fun d hd => ?_, ?_⟩
  · have := List.all_eq_true.1 hds d hd
    rw [ble_tt] at this
    exact this
  · unfold Lib.TabIs World.var? at h
    rw [hg] at h
    simp only [Option.bind_some] at h
    split at h
    · rename_i cs ty z hc
      refine ⟨cs, ty, z, hc, ?_⟩
      simp only [Option.some.injEq] at h
      rw [h, List.map_map]
      rfl
    · cases h
theorem tail_laid {P : Program} {x : String × DataW Unit} {r : List (String × DataW Unit)} {w : World} (h : laidMet P (x :: r) w) : laidMet P r w := by
  obtain ⟨ps, hv, hnd, hrows⟩ := h
  obtain ⟨n, d⟩ := x
  obtain ⟨g, t, cs, fuel, p, q, _, _, _, _, hq, rfl⟩ := hv
  exact ⟨q, hq, List.Nodup.sublist (List.sublist_append_right _ _) hnd, fun b off hm => hrows b off (List.mem_append_right _ hm)⟩

theorem wrap_self {z : Int} (hz : (Lit.int .i64 z).wf = true) : IntKind.i64.wrap z = z := by
  have h : IntKind.i64.min ≤ z ∧ z ≤ IntKind.i64.max := by simpa [Lit.wf] using hz
  have h1 : IntKind.i64.min = -9223372036854775808 := by decide
  have h2 : IntKind.i64.max = 9223372036854775807 := by decide
  rw [h1, h2] at h
  unfold IntKind.wrap
  have hb : (2 : Int) ^ IntKind.i64.bits = 18446744073709551616 := by decide
  have hb2 : (2 : Int) ^ (IntKind.i64.bits - 1) = 9223372036854775808 := by decide
  have hs : IntKind.i64.signed = true := rfl
  simp only [hb, hb2, hs]
  by_cases h0 : 0 ≤ z
  · have : z % 18446744073709551616 = z := by omega
    rw [this, if_neg (by simp; omega)]
  · have : z % 18446744073709551616 = z + 18446744073709551616 := by omega
    rw [this, if_pos (by simp; omega)]
    omega
/-- Any int, as an argument. -/
theorem vrel_any (e : Emb) {z : Int} (hz : (Lit.int .i64 z).wf = true) : VRel e (.x (.rg 3 0 18446744073709551615)) (.int .i64 z) := by
  have hw : (kindOf 3).wrap z = z := by
    exact wrap_self hz
  have h := vrel_int e 3 (by omega) z _ rfl
  rw [hw] at h
  refine vrel_rg h (Nat.zero_le _) ?_
  have := digs_lt (kindOf 3) z
  have hb : 2 ^ (kindOf 3).bits = 18446744073709551616 := by decide
  rw [hb] at this
  omega
/-- An int, by what is left where it is divided by m. -/
theorem vrel_leftR (e : Emb) {z : Int} (hz : (Lit.int .i64 z).wf = true) {m r lo hi : Nat} (hr : z % (m : Int) = r) (h1 : lo ≤ r) (h2 : r ≤ hi) (h3 : hi < 65536) : VRel e (.x (.sy m (lo * 65536 + hi))) (.int .i64 z) := by
  have hw : (kindOf 3).wrap z = z := by
    exact wrap_self hz
  have h := wrap_digs (kindOf 3) z
  rw [hw] at h
  have := VRel.sy (e := e) m (lo * 65536 + hi) (digs (kindOf 3) z) (digs_lt _ _) ⟨r, by rw [← h]; exact hr, by omega, by omega⟩
  rw [← h] at this
  exact this
theorem vrel_left (e : Emb) {z : Int} (hz : (Lit.int .i64 z).wf = true) {m r : Nat} (hr : z % (m : Int) = r) (h3 : r < 65536) : VRel e (.x (.sy m (r * 65536 + r))) (.int .i64 z) := vrel_leftR e hz hr (Nat.le_refl _) (Nat.le_refl _) h3
/-- What is left of an int. -/
theorem left_of (z : Int) (m : Nat) (hm : 0 < m) : ∃ r : Nat, z % (m : Int) = r ∧ r < m := by
  have h0 := Int.emod_nonneg z (show (m : Int) ≠ 0 by omega)
  have h1 := Int.emod_lt_of_pos z (show (0 : Int) < (m : Int) by omega)
  exact ⟨(z % (m : Int)).toNat, by omega, by omega⟩
end
end Go.Ab
