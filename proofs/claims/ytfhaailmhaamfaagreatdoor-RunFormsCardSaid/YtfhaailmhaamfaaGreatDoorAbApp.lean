/- Operations over the abstract memory (12): append. -/
import Derived.Test.YtfhaailmhaamfaaGreatDoorAbMem
namespace Go.Ab
open Go
noncomputable section
variable {S : BT Nat}

/-- The elements of a slice. -/
def readS (sz : Nat) (H : AHeap) (v : AV) : Option (Nat × List AV) :=
  AVp.rec (motive := fun _ => Option (Nat × List AV)) (fun _ _ => none) (fun _ => none) (fun _ _ => none) (fun _ _ => none)
    (fun b o n _ => Bool.rec (motive := fun _ => Option (Nat × List AV)) (optL none (fun l => some (n, l)) (readN H b o (Nat.mul n sz))) (some (0, [])) (Nat.beq n 0))
    (fun y => axNils none (some (0, [])) y) v

theorem readS_spec {G : Nat} {sz : Nat} {H : AHeap} {v : AV} {n : Nat} {l : List AV} (h : readS sz H v = some (n, l)) {e : Emb} {w : World} (hr : Rel G e H w) {v' : Value} (hv : VRel e v v') :
    ∃ base cap', v' = .slice base n cap' ∧ ∃ l' : List Value, l'.length = n * sz ∧ VRels e l l' ∧ ((n = 0 ∧ l = [] ∧ (base = none → cap' = 0)) ∨ ∃ a, base = some a ∧ ∀ j u, l'[j]? = some u → w.cell? (a.add j) = some u) := by
  cases v with
  | sl b o m cap =>
    have hd : readS sz H (.sl b o m cap) = Bool.rec (motive := fun _ => Option (Nat × List AV)) (optL none (fun l => some (m, l)) (readN H b o (m * sz))) (some (0, [])) (Nat.beq m 0) := rfl
    rw [hd] at h
    cases c : Nat.beq m 0 with
    | true =>
      rw [c] at h
      cases h
      have hm : m = 0 := Nat.eq_of_beq_eq_true c
      subst hm
      cases hv with
      | sl _ _ _ _ cap' i hi hc => exact ⟨_, cap', rfl, [], by simp, .nil, .inl ⟨rfl, rfl, by simp⟩⟩
      | slq _ _ a => exact ⟨_, 0, rfl, [], by simp, .nil, .inl ⟨rfl, rfl, by simp⟩⟩
    | false =>
      rw [c] at h
      simp only at h
      cases hl : readN H b o (m * sz) with
      | none => rw [hl] at h; cases h
      | some l1 =>
        rw [hl] at h
        simp only [optL, Option.some.injEq, Prod.mk.injEq] at h
        obtain ⟨rfl, rfl⟩ := h
        cases hv with
        | sl _ _ _ _ cap' i hi hc =>
          obtain ⟨l', g1, g2, g3, g4⟩ := readN_spec hl hr hi
          exact ⟨_, cap', rfl, l', g1, g2, .inr ⟨_, rfl, g3⟩⟩
        | slq _ _ a => cases c
  | x y =>
    cases y with
    | nils =>
      cases h
      cases hv
      exact ⟨none, 0, rfl, [], by simp, .nil, .inl ⟨rfl, rfl, fun _ => rfl⟩⟩
    | _ => cases h
  | _ => cases h

def newG (H : AHeap) (l : List AV) (sz : Nat) : AHeap := H.alloc (.c l.length (BT.ofList l) true sz)

/-- A slice's block: is its limit known to be the model's, too? (some true: it may be written, and have room behind it) -/
def grows (H : AHeap) (b o cap sz : Nat) : Option Bool :=
  blkC none (fun n _ w sp => Bool.rec (motive := fun _ => Option Bool)
    (Bool.rec (motive := fun _ => Option Bool) none (Bool.rec (motive := fun _ => Option Bool) (some false) (Bool.rec (motive := fun _ => Option Bool) none (some true) w) (Nat.beq (Nat.add o (Nat.mul cap sz)) n)) (Nat.beq sp sz))
    (some false) (Nat.beq sp 0)) (H.get b)

theorem grows_false {H : AHeap} {b o cap sz : Nat} (h : grows H b o cap sz = some false) {G : Nat} {e : Emb} {w : World} (hr : Rel G e H w) {i : Info} (hi : e b = some i) {cap' : Nat} (hc : CapOk i o cap cap') : cap' = cap := by
  unfold grows at h
  cases hb : H.get b with
  | none => rw [hb] at h; cases h
  | some y =>
    rw [hb] at h
    cases y with
    | m es => cases h
    | dead => cases h
    | c n T wr sp =>
      obtain ⟨e1, e2, _⟩ := hr.obj b i _ hi hb
      simp only [blkC] at h
      rcases hc with hc | ⟨g1, g2, g3, g4⟩
      · exact hc
      · exfalso
        cases c0 : Nat.beq sp 0 with
        | true => have := Nat.eq_of_beq_eq_true c0; omega
        | false =>
          rw [c0] at h
          simp only at h
          cases c1 : Nat.beq sp sz with
          | false => rw [c1] at h; cases h
          | true =>
            rw [c1] at h
            simp only at h
            have d1 : sp = sz := Nat.eq_of_beq_eq_true c1
            cases c2 : Nat.beq (Nat.add o (Nat.mul cap sz)) n with
            | false =>
              have : Nat.beq (Nat.add o (Nat.mul cap sz)) n = true := by
                rw [beq_tt]
                show o + cap * sz = n
                rw [← d1, ← e2, ← e1]; exact g2
              rw [c2] at this; cases this
            | true =>
              rw [c2] at h
              cases wr <;> cases h
theorem grows_true {H : AHeap} {b o cap sz : Nat} (h : grows H b o cap sz = some true) : ∃ n T, H.get b = some (.c n T true sz) ∧ 0 < sz ∧ o + cap * sz = n := by
  unfold grows at h
  cases hb : H.get b with
  | none => rw [hb] at h; cases h
  | some y =>
    rw [hb] at h
    cases y with
    | m es => cases h
    | dead => cases h
    | c n T wr sp =>
      simp only [blkC] at h
      cases c0 : Nat.beq sp 0 with
      | true => rw [c0] at h; cases h
      | false =>
        rw [c0] at h
        simp only at h
        cases c1 : Nat.beq sp sz with
        | false => rw [c1] at h; cases h
        | true =>
          rw [c1] at h
          simp only at h
          have d1 : sp = sz := Nat.eq_of_beq_eq_true c1
          cases c2 : Nat.beq (Nat.add o (Nat.mul cap sz)) n with
          | false => rw [c2] at h; cases h
          | true =>
            rw [c2] at h
            cases wr with
            | false => cases h
            | true =>
              subst d1
              refine ⟨n, T, rfl, ?_, ?_⟩
              · rcases Nat.eq_zero_or_pos sp with h0 | h0
                · subst h0; cases c0
                · exact h0
              · have := Nat.eq_of_beq_eq_true c2; exact this

/-- The answer of an append to a slice that is not nil. -/
def appSl (sz : Nat) (H : AHeap) (b o len cap n : Nat) (l : List AV) : ORes :=
  bif' (optL .fail (fun old => Option.rec (motive := fun _ => ORes) .fail (fun g => Bool.rec (motive := fun _ => ORes)
        (.v (.sl H.nxt 0 (Nat.add len n) (Nat.add len n)) (newG H (old ++ l) sz))
        (.v (.sl H.nxt 0 (Nat.add len n) (Nat.add len n)) (newG (H.upd b .dead) (old ++ l) sz)) g) (grows H b o cap sz)) (readN H b o (Nat.mul len sz)))
    (optH .fail (fun H' => .v (.sl b o (Nat.add len n) cap) H') (writeN H b (Nat.add o (Nat.mul len sz)) l)) (Nat.ble (Nat.add len n) cap)

def opAppend (sz bytes : Nat) (x y : Env → AV) (en : Env) (H : AHeap) : ORes :=
  Option.rec (motive := fun _ => ORes) .fail (fun p =>
    Bool.rec (motive := fun _ => ORes)
      (bif' .fail (AVp.rec (motive := fun _ => ORes) (fun _ _ => .fail) (fun _ => .fail) (fun _ _ => .fail) (fun _ _ => .fail)
        (fun b o len cap => bif' .fail (appSl sz H b o len cap p.1 p.2) (Nat.ble (Nat.mul (Nat.add len p.1) bytes) 140737488355328))
        (fun u => axNils .fail (bif' .fail (.v (.sl H.nxt 0 p.1 p.1) (newG H p.2 sz)) (Nat.ble (Nat.mul p.1 bytes) 140737488355328)) u) (x en)) (allOne p.2))
      (AVp.rec (motive := fun _ => ORes) (fun _ _ => .fail) (fun _ => .fail) (fun _ _ => .fail) (fun _ _ => .fail)
        (fun b o len cap => bif' .fail (.v (.sl b o len cap) H) (Nat.ble len cap)) (fun u => axNils .fail (.v (.x .nils) H) u) (x en))
      (Nat.beq p.1 0)) (readS sz H (y en))

theorem exec_builtin {P : Program} {o : Oper} {b : Builtin} {args : Array Operand} {argTypes : Array TypeId} (ho : o.op = .call { callee := .builtin b, args, argTypes }) (ρ : Operand → Value) (w : World) :
    (execOp ρ o).run P w = (builtin b argTypes o.type (args.map fun | .const _ => true | _ => false) (args.map ρ)).run P w := by
  simp only [execOp, ho, resolve, Sem.run_bind, Sem.run_pure, Result.andThen_ok, invoke]
  rfl

theorem zeroCells_size (z : Array Value) (n : Nat) : (Builtin.zeroCells z n).size = n * z.size := by simp [Builtin.zeroCells]

/-- A new row with room behind it. -/
theorem Evo.newRoom {G : Nat} {e : Emb} {H : AHeap} {w : World} (hr : Rel G e H w) {l : List AV} {l' : List Value} (hl : VRels e l l') (extra : Array Value) (ty : TypeId) (sz : Nat) :
    Evo G e H w (e.put H.nxt ⟨w.heap.size, 0, l.length, sz, l'.length + extra.size⟩) (newG H l sz) (w.drew.alloc (.cells (l'.toArray ++ extra) ty)) := by
  have h0 : Evo G e H w e H w.drew := Evo.drew hr _
  have hlen := hl.length
  refine h0.trans (Evo.alloc h0.rel _ _ _ rfl ⟨rfl, rfl, by simp [hlen], l'.toArray ++ extra, ty, (0, 0), rfl, by simp, fun _ => Nat.le_refl _, fun k hk => ?_⟩)
  obtain ⟨v', q1, q2⟩ := hl.get (List.getElem?_eq_getElem hk)
  refine ⟨_, v', by rw [BT.get_ofList]; exact List.getElem?_eq_getElem hk, ?_, q2⟩
  simp only [Nat.zero_add]
  rw [Array.getElem?_append_left (by simp; omega)]
  simpa using q1

theorem grownCap_ge (w : World) (need old : Nat) (el : TypeId) : need ≤ grownCap w need old el := by
  unfold grownCap
  simp only [Question.cut]
  omega

/-- An elder block given up, nothing changed. -/
theorem Evo.kill {G : Nat} {e : Emb} {H : AHeap} {w : World} (hr : Rel G e H w) {b : Nat} {i : Info} (hi : e b = some i) (ho : H.owned b) : Evo G e H w e (H.upd b .dead) w := by
  obtain ⟨ob, hob⟩ : ∃ ob, w.heap[i.blk]? = some ob := ⟨_, Array.getElem?_eq_getElem (hr.bnd b i hi)⟩
  refine Evo.change hr hi ho .dead ob ?_ rfl rfl rfl trivial
  apply Array.ext_getElem?
  intro j
  rw [Array.getElem?_setIfInBounds]
  split
  · subst_vars
    split
    · exact hob
    · rw [Array.getElem?_eq_none (by omega)]
  · rfl

theorem Evo.killAny {G : Nat} {e : Emb} {H : AHeap} {w : World} (hr : Rel G e H w) {b : Nat} (ho : H.owned b) : Evo G e H w e (H.upd b .dead) w := by
  cases hi : e b with
  | some i => exact Evo.kill hr hi ho
  | none =>
    obtain ⟨y, hy, _⟩ := AHeap.owned_alive ho
    have hlt := AHeap.lt_of_get hy
    have hget : ∀ c, c ≠ b → (H.upd b .dead).get c = H.get c := fun c hc => by rw [AHeap.get_upd _ _ _ hlt, if_neg hc]
    have hne : ∀ c i, e c = some i → c ≠ b := fun c i hc he => by subst he; rw [hi] at hc; cases hc
    exact {
      rel := {
        lt := hr.lt
        bnd := hr.bnd
        glob := hr.glob
        obj := fun c i x hc hg => by rw [hget c (hne c i hc)] at hg; exact hr.obj c i x hc hg
        sep := fun b1 i1 b2 i2 h1 h2 hn ho1 ha2 => by
          refine hr.sep b1 i1 b2 i2 h1 h2 hn ?_ ?_
          · unfold AHeap.owned at *; rwa [hget b1 (hne b1 i1 h1)] at ho1
          · unfold AHeap.alive at *; rwa [hget b2 (hne b2 i2 h2)] at ha2 }
      ext := fun _ _ h => h
      size := Nat.le_refl _
      tape := rfl
      os := rfl
      out := rfl
      nxt := Nat.le_refl _
      low := by rw [AHeap.low_upd]; split <;> omega
      same := fun c _ hl => hget c (by intro he; subst he; rw [AHeap.low_upd] at hl; split at hl <;> omega)
      dead := fun c hc => by
        by_cases he : c = b
        · subst he; rw [AHeap.get_upd _ _ _ hlt, if_pos rfl, hy]; rfl
        · rw [hget c he]; exact hc
      fresh := fun c i h1 h2 => by rw [h1] at h2; cases h2
      frame := fun _ _ _ => rfl }

theorem run_append_in {P : Program} {t ty el : TypeId} {i : TypeInfo} (w : World) (ht : P.underlying t = some (.slice el)) (hi : P.info? el = some i) (a : Addr) (sLen sCap : Nat) (b : Addr) (n c : Nat) (news : List Value) (hl : news.length = n * i.size)
    (hnews : ∀ j v, news[j]? = some v → w.cell? (b.add j) = some v) (hg : sLen + n ≤ sCap) {w' : World} (hs : (storeCells (a.add (sLen * i.size)) news).run P w = .ok () w') :
    (Builtin.append_ #[t, t] ty #[.slice (some a) sLen sCap, .slice (some b) n c]).run P w = .ok (.slice (some a) (sLen + n) sCap) w' := by
  have hf := run_firstCells_some (P := P) w i.size n b n c news hl hnews
  simp [Builtin.append_, run_underlying ht, sizeOf, typeInfo, hi, Builtin.lenOf, hg, hf, hs]

theorem run_append_none {P : Program} {t ty el : TypeId} {i : TypeInfo} (w : World) (ht : P.underlying t = some (.slice el)) (hi : P.info? el = some i) (base base' : Option Addr) (sLen sCap c : Nat) (hg : sLen ≤ sCap) :
    (Builtin.append_ #[t, t] ty #[.slice base sLen sCap, .slice base' 0 c]).run P w = .ok (.slice base sLen sCap) w := by
  cases base <;> cases base' <;> simp [Builtin.append_, run_underlying ht, sizeOf, typeInfo, hi, Builtin.lenOf, hg, Builtin.firstCells, loadCells, loadCellsFrom, storeCells]

theorem opAppend_snd {P : Program} {o : Oper} {t el : TypeId} {x y : Operand} {x' y' : Env → AV} {sz bytes : Nat} {i : TypeInfo} {z : Value} (ho : o.op = .call { callee := .builtin .append, args := #[x, y], argTypes := #[t, t] })
    (ht : P.underlying t = some (.slice el)) (hi : P.info? el = some i) (hsz : i.size = sz) (hby : i.bytes = bytes) (hz : i.zero = some z) (hzs : z.cells.size = sz) (hs0 : 0 < sz) (hb0 : 0 < bytes) (hx : OpndOk P S x x') (hy : OpndOk P S y y') (en : Env) (H : AHeap) :
    OSnd P S o en H (opAppend sz bytes x' y' en H) := by
  subst hsz
  subst hby
  unfold opAppend
  cases hrd : readS i.size H (y' en) with
  | none => trivial
  | some p =>
    obtain ⟨n, l⟩ := p
    simp only
    cases hn : Nat.beq n 0 with
    | true =>
      have hn0 : n = 0 := Nat.eq_of_beq_eq_true hn
      subst hn0
      simp only
      cases h : x' en with
      | sl b k len cap =>
        simp only [bif']
        cases hc : Nat.ble len cap with
        | false => trivial
        | true =>
          have hc' : len ≤ cap := by rw [ble_tt] at hc; exact hc
          refine OSnd.pure fun N D e w a hr ha => ?_
          have h1 := hx N D e en a H w hr ha
          have h2 := hy N D e en a H w hr ha
          obtain ⟨base, cap2, hyv, _⟩ := readS_spec hrd hr h2
          rw [h] at h1
          refine ⟨a.eval x, ?_, h1⟩
          generalize hxv : a.eval x = xv at h1
          cases h1 with
          | sl _ _ _ _ cap' j hj hcap =>
            have hle : cap ≤ cap' := by rcases hcap with q | ⟨_, _, q, _⟩ <;> omega
            rw [exec_builtin ho]
            simp only [builtin, List.map_toArray, List.map_cons, List.map_nil, hxv, hyv, Sem.run_bind]
            rw [run_append_none w ht hi _ _ _ _ _ (by omega)]
            rfl
          | slq _ _ ad =>
            rw [exec_builtin ho]
            simp only [builtin, List.map_toArray, List.map_cons, List.map_nil, hxv, hyv, Sem.run_bind]
            rw [run_append_none w ht hi _ _ _ _ _ (Nat.le_refl _)]
            rfl
      | x u =>
        cases u with
        | nils =>
          simp only [axNils]
          refine OSnd.pure fun N D e w a hr ha => ?_
          have h1 := hx N D e en a H w hr ha
          have h2 := hy N D e en a H w hr ha
          obtain ⟨base, cap2, hyv, _⟩ := readS_spec hrd hr h2
          rw [h] at h1
          refine ⟨a.eval x, ?_, h1⟩
          generalize hxv : a.eval x = xv at h1
          cases h1
          rw [exec_builtin ho]
          simp only [builtin, List.map_toArray, List.map_cons, List.map_nil, hxv, hyv, Sem.run_bind]
          rw [run_append_none w ht hi _ _ _ _ _ (Nat.le_refl _)]
          rfl
        | _ => trivial
      | _ => trivial
    | false =>
      have hn0 : 0 < n := by
        rcases Nat.eq_zero_or_pos n with h0 | h0
        · subst h0; cases hn
        · exact h0
      simp only
      cases hone : allOne l with
      | false => trivial
      | true =>
      simp only [bif']
      cases h : x' en with
      | sl b k len cap =>
        simp only
        cases hbig : Nat.ble (Nat.mul (Nat.add len n) i.bytes) 140737488355328 with
        | false => trivial
        | true =>
        have hbig' : (len + n) * i.bytes ≤ 140737488355328 := by rw [ble_tt] at hbig; exact hbig
        have h63 : ((len + n : Nat) : Int) ≤ 9223372036854775807 := by
          have : len + n ≤ (len + n) * i.bytes := Nat.le_mul_of_pos_right _ hb0
          omega
        simp only [appSl, bif']
        cases hin : Nat.ble (Nat.add len n) cap with
        | true =>
          have hin' : len + n ≤ cap := by rw [ble_tt] at hin; exact hin
          simp only
          cases hw : writeN H b (Nat.add k (Nat.mul len i.size)) l with
          | none => trivial
          | some H' =>
            simp only [optH]
            refine OSnd.value fun N D e w a hr ha => ?_
            have h1 := hx N D e en a H w hr ha
            have h2 := hy N D e en a H w hr ha
            obtain ⟨base, cap2, hyv, l', g1, g2, g3⟩ := readS_spec hrd hr h2
            obtain ⟨m, T, sp, q1, q2, rfl⟩ := writeN_spec hw
            rw [h] at h1
            generalize hxv : a.eval x = xv at h1
            rcases g3 with ⟨q, _⟩ | ⟨ad, rfl, hcell⟩
            · omega
            cases h1 with
            | sl _ _ _ _ cap' j hj hcap =>
              have hle : cap ≤ cap' := by rcases hcap with q | ⟨_, _, q, _⟩ <;> omega
              obtain ⟨w', r1, r2⟩ := Evo.write hr hj q1 g2 (allOne_spec g2 hone) q2 P
              refine ⟨e, .slice (some ⟨j.blk, j.off + k, none⟩) (len + n) cap', w', ?_, .sl b k (len + n) cap cap' j hj hcap, r2⟩
              rw [exec_builtin ho]
              simp only [builtin, List.map_toArray, List.map_cons, List.map_nil, hxv, hyv, Sem.run_bind]
              rw [run_append_in w ht hi ⟨j.blk, j.off + k, none⟩ len cap' ad n cap2 l' g1 hcell (by omega) (w' := w') (by rw [add_addr, Nat.add_assoc]; exact r1)]
              rfl
            | slq _ _ ad => omega
        | false =>
          have hin' : cap < len + n := by
            rcases Nat.lt_or_ge cap (len + n) with q | q
            · exact q
            · have : Nat.ble (Nat.add len n) cap = true := by rw [ble_tt]; exact q
              rw [this] at hin; cases hin
          simp only
          cases hold : readN H b k (Nat.mul len i.size) with
          | none => trivial
          | some old =>
          simp only [optL]
          cases hgr : grows H b k cap i.size with
          | none => trivial
          | some g =>
          -- what both ways share: the row made anew
          have fresh : ∀ (N : Nat) (D : List Deferred) (e : Emb) (w : World) (a : Act), Rel P.globals.size e H w → ARel S N D e en a → ∀ (H0 : AHeap) (e0 : Emb), Evo P.globals.size e H w e0 H0 w → e0 = e → H0.nxt = H.nxt →
              ∀ (ad1 : Addr) (cap1 : Nat) (old' : List Value), a.eval x = .slice (some ad1) len cap1 → old'.length = len * i.size → VRels e old old' → (∀ j u, old'[j]? = some u → w.cell? (ad1.add j) = some u) → cap1 < len + n →
              ∃ e' v' w', (execOp a.eval o).run P w = .ok (.value v') w' ∧ VRel e' (.sl H.nxt 0 (Nat.add len n) (Nat.add len n)) v' ∧ Evo P.globals.size e H w e' (newG H0 (old ++ l) i.size) w' := by
            intro N D e w a hr ha H0 e0 hE he0 hnx ad1 cap1 old' hxv o1 o2 o3 o4
            subst he0
            have h2 := hy N D e0 en a H w hr ha
            obtain ⟨base, cap2, hyv, l', g1, g2, g3⟩ := readS_spec hrd hr h2
            rcases g3 with ⟨q, _⟩ | ⟨ad, rfl, hcell⟩
            · omega
            have hall := o2.append g2
            have hall_len := hall.length
            have hrow := Evo.newRoom hE.rel hall (Builtin.zeroCells z.cells (grownCap w (len + n) cap1 el - (len + n))) el i.size
            refine ⟨_, .slice (some ⟨w.heap.size, 0, none⟩) (len + n) (grownCap w (len + n) cap1 el), _, ?_, ?_, hE.trans hrow⟩
            · rw [exec_builtin ho]
              simp only [builtin, List.map_toArray, List.map_cons, List.map_nil, hxv, hyv, Sem.run_bind]
              rw [run_append_grow w t _ el i z ht hi hz ad1 len cap1 old' o1 o3 ad n cap2 l' g1 hcell o4 h63 (growslice_fits o4 hbig')]
              simp only [Result.andThen_ok, Sem.run_pure]
              congr 3
              apply Array.ext'
              simp
            · have hgc := grownCap_ge w (len + n) cap1 el
              have hlen2 : (old ++ l).length = (len + n) * i.size := by rw [hall_len]; simp [o1, g1, Nat.add_mul]
              have := VRel.sl (e := e0.put H0.nxt ⟨w.heap.size, 0, (old ++ l).length, i.size, (old' ++ l').length + (Builtin.zeroCells z.cells (grownCap w (len + n) cap1 el - (len + n))).size⟩) H.nxt 0 (len + n) (len + n) (grownCap w (len + n) cap1 el)
                ⟨w.heap.size, 0, (old ++ l).length, i.size, (old' ++ l').length + (Builtin.zeroCells z.cells (grownCap w (len + n) cap1 el - (len + n))).size⟩ (by rw [hnx]; simp)
                (.inr ⟨hs0, by simp only [Nat.zero_add]; exact hlen2.symm, hgc, by
                  rw [zeroCells_size, hzs, ← hall_len, hlen2, ← Nat.add_mul]
                  simp only [Nat.zero_add]
                  exact Nat.le_of_eq (by congr 1; omega)⟩)
              exact this
          cases g with
          | false =>
            simp only
            refine OSnd.value fun N D e w a hr ha => ?_
            have h1 := hx N D e en a H w hr ha
            rw [h] at h1
            generalize hxv : a.eval x = xv at h1
            cases h1 with
            | sl _ _ _ _ cap' j hj hcap =>
              have hce := grows_false hgr hr hj hcap
              obtain ⟨old', o1, o2, o3, o4⟩ := readN_spec hold hr hj
              exact fresh N D e w a hr ha H e (Evo.refl hr) rfl rfl _ cap' old' hxv o1 o2 o3 (by omega)
            | slq _ _ ad =>
              have hold0 : readN H b k (Nat.mul 0 i.size) = some old := hold
              have ho0 : old = [] := by
                unfold readN at hold0
                have hm : Nat.mul 0 i.size = 0 := Nat.zero_mul _
                rw [hm] at hold0
                cases hb : H.get b with
                | none => rw [hb] at hold0; cases hold0
                | some yy =>
                  rw [hb] at hold0
                  cases yy with
                  | m es => cases hold0
                  | dead => cases hold0
                  | c nn T wr sp =>
                    simp only [blkC, bif'] at hold0
                    cases hq : Nat.ble (Nat.add k 0) nn with
                    | false => rw [hq] at hold0; cases hold0
                    | true => rw [hq] at hold0; cases hold0; rfl
              subst ho0
              exact fresh N D e w a hr ha H e (Evo.refl hr) rfl rfl ad 0 [] hxv (by simp) .nil (fun j u hj => by simp at hj) (by omega)
          | true =>
            simp only
            obtain ⟨m, T, q1, q2, q3⟩ := grows_true hgr
            refine OSnd.value fun N D e w a hr ha => ?_
            have h1 := hx N D e en a H w hr ha
            have h2 := hy N D e en a H w hr ha
            rw [h] at h1
            generalize hxv : a.eval x = xv at h1
            cases h1 with
            | sl _ _ _ _ cap' j hj hcap =>
              obtain ⟨old', o1, o2, o3, o4⟩ := readN_spec hold hr hj
              have o1' : old'.length = len * i.size := o1
              have o4' : k + len * i.size ≤ j.len := o4
              obtain ⟨e1, e2, e3, C, cty, zz, c1, c2, c3, c4⟩ := hr.obj b j _ hj q1
              have hown : H.owned b := .inl ⟨m, T, i.size, q1⟩
              rcases Nat.lt_or_ge cap' (len + n) with hlt | hge
              · exact fresh N D e w a hr ha (H.upd b .dead) e (Evo.kill hr hj hown) rfl rfl _ cap' old' hxv o1 o2 o3 hlt
              · -- there is room: the row grows in its place
                obtain ⟨base, cap2, hyv, l', g1, g2, g3⟩ := readS_spec hrd hr h2
                rcases g3 with ⟨q, _⟩ | ⟨ad, rfl, hcell⟩
                · omega
                have hroom : j.off + k + cap' * i.size ≤ j.room := by
                  rcases hcap with q | ⟨_, _, _, q⟩
                  · omega
                  · rw [e2] at q; exact q
                have hl'len : l'.length = n * i.size := g1
                have hspace : j.off + k + len * i.size + l'.length ≤ C.size := by
                  have : (len + n) * i.size ≤ cap' * i.size := Nat.mul_le_mul_right _ hge
                  rw [Nat.add_mul] at this
                  omega
                have hrun := run_storeCells (P := P) l' w j.blk (j.off + k + len * i.size) 0 C cty zz c1 (c3 rfl) (allOne_spec g2 hone) (by omega)
                have hall := o2.append g2
                have hall_len := hall.length
                have hlen2 : (old ++ l).length = (len + n) * i.size := by rw [hall_len]; simp [o1', hl'len, Nat.add_mul]
                have hgrow := Evo.growIn (w' := { w with heap := w.heap.setIfInBounds j.blk (.cells (putAll C (j.off + k + len * i.size + 0) l') cty zz) }) hr hj hown (.c (old ++ l).length (BT.ofList (old ++ l)) true i.size) (.cells (putAll C (j.off + k + len * i.size + 0) l') cty zz)
                  ⟨j.blk, j.off + k, (old ++ l).length, i.size, j.room⟩ rfl rfl rfl rfl rfl ⟨rfl, rfl, by
                    simp only
                    rw [hlen2]
                    have : (len + n) * i.size ≤ cap' * i.size := Nat.mul_le_mul_right _ hge
                    omega, _, cty, zz, rfl, by rw [putAll_size]; exact c2, fun _ => c3 rfl, fun kk hk => by
                    obtain ⟨v', r1, r2⟩ := hall.get (List.getElem?_eq_getElem hk)
                    refine ⟨_, v', by rw [BT.get_ofList]; exact List.getElem?_eq_getElem hk, ?_, r2⟩
                    show (putAll C (j.off + k + len * i.size + 0) l')[j.off + k + kk]? = some v'
                    rw [putAll_get]
                    rw [hlen2, Nat.add_mul] at hk
                    by_cases hkk : kk < len * i.size
                    · rw [if_neg (by omega)]
                      rw [List.getElem?_append_left (by omega)] at r1
                      have := o3 kk v' r1
                      rw [add_addr, cell_of c1] at this
                      exact this
                    · rw [if_pos (by omega)]
                      rw [List.getElem?_append_right (by omega), o1'] at r1
                      rw [← r1]; congr 1; omega⟩
                refine ⟨_, .slice (some ⟨j.blk, j.off + k, none⟩) (len + n) cap', _, ?_, ?_, hgrow⟩
                · rw [exec_builtin ho]
                  simp only [builtin, List.map_toArray, List.map_cons, List.map_nil, hxv, hyv, Sem.run_bind]
                  rw [run_append_in w ht hi ⟨j.blk, j.off + k, none⟩ len cap' ad n cap2 l' g1 hcell hge (by rw [add_addr]; exact hrun)]
                  rfl
                · refine VRel.sl (e := e.put H.nxt ⟨j.blk, j.off + k, (old ++ l).length, i.size, j.room⟩) H.nxt 0 (len + n) (len + n) cap' ⟨j.blk, j.off + k, (old ++ l).length, i.size, j.room⟩ (by simp) (.inr ⟨hs0, by simp only [Nat.zero_add]; exact hlen2.symm, hge, ?_⟩)
                  simp only [Nat.add_zero]
                  exact hroom
            | slq _ _ ad =>
              -- the model's slice has no room
              have hl0 : old = [] := by
                unfold readN at hold
                have hm : Nat.mul 0 i.size = 0 := Nat.zero_mul _
                rw [hm, q1] at hold
                simp only [blkC, bif'] at hold
                cases hq : Nat.ble (Nat.add k 0) m with
                | false => rw [hq] at hold; cases hold
                | true => rw [hq] at hold; cases hold; rfl
              subst hl0
              exact fresh N D e w a hr ha (H.upd b .dead) e (Evo.killAny hr (.inl ⟨m, T, i.size, q1⟩)) rfl rfl ad 0 [] hxv (by simp) .nil (fun j u hj => by simp at hj) (by omega)
      | x u =>
        cases u with
        | nils =>
          simp only [axNils]
          cases hbig : Nat.ble (Nat.mul n i.bytes) 140737488355328 with
          | false => trivial
          | true =>
            have hbig' : n * i.bytes ≤ 140737488355328 := by rw [ble_tt] at hbig; exact hbig
            refine OSnd.value fun N D e w a hr ha => ?_
            have h1 := hx N D e en a H w hr ha
            have h2 := hy N D e en a H w hr ha
            obtain ⟨base, cap2, hyv, l', g1, g2, g3⟩ := readS_spec hrd hr h2
            rcases g3 with ⟨q, _⟩ | ⟨ad, rfl, hcell⟩
            · omega
            rw [h] at h1
            generalize hxv : a.eval x = xv at h1
            cases h1
            have hlen := g2.length
            have hrow := Evo.newRoom hr g2 (Builtin.zeroCells z.cells (grownCap w n 0 el - n)) el i.size
            have h63 : (n : Int) ≤ 9223372036854775807 := by
              have : n ≤ n * i.bytes := Nat.le_mul_of_pos_right _ hb0
              omega
            refine ⟨_, .slice (some ⟨w.heap.size, 0, none⟩) n (grownCap w n 0 el), _, ?_, ?_, hrow⟩
            · rw [exec_builtin ho]
              simp only [builtin, List.map_toArray, List.map_cons, List.map_nil, hxv, hyv, Sem.run_bind]
              rw [run_append_nil w t _ el i z ht hi hz ad n cap2 l' g1 hcell hn0 h63 (by omega)]
              rfl
            · have hgc := grownCap_ge w n 0 el
              refine VRel.sl (e := e.put H.nxt ⟨w.heap.size, 0, l.length, i.size, l'.length + (Builtin.zeroCells z.cells (grownCap w n 0 el - n)).size⟩) H.nxt 0 n n (grownCap w n 0 el) ⟨w.heap.size, 0, l.length, i.size, l'.length + (Builtin.zeroCells z.cells (grownCap w n 0 el - n)).size⟩ (by simp) (.inr ⟨hs0, ?_, hgc, ?_⟩)
              · simp only [Nat.zero_add]; rw [hlen, g1]
              · rw [zeroCells_size, hzs, g1, ← Nat.add_mul]
                simp only [Nat.zero_add]
                exact Nat.le_of_eq (by congr 1; omega)
        | _ => trivial
      | _ => trivial
end
end Go.Ab
