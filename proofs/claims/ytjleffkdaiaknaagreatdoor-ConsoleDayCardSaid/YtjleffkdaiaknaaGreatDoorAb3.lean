/- A logic over an abstract memory, and that it is sound (3 of 9). -/
import Derived.Laws.IdiomStrings
import Derived.Test.YtjleffkdaiaknaaGreatDoorAb2
namespace Go.Ab
open Go
noncomputable section
variable {S : BT Nat}
def readS (sz : Nat) (H : AHeap) (v : AV) : Option (Nat × List AV) :=
 AVp.rec (motive := fun _ => Option (Nat × List AV)) (fun _ _ => none) (fun _ => none) (fun _ _ => none) (fun _ _ => none)
  (fun b o n _ => Bool.rec (motive := fun _ => Option (Nat × List AV)) (optL none (fun l => some (n, l)) (readN H b o (Nat.mul n sz))) (some (0, [])) (Nat.beq n 0))
  (fun y => axNils none (some (0, [])) y) v
theorem readS_spec {G : Nat} {sz : Nat} {H : AHeap} {v : AV} {n : Nat} {l : List AV} (h : readS sz H v = some (n, l)) {e : Emb} {w : World} (hr : Rel G e H w) {v' : Value} (hv : VRel e v v') :
  ∃ base cap', v' = .slice base n cap' ∧ ∃ l' : List Value, l'.length = n * sz ∧ VRels e l l' ∧ ((n = 0 ∧ l = [] ∧ (base = none → cap' = 0)) ∨ ∃ a, base = some a ∧ ∀ j u, l'[j]? = some u → w.cell? (a.add j) = some u) := by
 cases v with
 | sl b o m cap =>
  have hd : readS sz H (.sl b o m cap) = Bool.rec (motive := fun _ => Option (Nat × List AV)) (optL none (fun l => some (m, l)) (readN H b o (m * sz))) (some (0, [])) (Nat.beq m 0) := rfl
  rw [hd] at h
  cases c : Nat.beq m 0 with
  | true =>
   rw [c] at h
   cases h
   have hm : m = 0 := Nat.eq_of_beq_eq_true c
   subst hm
   cases hv with
   | sl _ _ _ _ cap' i hi hc => exact ⟨_, cap', rfl, [], by simp, .nil, .inl ⟨rfl, rfl, by simp⟩⟩
   | slq _ _ a => exact ⟨_, 0, rfl, [], by simp, .nil, .inl ⟨rfl, rfl, by simp⟩⟩
  | false =>
   rw [c] at h
   simp only at h
   cases hl : readN H b o (m * sz) with
   | none => rw [hl] at h; cases h
   | some l1 =>
    rw [hl] at h
    simp only [optL, Option.some.injEq, Prod.mk.injEq] at h
    obtain ⟨rfl, rfl⟩ := h
    cases hv with
    | sl _ _ _ _ cap' i hi hc =>
     obtain ⟨l', g1, g2, g3, g4⟩ := readN_spec hl hr hi
     exact ⟨_, cap', rfl, l', g1, g2, .inr ⟨_, rfl, g3⟩⟩
    | slq _ _ a => cases c
 | x y =>
  cases y with
  | nils =>
   cases h
   cases hv
   exact ⟨none, 0, rfl, [], by simp, .nil, .inl ⟨rfl, rfl, fun _ => rfl⟩⟩
  | _ => cases h
 | _ => cases h
def newG (H : AHeap) (l : List AV) (sz : Nat) : AHeap := H.alloc (.c l.length (BT.ofList l) true sz)
def grows (H : AHeap) (b o cap sz : Nat) : Option Bool :=
 blkC none (fun n _ w sp => Bool.rec (motive := fun _ => Option Bool)
  (Bool.rec (motive := fun _ => Option Bool) none (Bool.rec (motive := fun _ => Option Bool) (some false) (Bool.rec (motive := fun _ => Option Bool) none (some true) w) (Nat.beq (Nat.add o (Nat.mul cap sz)) n)) (Nat.beq sp sz))
  (some false) (Nat.beq sp 0)) (H.get b)
theorem grows_false {H : AHeap} {b o cap sz : Nat} (h : grows H b o cap sz = some false) {G : Nat} {e : Emb} {w : World} (hr : Rel G e H w) {i : Info} (hi : e b = some i) {cap' : Nat} (hc : CapOk i o cap cap') : cap' = cap := by
 unfold grows at h
 cases hb : H.get b with
 | none => rw [hb] at h; cases h
 | some y =>
  rw [hb] at h
  cases y with
  | m es => cases h
  | dead => cases h
  | c n T wr sp =>
   obtain ⟨e1, e2, _⟩ := hr.obj b i _ hi hb
   simp only [blkC] at h
   rcases hc with hc | ⟨g1, g2, g3, g4⟩
   · exact hc
   · exfalso
     cases c0 : Nat.beq sp 0 with
     | true => have := Nat.eq_of_beq_eq_true c0; omega
     | false =>
      rw [c0] at h
      simp only at h
      cases c1 : Nat.beq sp sz with
      | false => rw [c1] at h; cases h
      | true =>
       rw [c1] at h
       simp only at h
       have d1 : sp = sz := Nat.eq_of_beq_eq_true c1
       cases c2 : Nat.beq (Nat.add o (Nat.mul cap sz)) n with
       | false =>
        have : Nat.beq (Nat.add o (Nat.mul cap sz)) n = true := by
         rw [beq_tt]
         show o + cap * sz = n
         rw [← d1, ← e2, ← e1]; exact g2
        rw [c2] at this; cases this
       | true =>
        rw [c2] at h
        cases wr <;> cases h
theorem grows_true {H : AHeap} {b o cap sz : Nat} (h : grows H b o cap sz = some true) : ∃ n T, H.get b = some (.c n T true sz) ∧ 0 < sz ∧ o + cap * sz = n := by
 unfold grows at h
 cases hb : H.get b with
 | none => rw [hb] at h; cases h
 | some y =>
  rw [hb] at h
  cases y with
  | m es => cases h
  | dead => cases h
  | c n T wr sp =>
   simp only [blkC] at h
   cases c0 : Nat.beq sp 0 with
   | true => rw [c0] at h; cases h
   | false =>
    rw [c0] at h
    simp only at h
    cases c1 : Nat.beq sp sz with
    | false => rw [c1] at h; cases h
    | true =>
     rw [c1] at h
     simp only at h
     have d1 : sp = sz := Nat.eq_of_beq_eq_true c1
     cases c2 : Nat.beq (Nat.add o (Nat.mul cap sz)) n with
     | false => rw [c2] at h; cases h
     | true =>
      rw [c2] at h
      cases wr with
      | false => cases h
      | true =>
       subst d1
       refine ⟨n, T, rfl, ?_, ?_⟩
       · rcases Nat.eq_zero_or_pos sp with h0 | h0
         · subst h0; cases c0
         · exact h0
       · have := Nat.eq_of_beq_eq_true c2; exact this
def appSl (sz : Nat) (H : AHeap) (b o len cap n : Nat) (l : List AV) : ORes :=
 bif' (optL .fail (fun old => Option.rec (motive := fun _ => ORes) .fail (fun g => Bool.rec (motive := fun _ => ORes)
       (.v (.sl H.nxt 0 (Nat.add len n) (Nat.add len n)) (newG H (old ++ l) sz))
       (.v (.sl H.nxt 0 (Nat.add len n) (Nat.add len n)) (newG (H.upd b .dead) (old ++ l) sz)) g) (grows H b o cap sz)) (readN H b o (Nat.mul len sz)))
  (optH .fail (fun H' => .v (.sl b o (Nat.add len n) cap) H') (writeN H b (Nat.add o (Nat.mul len sz)) l)) (Nat.ble (Nat.add len n) cap)
def axXs {R : Type} (d : R) (f : Nat → Nat → Nat → R) (v : AX) : R := AX.casesOn (motive_1 := fun _ => R) v d d d d d d (fun _ => d) (fun _ _ _ => d) (fun _ _ => d) (fun _ => d) (fun _ => d) (fun _ => d) (fun _ _ => d) (fun _ _ _ => d) f
def appXs (sz bytes : Nat) (H : AHeap) (n : Nat) (l : List AV) (b o len : Nat) : ORes :=
 bif' .fail (optL .fail (fun old => .v (.sl H.nxt 0 (Nat.add len n) (Nat.add len n)) (newG H (old ++ l) sz)) (readN H b o (Nat.mul len sz))) (Nat.ble (Nat.mul (Nat.add len n) bytes) 140737488355328)
def opAppend (sz bytes : Nat) (x y : Env → AV) (en : Env) (H : AHeap) : ORes :=
 Option.rec (motive := fun _ => ORes) .fail (fun p =>
  Bool.rec (motive := fun _ => ORes)
   (bif' .fail (AVp.rec (motive := fun _ => ORes) (fun _ _ => .fail) (fun _ => .fail) (fun _ _ => .fail) (fun _ _ => .fail)
    (fun b o len cap => bif' .fail (appSl sz H b o len cap p.1 p.2) (Nat.ble (Nat.mul (Nat.add len p.1) bytes) 140737488355328))
    (fun u => axNils (axXs .fail (appXs sz bytes H p.1 p.2) u) (bif' .fail (.v (.sl H.nxt 0 p.1 p.1) (newG H p.2 sz)) (Nat.ble (Nat.mul p.1 bytes) 140737488355328)) u) (x en)) (allOne p.2))
   (AVp.rec (motive := fun _ => ORes) (fun _ _ => .fail) (fun _ => .fail) (fun _ _ => .fail) (fun _ _ => .fail)
    (fun b o len cap => bif' .fail (.v (.sl b o len cap) H) (Nat.ble len cap)) (fun u => axNils .fail (.v (.x .nils) H) u) (x en))
   (Nat.beq p.1 0)) (readS sz H (y en))
theorem exec_builtin {P : Program} {o : Oper} {b : Builtin} {args : Array Operand} {argTypes : Array TypeId} (ho : o.op = .call { callee := .builtin b, args, argTypes }) (ρ : Operand → Value) (w : World) :
  (execOp ρ o).run P w = (builtin b argTypes o.type (args.map fun | .const _ => true | _ => false) (args.map ρ)).run P w := by
 simp only [execOp, ho, resolve, Sem.run_bind, Sem.run_pure, Result.andThen_ok, invoke]
 rfl
theorem zeroCells_size (z : Array Value) (n : Nat) : (Builtin.zeroCells z n).size = n * z.size := by simp [Builtin.zeroCells]
theorem Evo.newRoom {G : Nat} {e : Emb} {H : AHeap} {w : World} (hr : Rel G e H w) {l : List AV} {l' : List Value} (hl : VRels e l l') (extra : Array Value) (ty : TypeId) (sz : Nat) :
  Evo G e H w (e.put H.nxt ⟨w.heap.size, 0, l.length, sz, l'.length + extra.size⟩) (newG H l sz) (w.drew.alloc (.cells (l'.toArray ++ extra) ty)) := by
 have h0 : Evo G e H w e H w.drew := Evo.drew hr _
 have hlen := hl.length
 refine h0.trans (Evo.alloc h0.rel _ _ _ rfl ⟨rfl, rfl, by simp [hlen], l'.toArray ++ extra, ty, (0, 0), rfl, by simp, fun _ => Nat.le_refl _, fun k hk => ?_⟩)
 obtain ⟨v', q1, q2⟩ := hl.get (List.getElem?_eq_getElem hk)
 refine ⟨_, v', by rw [BT.get_ofList]; exact List.getElem?_eq_getElem hk, ?_, q2⟩
 simp only [Nat.zero_add]
 rw [Array.getElem?_append_left (by simp; omega)]
 simpa using q1
theorem grownCap_ge (w : World) (need old : Nat) (el : TypeId) : need ≤ grownCap w need old el := by
 unfold grownCap
 simp only [Question.cut]
 omega
theorem Evo.kill {G : Nat} {e : Emb} {H : AHeap} {w : World} (hr : Rel G e H w) {b : Nat} {i : Info} (hi : e b = some i) (ho : H.owned b) : Evo G e H w e (H.upd b .dead) w := by
 obtain ⟨ob, hob⟩ : ∃ ob, w.heap[i.blk]? = some ob := ⟨_, Array.getElem?_eq_getElem (hr.bnd b i hi)⟩
 refine Evo.change hr hi ho .dead ob ?_ rfl rfl rfl trivial
 apply Array.ext_getElem?
 intro j
 rw [Array.getElem?_setIfInBounds]
 split
 · subst_vars
   split
   · exact hob
   · rw [Array.getElem?_eq_none (by omega)]
 · rfl
theorem Evo.killAny {G : Nat} {e : Emb} {H : AHeap} {w : World} (hr : Rel G e H w) {b : Nat} (ho : H.owned b) : Evo G e H w e (H.upd b .dead) w := by
 cases hi : e b with
 | some i => exact Evo.kill hr hi ho
 | none =>
  obtain ⟨y, hy, _⟩ := AHeap.owned_alive ho
  have hlt := AHeap.lt_of_get hy
  have hget : ∀ c, c ≠ b → (H.upd b .dead).get c = H.get c := fun c hc => by rw [AHeap.get_upd _ _ _ hlt, if_neg hc]
  have hne : ∀ c i, e c = some i → c ≠ b := fun c i hc he => by subst he; rw [hi] at hc; cases hc
  exact {
   rel := {
    lt := hr.lt
    bnd := hr.bnd
    glob := hr.glob
    obj := fun c i x hc hg => by rw [hget c (hne c i hc)] at hg; exact hr.obj c i x hc hg
    sep := fun b1 i1 b2 i2 h1 h2 hn ho1 ha2 => by
     refine hr.sep b1 i1 b2 i2 h1 h2 hn ?_ ?_
     · unfold AHeap.owned at *; rwa [hget b1 (hne b1 i1 h1)] at ho1
     · unfold AHeap.alive at *; rwa [hget b2 (hne b2 i2 h2)] at ha2 }
   ext := fun _ _ h => h
   size := Nat.le_refl _
   tape := rfl
   os := rfl
   out := rfl
   nxt := Nat.le_refl _
   low := by rw [AHeap.low_upd]; split <;> omega
   same := fun c _ hl => hget c (by intro he; subst he; rw [AHeap.low_upd] at hl; split at hl <;> omega)
   dead := fun c hc => by
    by_cases he : c = b
    · subst he; rw [AHeap.get_upd _ _ _ hlt, if_pos rfl, hy]; rfl
    · rw [hget c he]; exact hc
   fresh := fun c i h1 h2 => by rw [h1] at h2; cases h2
   frame := fun _ _ _ => rfl }
theorem run_append_in {P : Program} {t ty el : TypeId} {i : TypeInfo} (w : World) (ht : P.underlying t = some (.slice el)) (hi : P.info? el = some i) (a : Addr) (sLen sCap : Nat) (b : Addr) (n c : Nat) (news : List Value) (hl : news.length = n * i.size)
  (hnews : ∀ j v, news[j]? = some v → w.cell? (b.add j) = some v) (hg : sLen + n ≤ sCap) {w' : World} (hs : (storeCells (a.add (sLen * i.size)) news).run P w = .ok () w') :
  (Builtin.append_ #[t, t] ty #[.slice (some a) sLen sCap, .slice (some b) n c]).run P w = .ok (.slice (some a) (sLen + n) sCap) w' := by
 have hf := run_firstCells_some (P := P) w i.size n b n c news hl hnews
 simp [Builtin.append_, run_underlying ht, sizeOf, typeInfo, hi, Builtin.lenOf, hg, hf, hs]
theorem run_append_none {P : Program} {t ty el : TypeId} {i : TypeInfo} (w : World) (ht : P.underlying t = some (.slice el)) (hi : P.info? el = some i) (base base' : Option Addr) (sLen sCap c : Nat) (hg : sLen ≤ sCap) :
  (Builtin.append_ #[t, t] ty #[.slice base sLen sCap, .slice base' 0 c]).run P w = .ok (.slice base sLen sCap) w := by
 cases base <;> cases base' <;> simp [Builtin.append_, run_underlying ht, sizeOf, typeInfo, hi, Builtin.lenOf, hg, Builtin.firstCells, loadCells, loadCellsFrom, storeCells]
theorem opAppend_snd {P : Program} {o : Oper} {t el : TypeId} {x y : Operand} {x' y' : Env → AV} {sz bytes : Nat} {i : TypeInfo} {z : Value} (ho : o.op = .call { callee := .builtin .append, args := #[x, y], argTypes := #[t, t] })
  (ht : P.underlying t = some (.slice el)) (hi : P.info? el = some i) (hsz : i.size = sz) (hby : i.bytes = bytes) (hz : i.zero = some z) (hzs : z.cells.size = sz) (hs0 : 0 < sz) (hb0 : 0 < bytes) (hx : OpndOk P S x x') (hy : OpndOk P S y y') (en : Env) (H : AHeap) :
  OSnd P S o en H (opAppend sz bytes x' y' en H) := by
 subst hsz
 subst hby
 unfold opAppend
 cases hrd : readS i.size H (y' en) with
 | none => trivial
 | some p =>
  obtain ⟨n, l⟩ := p
  simp only
  cases hn : Nat.beq n 0 with
  | true =>
   have hn0 : n = 0 := Nat.eq_of_beq_eq_true hn
   subst hn0
   simp only
   cases h : x' en with
   | sl b k len cap =>
    simp only [bif']
    cases hc : Nat.ble len cap with
    | false => trivial
    | true =>
     have hc' : len ≤ cap := by rw [ble_tt] at hc; exact hc
     refine OSnd.pure fun N D e w a hr ha => ?_
     have h1 := hx N D e en a H w hr ha
     have h2 := hy N D e en a H w hr ha
     obtain ⟨base, cap2, hyv, _⟩ := readS_spec hrd hr h2
     rw [h] at h1
     refine ⟨a.eval x, ?_, h1⟩
     generalize hxv : a.eval x = xv at h1
     cases h1 with
     | sl _ _ _ _ cap' j hj hcap =>
      have hle : cap ≤ cap' := by rcases hcap with q | ⟨_, _, q, _⟩ <;> omega
      rw [exec_builtin ho]
      simp only [builtin, List.map_toArray, List.map_cons, List.map_nil, hxv, hyv, Sem.run_bind]
      rw [run_append_none w ht hi _ _ _ _ _ (by omega)]
      rfl
     | slq _ _ ad =>
      rw [exec_builtin ho]
      simp only [builtin, List.map_toArray, List.map_cons, List.map_nil, hxv, hyv, Sem.run_bind]
      rw [run_append_none w ht hi _ _ _ _ _ (Nat.le_refl _)]
      rfl
   | x u =>
    cases u with
    | nils =>
     simp only [axNils]
     refine OSnd.pure fun N D e w a hr ha => ?_
     have h1 := hx N D e en a H w hr ha
     have h2 := hy N D e en a H w hr ha
     obtain ⟨base, cap2, hyv, _⟩ := readS_spec hrd hr h2
     rw [h] at h1
     refine ⟨a.eval x, ?_, h1⟩
     generalize hxv : a.eval x = xv at h1
     cases h1
     rw [exec_builtin ho]
     simp only [builtin, List.map_toArray, List.map_cons, List.map_nil, hxv, hyv, Sem.run_bind]
     rw [run_append_none w ht hi _ _ _ _ _ (Nat.le_refl _)]
     rfl
    | _ => trivial
   | _ => trivial
  | false =>
   have hn0 : 0 < n := by
    rcases Nat.eq_zero_or_pos n with h0 | h0
    · subst h0; cases hn
    · exact h0
   simp only
   cases hone : allOne l with
   | false => trivial
   | true =>
   simp only [bif']
   cases h : x' en with
   | sl b k len cap =>
    simp only
    cases hbig : Nat.ble (Nat.mul (Nat.add len n) i.bytes) 140737488355328 with
    | false => trivial
    | true =>
    have hbig' : (len + n) * i.bytes ≤ 140737488355328 := by rw [ble_tt] at hbig; exact hbig
    have h63 : ((len + n : Nat) : Int) ≤ 9223372036854775807 := by
     have : len + n ≤ (len + n) * i.bytes := Nat.le_mul_of_pos_right _ hb0
     omega
    simp only [appSl, bif']
    cases hin : Nat.ble (Nat.add len n) cap with
    | true =>
     have hin' : len + n ≤ cap := by rw [ble_tt] at hin; exact hin
     simp only
     cases hw : writeN H b (Nat.add k (Nat.mul len i.size)) l with
     | none => trivial
     | some H' =>
      simp only [optH]
      refine OSnd.value fun N D e w a hr ha => ?_
      have h1 := hx N D e en a H w hr ha
      have h2 := hy N D e en a H w hr ha
      obtain ⟨base, cap2, hyv, l', g1, g2, g3⟩ := readS_spec hrd hr h2
      obtain ⟨m, T, sp, q1, q2, rfl⟩ := writeN_spec hw
      rw [h] at h1
      generalize hxv : a.eval x = xv at h1
      rcases g3 with ⟨q, _⟩ | ⟨ad, rfl, hcell⟩
      · omega
      cases h1 with
      | sl _ _ _ _ cap' j hj hcap =>
       have hle : cap ≤ cap' := by rcases hcap with q | ⟨_, _, q, _⟩ <;> omega
       obtain ⟨w', r1, r2⟩ := Evo.write hr hj q1 g2 (allOne_spec g2 hone) q2 P
       refine ⟨e, .slice (some ⟨j.blk, j.off + k, none⟩) (len + n) cap', w', ?_, .sl b k (len + n) cap cap' j hj hcap, r2⟩
       rw [exec_builtin ho]
       simp only [builtin, List.map_toArray, List.map_cons, List.map_nil, hxv, hyv, Sem.run_bind]
       rw [run_append_in w ht hi ⟨j.blk, j.off + k, none⟩ len cap' ad n cap2 l' g1 hcell (by omega) (w' := w') (by rw [add_addr, Nat.add_assoc]; exact r1)]
       rfl
      | slq _ _ ad => omega
    | false =>
     have hin' : cap < len + n := by
      rcases Nat.lt_or_ge cap (len + n) with q | q
      · exact q
      · have : Nat.ble (Nat.add len n) cap = true := by rw [ble_tt]; exact q
        rw [this] at hin; cases hin
     simp only
     cases hold : readN H b k (Nat.mul len i.size) with
     | none => trivial
     | some old =>
     simp only [optL]
     cases hgr : grows H b k cap i.size with
     | none => trivial
     | some g =>
     have fresh : ∀ (N : Nat) (D : DF) (e : Emb) (w : World) (a : Act), Rel P.globals.size e H w → ARel S N D e en a → ∀ (H0 : AHeap) (e0 : Emb), Evo P.globals.size e H w e0 H0 w → e0 = e → H0.nxt = H.nxt →
       ∀ (ad1 : Addr) (cap1 : Nat) (old' : List Value), a.eval x = .slice (some ad1) len cap1 → old'.length = len * i.size → VRels e old old' → (∀ j u, old'[j]? = some u → w.cell? (ad1.add j) = some u) → cap1 < len + n →
       ∃ e' v' w', (execOp a.eval o).run P w = .ok (.value v') w' ∧ VRel e' (.sl H.nxt 0 (Nat.add len n) (Nat.add len n)) v' ∧ Evo P.globals.size e H w e' (newG H0 (old ++ l) i.size) w' := by
      intro N D e w a hr ha H0 e0 hE he0 hnx ad1 cap1 old' hxv o1 o2 o3 o4
      subst he0
      have h2 := hy N D e0 en a H w hr ha
      obtain ⟨base, cap2, hyv, l', g1, g2, g3⟩ := readS_spec hrd hr h2
      rcases g3 with ⟨q, _⟩ | ⟨ad, rfl, hcell⟩
      · omega
      have hall := o2.append g2
      have hall_len := hall.length
      have hrow := Evo.newRoom hE.rel hall (Builtin.zeroCells z.cells (grownCap w (len + n) cap1 el - (len + n))) el i.size
      refine ⟨_, .slice (some ⟨w.heap.size, 0, none⟩) (len + n) (grownCap w (len + n) cap1 el), _, ?_, ?_, hE.trans hrow⟩
      · rw [exec_builtin ho]
        simp only [builtin, List.map_toArray, List.map_cons, List.map_nil, hxv, hyv, Sem.run_bind]
        rw [run_append_grow w t _ el i z ht hi hz ad1 len cap1 old' o1 o3 ad n cap2 l' g1 hcell o4 h63 (growslice_fits o4 hbig')]
        simp only [Result.andThen_ok, Sem.run_pure]
        congr 3
        apply Array.ext'
        simp
      · have hgc := grownCap_ge w (len + n) cap1 el
        have hlen2 : (old ++ l).length = (len + n) * i.size := by rw [hall_len]; simp [o1, g1, Nat.add_mul]
        have := VRel.sl (e := e0.put H0.nxt ⟨w.heap.size, 0, (old ++ l).length, i.size, (old' ++ l').length + (Builtin.zeroCells z.cells (grownCap w (len + n) cap1 el - (len + n))).size⟩) H.nxt 0 (len + n) (len + n) (grownCap w (len + n) cap1 el)
         ⟨w.heap.size, 0, (old ++ l).length, i.size, (old' ++ l').length + (Builtin.zeroCells z.cells (grownCap w (len + n) cap1 el - (len + n))).size⟩ (by rw [hnx]; simp)
         (.inr ⟨hs0, by simp only [Nat.zero_add]; exact hlen2.symm, hgc, by
          rw [zeroCells_size, hzs, ← hall_len, hlen2, ← Nat.add_mul]
          simp only [Nat.zero_add]
          exact Nat.le_of_eq (by congr 1; omega)⟩)
        exact this
     cases g with
     | false =>
      simp only
      refine OSnd.value fun N D e w a hr ha => ?_
      have h1 := hx N D e en a H w hr ha
      rw [h] at h1
      generalize hxv : a.eval x = xv at h1
      cases h1 with
      | sl _ _ _ _ cap' j hj hcap =>
       have hce := grows_false hgr hr hj hcap
       obtain ⟨old', o1, o2, o3, o4⟩ := readN_spec hold hr hj
       exact fresh N D e w a hr ha H e (Evo.refl hr) rfl rfl _ cap' old' hxv o1 o2 o3 (by omega)
      | slq _ _ ad =>
       have hold0 : readN H b k (Nat.mul 0 i.size) = some old := hold
       have ho0 : old = [] := by
        unfold readN at hold0
        have hm : Nat.mul 0 i.size = 0 := Nat.zero_mul _
        rw [hm] at hold0
        cases hb : H.get b with
        | none => rw [hb] at hold0; cases hold0
        | some yy =>
         rw [hb] at hold0
         cases yy with
         | m es => cases hold0
         | dead => cases hold0
         | c nn T wr sp =>
          simp only [blkC, bif'] at hold0
          cases hq : Nat.ble (Nat.add k 0) nn with
          | false => rw [hq] at hold0; cases hold0
          | true => rw [hq] at hold0; cases hold0; rfl
       subst ho0
       exact fresh N D e w a hr ha H e (Evo.refl hr) rfl rfl ad 0 [] hxv (by simp) .nil (fun j u hj => by simp at hj) (by omega)
     | true =>
      simp only
      obtain ⟨m, T, q1, q2, q3⟩ := grows_true hgr
      refine OSnd.value fun N D e w a hr ha => ?_
      have h1 := hx N D e en a H w hr ha
      have h2 := hy N D e en a H w hr ha
      rw [h] at h1
      generalize hxv : a.eval x = xv at h1
      cases h1 with
      | sl _ _ _ _ cap' j hj hcap =>
       obtain ⟨old', o1, o2, o3, o4⟩ := readN_spec hold hr hj
       have o1' : old'.length = len * i.size := o1
       have o4' : k + len * i.size ≤ j.len := o4
       obtain ⟨e1, e2, e3, C, cty, zz, c1, c2, c3, c4⟩ := hr.obj b j _ hj q1
       have hown : H.owned b := .inl ⟨m, T, i.size, q1⟩
       rcases Nat.lt_or_ge cap' (len + n) with hlt | hge
       · exact fresh N D e w a hr ha (H.upd b .dead) e (Evo.kill hr hj hown) rfl rfl _ cap' old' hxv o1 o2 o3 hlt
       · -- there is room: the row grows in its place
         obtain ⟨base, cap2, hyv, l', g1, g2, g3⟩ := readS_spec hrd hr h2
         rcases g3 with ⟨q, _⟩ | ⟨ad, rfl, hcell⟩
         · omega
         have hroom : j.off + k + cap' * i.size ≤ j.room := by
          rcases hcap with q | ⟨_, _, _, q⟩
          · omega
          · rw [e2] at q; exact q
         have hl'len : l'.length = n * i.size := g1
         have hspace : j.off + k + len * i.size + l'.length ≤ C.size := by
          have : (len + n) * i.size ≤ cap' * i.size := Nat.mul_le_mul_right _ hge
          rw [Nat.add_mul] at this
          omega
         have hrun := run_storeCells (P := P) l' w j.blk (j.off + k + len * i.size) 0 C cty zz c1 (c3 rfl) (allOne_spec g2 hone) (by omega)
         have hall := o2.append g2
         have hall_len := hall.length
         have hlen2 : (old ++ l).length = (len + n) * i.size := by rw [hall_len]; simp [o1', hl'len, Nat.add_mul]
         have hgrow := Evo.growIn (w' := { w with heap := w.heap.setIfInBounds j.blk (.cells (putAll C (j.off + k + len * i.size + 0) l') cty zz) }) hr hj hown (.c (old ++ l).length (BT.ofList (old ++ l)) true i.size) (.cells (putAll C (j.off + k + len * i.size + 0) l') cty zz)
          ⟨j.blk, j.off + k, (old ++ l).length, i.size, j.room⟩ rfl rfl rfl rfl rfl ⟨rfl, rfl, by
           simp only
           rw [hlen2]
           have : (len + n) * i.size ≤ cap' * i.size := Nat.mul_le_mul_right _ hge
           omega, _, cty, zz, rfl, by rw [putAll_size]; exact c2, fun _ => c3 rfl, fun kk hk => by
           obtain ⟨v', r1, r2⟩ := hall.get (List.getElem?_eq_getElem hk)
           refine ⟨_, v', by rw [BT.get_ofList]; exact List.getElem?_eq_getElem hk, ?_, r2⟩
           show (putAll C (j.off + k + len * i.size + 0) l')[j.off + k + kk]? = some v'
           rw [putAll_get]
           rw [hlen2, Nat.add_mul] at hk
           by_cases hkk : kk < len * i.size
           · rw [if_neg (by omega)]
             rw [List.getElem?_append_left (by omega)] at r1
             have := o3 kk v' r1
             rw [add_addr, cell_of c1] at this
             exact this
           · rw [if_pos (by omega)]
             rw [List.getElem?_append_right (by omega), o1'] at r1
             rw [← r1]; congr 1; omega⟩
         refine ⟨_, .slice (some ⟨j.blk, j.off + k, none⟩) (len + n) cap', _, ?_, ?_, hgrow⟩
         · rw [exec_builtin ho]
           simp only [builtin, List.map_toArray, List.map_cons, List.map_nil, hxv, hyv, Sem.run_bind]
           rw [run_append_in w ht hi ⟨j.blk, j.off + k, none⟩ len cap' ad n cap2 l' g1 hcell hge (by rw [add_addr]; exact hrun)]
           rfl
         · refine VRel.sl (e := e.put H.nxt ⟨j.blk, j.off + k, (old ++ l).length, i.size, j.room⟩) H.nxt 0 (len + n) (len + n) cap' ⟨j.blk, j.off + k, (old ++ l).length, i.size, j.room⟩ (by simp) (.inr ⟨hs0, by simp only [Nat.zero_add]; exact hlen2.symm, hge, ?_⟩)
           simp only [Nat.add_zero]
           exact hroom
      | slq _ _ ad =>
       have hl0 : old = [] := by
        unfold readN at hold
        have hm : Nat.mul 0 i.size = 0 := Nat.zero_mul _
        rw [hm, q1] at hold
        simp only [blkC, bif'] at hold
        cases hq : Nat.ble (Nat.add k 0) m with
        | false => rw [hq] at hold; cases hold
        | true => rw [hq] at hold; cases hold; rfl
       subst hl0
       exact fresh N D e w a hr ha (H.upd b .dead) e (Evo.killAny hr (.inl ⟨m, T, i.size, q1⟩)) rfl rfl ad 0 [] hxv (by simp) .nil (fun j u hj => by simp at hj) (by omega)
   | x u =>
    cases u with
    | nils =>
     simp only [axNils]
     cases hbig : Nat.ble (Nat.mul n i.bytes) 140737488355328 with
     | false => trivial
     | true =>
      have hbig' : n * i.bytes ≤ 140737488355328 := by rw [ble_tt] at hbig; exact hbig
      refine OSnd.value fun N D e w a hr ha => ?_
      have h1 := hx N D e en a H w hr ha
      have h2 := hy N D e en a H w hr ha
      obtain ⟨base, cap2, hyv, l', g1, g2, g3⟩ := readS_spec hrd hr h2
      rcases g3 with ⟨q, _⟩ | ⟨ad, rfl, hcell⟩
      · omega
      rw [h] at h1
      generalize hxv : a.eval x = xv at h1
      cases h1
      have hlen := g2.length
      have hrow := Evo.newRoom hr g2 (Builtin.zeroCells z.cells (grownCap w n 0 el - n)) el i.size
      have h63 : (n : Int) ≤ 9223372036854775807 := by
       have : n ≤ n * i.bytes := Nat.le_mul_of_pos_right _ hb0
       omega
      refine ⟨_, .slice (some ⟨w.heap.size, 0, none⟩) n (grownCap w n 0 el), _, ?_, ?_, hrow⟩
      · rw [exec_builtin ho]
        simp only [builtin, List.map_toArray, List.map_cons, List.map_nil, hxv, hyv, Sem.run_bind]
        rw [run_append_nil w t _ el i z ht hi hz ad n cap2 l' g1 hcell hn0 h63 (by omega)]
        rfl
      · have hgc := grownCap_ge w n 0 el
        refine VRel.sl (e := e.put H.nxt ⟨w.heap.size, 0, l.length, i.size, l'.length + (Builtin.zeroCells z.cells (grownCap w n 0 el - n)).size⟩) H.nxt 0 n n (grownCap w n 0 el) ⟨w.heap.size, 0, l.length, i.size, l'.length + (Builtin.zeroCells z.cells (grownCap w n 0 el - n)).size⟩ (by simp) (.inr ⟨hs0, ?_, hgc, ?_⟩)
        · simp only [Nat.zero_add]; rw [hlen, g1]
        · rw [zeroCells_size, hzs, g1, ← Nat.add_mul]
          simp only [Nat.zero_add]
          exact Nat.le_of_eq (by congr 1; omega)
    | xs b k len =>
     simp only [axNils, axXs, appXs]
     cases hbig : Nat.ble (Nat.mul (Nat.add len n) i.bytes) 140737488355328 with
     | false => trivial
     | true =>
     have hbig' : (len + n) * i.bytes ≤ 140737488355328 := by rw [ble_tt] at hbig; exact hbig
     have h63 : ((len + n : Nat) : Int) ≤ 9223372036854775807 := by
      have : len + n ≤ (len + n) * i.bytes := Nat.le_mul_of_pos_right _ hb0
      omega
     simp only [bif']
     cases hold : readN H b k (Nat.mul len i.size) with
     | none => trivial
     | some old =>
     simp only [optL]
     refine OSnd.value fun N D e w a hr ha => ?_
     have h1 := hx N D e en a H w hr ha
     have h2 := hy N D e en a H w hr ha
     rw [h] at h1
     generalize hxv : a.eval x = xv at h1
     cases h1
     rename_i j hj
     obtain ⟨old', o1, o2, o3, _⟩ := readN_spec hold hr hj
     have o1' : old'.length = len * i.size := o1
     obtain ⟨base, cap2, hyv, l', g1, g2, g3⟩ := readS_spec hrd hr h2
     rcases g3 with ⟨q, _⟩ | ⟨ad, rfl, hcell⟩
     · omega
     have hall := o2.append g2
     have hall_len := hall.length
     have hrow := Evo.newRoom hr hall (Builtin.zeroCells z.cells (grownCap w (len + n) len el - (len + n))) el i.size
     refine ⟨_, .slice (some ⟨w.heap.size, 0, none⟩) (len + n) (grownCap w (len + n) len el), _, ?_, ?_, hrow⟩
     · rw [exec_builtin ho]
       simp only [builtin, List.map_toArray, List.map_cons, List.map_nil, hxv, hyv, Sem.run_bind]
       rw [run_append_grow w t _ el i z ht hi hz ⟨j.blk, j.off + k, none⟩ len len old' o1' o3 ad n cap2 l' g1 hcell (by omega) h63 (growslice_fits (by omega) hbig')]
       simp only [Result.andThen_ok, Sem.run_pure]
       congr 3
       apply Array.ext'
       simp
     · have hgc := grownCap_ge w (len + n) len el
       have hlen2 : (old ++ l).length = (len + n) * i.size := by rw [hall_len]; simp [o1', g1, Nat.add_mul]
       have := VRel.sl (e := e.put H.nxt ⟨w.heap.size, 0, (old ++ l).length, i.size, (old' ++ l').length + (Builtin.zeroCells z.cells (grownCap w (len + n) len el - (len + n))).size⟩) H.nxt 0 (len + n) (len + n) (grownCap w (len + n) len el)
        ⟨w.heap.size, 0, (old ++ l).length, i.size, (old' ++ l').length + (Builtin.zeroCells z.cells (grownCap w (len + n) len el - (len + n))).size⟩ (by simp)
        (.inr ⟨hs0, by simp only [Nat.zero_add]; exact hlen2.symm, hgc, by
         rw [zeroCells_size, hzs, ← hall_len, hlen2, ← Nat.add_mul]
         simp only [Nat.zero_add]
         exact Nat.le_of_eq (by congr 1; omega)⟩)
       exact this
    | _ => trivial
   | _ => trivial
end
end Go.Ab
namespace Go.Ab
open Go
noncomputable section
variable {S : BT Nat}
def intA (n : Nat) : ORes → ORes := fun r => bif' .fail r (Nat.ble (Nat.add n 1) 9223372036854775808)
theorem vrel_int64 (e : Emb) (n : Nat) (h : n + 1 ≤ 9223372036854775808) : VRel e (.i 3 n) (goInt n) := by
 have := VRel.i (e := e) 3 n (by omega) (by simp [kindOf, IntKind.bits]; omega)
 have hw : (kindOf 3).wrap (n : Int) = (n : Int) := by
  simp only [kindOf, IntKind.wrap, IntKind.signed, IntKind.bits]; simp; omega
 rw [hw] at this
 exact this
def lenKind (P : Program) (t : TypeId) : Option Nat :=
 match P.underlying t with
 | some .string => some 0
 | some (.slice _) => some 1
 | some (.map _ _) => some 2
 | _ => none
def lenA (k : Nat) (H : AHeap) (v : AV) : Option Nat :=
 AVp.rec (motive := fun _ => Option Nat) (fun _ _ => none) (fun _ => none) (fun l _ => Bool.rec (motive := fun _ => Option Nat) none (some l) (Nat.beq k 0)) (fun _ _ => none) (fun _ _ l _ => Bool.rec (motive := fun _ => Option Nat) none (some l) (Nat.beq k 1))
  (fun y => AX.casesOn (motive_1 := fun _ => Option Nat) y none none (Bool.rec (motive := fun _ => Option Nat) none (some 0) (Nat.beq k 1)) (Bool.rec (motive := fun _ => Option Nat) none (some 0) (Nat.beq k 2)) none none
   (fun r => Bool.rec (motive := fun _ => Option Nat) none (blkM none (fun es => some es.length) (H.get r)) (Nat.beq k 2)) (fun _ _ _ => none) (fun _ _ => none) (fun _ => none) (fun _ => none) (fun _ => none) (fun _ _ => none) (fun _ _ _ => none) (fun _ _ _ => none)) v
theorem MRel.length {e : Emb} : ∀ {l : List (AV × AV)} {l' : List MapEntry}, MRel e l l' → l.length = l'.length
 | _, _, .nil => rfl
 | _, _, .cons _ _ t => by simp [MRel.length t]
theorem lenA_run {P : Program} {t ty : TypeId} {k n : Nat} (ht : lenKind P t = some k) {H : AHeap} {v : AV} (h : lenA k H v = some n) {e : Emb} {w : World} (hr : Rel P.globals.size e H w) {v' : Value} (hv : VRel e v v') :
  (Builtin.len_ #[t] ty #[v']).run P w = .ok (goInt n) w := by
 unfold lenKind at ht
 cases hu : P.underlying t with
 | none => rw [hu] at ht; cases ht
 | some d =>
  rw [hu] at ht
  cases d with
  | string =>
   cases ht
   cases v with
   | s l c => cases h; cases hv; simp [Builtin.len_, run_underlying hu, strV_size]
   | x y => cases y <;> cases h
   | _ => cases h
  | slice el =>
   cases ht
   cases v with
   | sl b o l c => cases h; cases hv <;> simp [Builtin.len_, run_underlying hu]
   | x y => cases y with
    | nils => cases h; cases hv; simp [Builtin.len_, run_underlying hu]
    | _ => cases h
   | _ => cases h
  | map kt el =>
   cases ht
   cases v with
   | x y => cases y with
    | nilm => cases h; cases hv; simp [Builtin.len_, run_underlying hu]
    | m r =>
     have h' : blkM none (fun es => some es.length) (H.get r) = some n := h
     cases hb : H.get r with
     | none => rw [hb] at h'; cases h'
     | some yy =>
      rw [hb] at h'
      cases yy with
      | m es =>
       cases h'
       cases hv
       rename_i i hi
       obtain ⟨es', ck, q1, q2, _⟩ := hr.obj r i _ hi hb
       have hlen := q2.length
       simp only [Array.length_toList] at hlen
       simp [Builtin.len_, run_underlying hu, getObj, Sem.run, q1, hlen]
      | _ => cases h'
    | _ => cases h
   | _ => cases h
  | _ => simp at ht
def iMin (k M h n m : Nat) : Option AV := some (.i k (Bool.rec (motive := fun _ => Nat) n m (Nat.ble (Nat.add (Nat.mod (Nat.add m h) M) 1) (Nat.mod (Nat.add n h) M))))
theorem opMin_snd {P : Program} {o : Oper} {x y : Operand} {x' y' : Env → AV} {ts : Array TypeId} {k M h : Nat} (ho : o.op = .call { callee := .builtin .min, args := #[x, y], argTypes := ts }) (hk : k < 8) (hM : M = 2 ^ (kindOf k).bits) (hh : h = if (kindOf k).signed then 2 ^ ((kindOf k).bits - 1) else 0)
  (hx : OpndOk P S x x') (hy : OpndOk P S y y') (en : Env) (H : AHeap) : OSnd P S o en H (opBinI k (iMin k M h) x' y' en H) := by
 unfold opBinI
 cases h1 : x' en with
 | i k1 n =>
  cases h2 : y' en with
  | i k2 m =>
   simp only [avI, bif']
   cases c1 : Nat.beq k1 k with
   | false => trivial
   | true =>
   cases c2 : Nat.beq k2 k with
   | false => trivial
   | true =>
   have d1 : k1 = k := Nat.eq_of_beq_eq_true c1
   have d2 : k2 = k := Nat.eq_of_beq_eq_true c2
   rw [d1] at h1
   rw [d2] at h2
   simp only [iMin, optE]
   refine OSnd.pure fun N D e w a hr ha => ?_
   have q1 := hx N D e en a H w hr ha
   have q2 := hy N D e en a H w hr ha
   rw [h1] at q1
   rw [h2] at q2
   generalize hxv : a.eval x = xv at q1
   generalize hyv : a.eval y = yv at q2
   cases q1
   cases q2
   rename_i hn _ hm
   have hw := wrap_lt k m n M h hk hM hh hm hn
   refine ⟨.int (kindOf k) (if (kindOf k).wrap (m : Int) < (kindOf k).wrap (n : Int) then (kindOf k).wrap (m : Int) else (kindOf k).wrap (n : Int)), ?_, ?_⟩
   · rw [exec_builtin ho]
     simp [builtin, Builtin.min_, Builtin.min2, hxv, hyv]
   · rw [brec]
     simp only [ble_tt]
     by_cases hc : (kindOf k).wrap (m : Int) < (kindOf k).wrap (n : Int)
     · rw [if_pos hc, if_pos (show Nat.add (Nat.mod (Nat.add m h) M) 1 ≤ Nat.mod (Nat.add n h) M from hw.1 hc)]
       exact .i k m hk hm
     · rw [if_neg hc, if_neg (show ¬ Nat.add (Nat.mod (Nat.add m h) M) 1 ≤ Nat.mod (Nat.add n h) M from fun q => hc (hw.2 q))]
       exact .i k n hk hn
  | _ => trivial
 | _ => trivial
def opLen (k : Nat) (x : Env → AV) (en : Env) (H : AHeap) : ORes := optN .fail (fun n => intA n (.v (.i 3 n) H)) (lenA k H (x en))
theorem opLen_snd {P : Program} {o : Oper} {t : TypeId} {x : Operand} {x' : Env → AV} {k : Nat} (ho : o.op = .call { callee := .builtin .len, args := #[x], argTypes := #[t] }) (ht : lenKind P t = some k) (hx : OpndOk P S x x') (en : Env) (H : AHeap) :
  OSnd P S o en H (opLen k x' en H) := by
 unfold opLen
 cases h : lenA k H (x' en) with
 | none => trivial
 | some n =>
  simp only [optN, intA, bif']
  cases hb : Nat.ble (Nat.add n 1) 9223372036854775808 with
  | false => trivial
  | true =>
   have hb' : n + 1 ≤ 9223372036854775808 := by rw [ble_tt] at hb; exact hb
   refine OSnd.pure fun N D e w a hr ha => ⟨goInt n, ?_, vrel_int64 e n hb'⟩
   rw [exec_builtin ho]
   simp only [builtin, List.map_toArray, List.map_cons, List.map_nil, Sem.run_bind, lenA_run ht h hr (hx N D e en a H w hr ha)]
   rfl
def opCap (sz : Nat) (x : Env → AV) (en : Env) (H : AHeap) : ORes :=
 AVp.rec (motive := fun _ => ORes) (fun _ _ => .fail) (fun _ => .fail) (fun _ _ => .fail) (fun _ _ => .fail)
  (fun b o _ cap => Option.rec (motive := fun _ => ORes) .fail (fun g => Bool.rec (motive := fun _ => ORes) (intA cap (.v (.i 3 cap) H)) .fail g) (grows H b o cap sz))
  (fun y => axNils .fail (.v (.i 3 0) H) y) (x en)
theorem opCap_snd {P : Program} {o : Oper} {t el : TypeId} {x : Operand} {x' : Env → AV} {sz : Nat} (ho : o.op = .call { callee := .builtin .cap, args := #[x], argTypes := #[t] }) (ht : P.underlying t = some (.slice el)) (hx : OpndOk P S x x') (en : Env) (H : AHeap) :
  OSnd P S o en H (opCap sz x' en H) := by
 unfold opCap
 cases h : x' en with
 | sl b k len cap =>
  simp only
  cases hg : grows H b k cap sz with
  | none => trivial
  | some g =>
   cases g with
   | true => trivial
   | false =>
    simp only [intA, bif']
    cases hb : Nat.ble (Nat.add cap 1) 9223372036854775808 with
    | false => trivial
    | true =>
     have hb' : cap + 1 ≤ 9223372036854775808 := by rw [ble_tt] at hb; exact hb
     refine OSnd.pure fun N D e w a hr ha => ⟨goInt cap, ?_, vrel_int64 e cap hb'⟩
     have h1 := hx N D e en a H w hr ha
     rw [h] at h1
     generalize hxv : a.eval x = xv at h1
     rw [exec_builtin ho]
     cases h1 with
     | sl _ _ _ _ cap' i hi hc =>
      have := grows_false hg hr hi hc
      subst this
      simp only [builtin, List.map_toArray, List.map_cons, List.map_nil, Sem.run_bind, hxv]
      simp [Builtin.cap_, run_underlying ht]
     | slq =>
      simp only [builtin, List.map_toArray, List.map_cons, List.map_nil, Sem.run_bind, hxv]
      simp [Builtin.cap_, run_underlying ht]
 | x y =>
  cases y with
  | nils =>
   simp only [axNils]
   refine OSnd.pure fun N D e w a hr ha => ⟨goInt 0, ?_, vrel_int64 e 0 (by omega)⟩
   have h1 := hx N D e en a H w hr ha
   rw [h] at h1
   generalize hxv : a.eval x = xv at h1
   cases h1
   rw [exec_builtin ho]
   simp only [builtin, List.map_toArray, List.map_cons, List.map_nil, Sem.run_bind, hxv]
   simp [Builtin.cap_, run_underlying ht]
  | _ => trivial
 | _ => trivial
def repA (Z : List AV) (n : Nat) : List AV := Nat.rec (motive := fun _ => List AV) [] (fun _ ih => Z ++ ih) n
theorem repA_rel {e : Emb} {Z : List AV} {Z' : List Value} (h : VRels e Z Z') : ∀ n, VRels e (repA Z n) (List.replicate n Z').flatten
 | 0 => .nil
 | n + 1 => by
  have : repA Z (n + 1) = Z ++ repA Z n := rfl
  rw [this, List.replicate_succ, List.flatten_cons]
  exact h.append (repA_rel h n)
theorem flatten_replicate_get (Z : List Value) : ∀ (n j : Nat), j < n * Z.length → (List.replicate n Z).flatten[j]? = Z[j % Z.length]?
 | 0, j, h => by omega
 | n + 1, j, h => by
  rw [List.replicate_succ, List.flatten_cons]
  by_cases hj : j < Z.length
  · rw [List.getElem?_append_left hj, Nat.mod_eq_of_lt hj]
  · rw [List.getElem?_append_right (by omega), flatten_replicate_get Z n (j - Z.length) (by rw [Nat.add_mul] at h; omega)]
    congr 1
    exact (Nat.mod_eq_sub_mod (by omega)).symm
theorem zeros_eq (z : Array Value) (n : Nat) (hz : 0 < z.size) : (Array.range (n * z.size)).map (fun i => z[i % z.size]!) = (List.replicate n z.toList).flatten.toArray := by
 apply Array.ext_getElem?
 intro j
 have hlen : (List.replicate n z.toList).flatten.length = n * z.size := by simp
 by_cases hj : j < n * z.size
 · have h1 := flatten_replicate_get z.toList n j (by simpa using hj)
   have hm : j % z.size < z.size := Nat.mod_lt _ hz
   have h2 : (List.replicate n z.toList).flatten.toArray[j]? = z.toList[j % z.toList.length]? := by rw [List.getElem?_toArray]; exact h1
   rw [h2]
   simp [hj, hm]
 · rw [Array.getElem?_eq_none (by simp; omega), Array.getElem?_eq_none (by simp; omega)]
def opMakeSlice (bytes : Nat) (Z : List AV) (x y : Env → AV) (en : Env) (H : AHeap) : ORes :=
 optN .fail (fun l => optN .fail (fun c => bif' .fail (bif' .fail (.v (.sl H.nxt 0 l c) (newA H (repA Z c))) (Nat.ble l c)) (Nat.ble (Nat.mul c bytes) 140737488355328)) (natOf (y en))) (natOf (x en))
theorem opMakeSlice_snd {P : Program} {o : Oper} {t el : TypeId} {x y : Operand} {x' y' : Env → AV} {bytes : Nat} {Z : List AV} {i : TypeInfo} {zv : Value} (ho : o.op = .makeSlice t x y) (ht : P.underlying t = some (.slice el)) (hi : P.info? el = some i)
  (hz : i.zero = some zv) (hby : i.bytes = bytes) (hb0 : 0 < bytes) (hsz : i.size = zv.cells.size) (hs0 : 0 < i.size) (hZ : ∀ e, VRels e Z zv.cells.toList) (hx : OpndOk P S x x') (hy : OpndOk P S y y') (en : Env) (H : AHeap) : OSnd P S o en H (opMakeSlice bytes Z x' y' en H) := by
 unfold opMakeSlice
 cases hl : natOf (x' en) with
 | none => trivial
 | some l =>
 simp only [optN]
 cases hc : natOf (y' en) with
 | none => trivial
 | some c =>
 simp only [bif']
 cases h1 : Nat.ble (Nat.mul c bytes) 140737488355328 with
 | false => trivial
 | true =>
 cases h2 : Nat.ble l c with
 | false => trivial
 | true =>
 have d1 : c * bytes ≤ 140737488355328 := by rw [ble_tt] at h1; exact h1
 have d2 : l ≤ c := by rw [ble_tt] at h2; exact h2
 have d3 : c ≤ c * bytes := Nat.le_mul_of_pos_right _ hb0
 refine OSnd.value fun N D e w a hr ha => ?_
 obtain ⟨K, hK⟩ := natOf_spec hl (hx N D e en a H w hr ha)
 obtain ⟨K2, hK2⟩ := natOf_spec hc (hy N D e en a H w hr ha)
 have hrow := Evo.newRow hr (repA_rel (hZ e) c) el
 have hw : ∀ n : Nat, n ≤ 140737488355328 → IntKind.i64.wrap (n : Int) = n := fun n hn => by
  simp only [IntKind.wrap, IntKind.signed, IntKind.bits]; simp; omega
 refine ⟨_, .slice (some ⟨w.heap.size, 0, none⟩) l c, _, ?_, .sl H.nxt 0 l c c ⟨w.heap.size, 0, (repA Z c).length, 0, (List.replicate c zv.cells.toList).flatten.length⟩ (by simp) (.inl rfl), hrow⟩
 have hzr : zeroOf P el = some zv := by unfold zeroOf; rw [hi]; exact hz
 have hsr : szOf P el = some zv.cells.size := by unfold szOf; rw [hi]; simp [hsz]
 have e1 : ¬ ((c : Int) < 0) := by omega
 have e2 : ¬ ((i.bytes : Int) * (c : Int) > 2 ^ 48) := by
  rw [hby]
  have : ((c * bytes : Nat) : Int) ≤ 140737488355328 := by omega
  rw [Nat.mul_comm] at this
  simp only [Int.natCast_mul] at this
  omega
 have e3 : ¬ ((l : Int) < 0) := by omega
 have e4 : ¬ ((l : Int) > (c : Int)) := by omega
 have hcond : (((decide ((c : Int) < 0) || decide ((i.bytes : Int) * (c : Int) > 2 ^ 48)) || decide ((l : Int) < 0)) || decide ((l : Int) > (c : Int))) = false := by
  rw [decide_eq_false e1, decide_eq_false e2, decide_eq_false e3, decide_eq_false e4]; rfl
 have hzc := zeros_eq zv.cells c (by omega)
 simp only [execOp, ho, Sem.run_bind, hK, hK2]
 simp only [Instr.makeSlice, Sem.run_bind, run_underlying ht, Result.andThen_ok, asInt, asIntOf, Sem.run_pure, typeInfo, run_program, hi, hw l (by omega), hw c (by omega)]
 by_cases h0 : c * i.size = 0
 · have hc0 : c = 0 := by rcases Nat.mul_eq_zero.1 h0 with h | h <;> omega
   subst hc0
   have hl0 : l = 0 := by omega
   subst hl0
   have hr0 : Array.range 0 = #[] := rfl
   simp [run_sizeOf hsr, newRow, hr0]
 · simp only [hcond, Bool.false_eq_true, if_false, Sem.run_bind, run_askRoom, Result.andThen_ok, run_sizeOf hsr, Int.toNat_natCast]
   rw [if_neg (by rw [hsz] at h0; exact h0)]
   simp only [Sem.run_bind, run_zeroOf hzr, Result.andThen_ok, Sem.run_pure]
   simp [newRow, hzc]
def opAppendZ (bytes sz : Nat) (Z : List AV) (x y : Env → AV) (en : Env) (H : AHeap) : ORes :=
 avX .fail (axNils .fail (optN .fail (fun n => bif' (bif' .fail (.v (.sl H.nxt 0 n n) (newG H (repA Z n) sz)) (Nat.ble (Nat.mul n bytes) 140737488355328)) .fail (Nat.beq n 0)) (natOf (y en)))) (x en)
theorem opAppendZ_snd {P : Program} {o : Oper} {t u el : TypeId} {ku : IntKind} {x y : Operand} {x' y' : Env → AV} {bytes sz : Nat} {Z : List AV} {i : TypeInfo} {zv : Value} (ho : o.op = .call { callee := .builtin .append, args := #[x, y], argTypes := #[t, u] }) (ht : P.underlying t = some (.slice el)) (hu : P.underlying u = some (.int ku)) (hi : P.info? el = some i)
  (hz : i.zero = some zv) (hby : i.bytes = bytes) (hb0 : 0 < bytes) (hsz : i.size = zv.cells.size) (hs : i.size = sz) (hs0 : 0 < i.size) (hZ : ∀ e, VRels e Z zv.cells.toList) (hx : OpndOk P S x x') (hy : OpndOk P S y y') (en : Env) (H : AHeap) : OSnd P S o en H (opAppendZ bytes sz Z x' y' en H) := by
 unfold opAppendZ
 cases h : x' en with
 | x w0 =>
  cases w0 with
  | nils =>
   simp only [avX, axNils]
   cases hn : natOf (y' en) with
   | none => trivial
   | some n =>
   simp only [optN, bif']
   cases h0 : Nat.beq n 0 with
   | true => trivial
   | false =>
   cases h1 : Nat.ble (Nat.mul n bytes) 140737488355328 with
   | false => trivial
   | true =>
   have d1 : n * bytes ≤ 140737488355328 := by rw [ble_tt] at h1; exact h1
   have d0 : 0 < n := by
    rcases Nat.eq_zero_or_pos n with q | q
    · subst q; cases h0
    · exact q
   have d3 : n ≤ n * bytes := Nat.le_mul_of_pos_right _ hb0
   refine OSnd.value fun N D e w a hr ha => ?_
   obtain ⟨K, hK⟩ := natOf_spec hn (hy N D e en a H w hr ha)
   have hx1 := hx N D e en a H w hr ha
   rw [h] at hx1
   generalize hxv : a.eval x = xv at hx1
   cases hx1
   have hrel := repA_rel (hZ e) n
   have hrlen := hrel.length
   have hfl : (List.replicate n zv.cells.toList).flatten.length = n * sz := by simp [← hs, hsz]
   have hrow := Evo.newRoom hr hrel (Builtin.zeroCells zv.cells (grownCap w n 0 el - n)) el sz
   have hzr : zeroOf P el = some zv := by unfold zeroOf; rw [hi]; exact hz
   have hw : IntKind.i64.wrap (n : Int) = n := by
    simp only [IntKind.wrap, IntKind.signed, IntKind.bits]; simp; omega
   have hzc : Builtin.zeroCells zv.cells n = (List.replicate n zv.cells.toList).flatten.toArray := zeros_eq zv.cells n (by omega)
   have e1 : ¬ ((n : Int) < 0) := by omega
   have e2 : ¬ ((n : Int) * (i.bytes : Int) > 2 ^ 48) := by
    rw [hby]
    have : ((n * bytes : Nat) : Int) ≤ 140737488355328 := by omega
    simp only [Int.natCast_mul] at this
    omega
   have e4 : ¬ (Builtin.nextslicecap n 0 * i.bytes > 2 ^ 48) := by rw [nextslicecap_zero d0, hby]; omega
   have e5 : n * i.size ≠ 0 := by
    have := Nat.mul_pos d0 hs0; omega
   refine ⟨_, .slice (some ⟨w.heap.size, 0, none⟩) n (grownCap w n 0 el), _, ?_, ?_, hrow⟩
   · rw [exec_builtin ho]
     simp only [builtin, List.map_toArray, List.map_cons, List.map_nil, hxv, hK, Sem.run_bind]
     have f1 : ¬ (281474976710656 < (n : Int) * (i.bytes : Int)) := by omega
     have f2 : ¬ (n = 0) := by omega
     have f3 : ¬ (9223372036854775807 < (n : Int)) := by omega
     simp [Builtin.append_, run_underlying ht, run_underlying hu, sizeOf, typeInfo, hi, asInt, asIntOf, hw, e4, e5, run_zeroOf hzr, Question.forced, Builtin.firstCells, newRow, grownCap, hzc]
     rw [if_neg e1, if_neg f1, if_neg f2, if_neg f3]
   · have hgc := grownCap_ge w n 0 el
     refine VRel.sl (e := e.put H.nxt ⟨w.heap.size, 0, (repA Z n).length, sz, (List.replicate n zv.cells.toList).flatten.length + (Builtin.zeroCells zv.cells (grownCap w n 0 el - n)).size⟩) H.nxt 0 n n (grownCap w n 0 el)
      ⟨w.heap.size, 0, (repA Z n).length, sz, (List.replicate n zv.cells.toList).flatten.length + (Builtin.zeroCells zv.cells (grownCap w n 0 el - n)).size⟩ (by simp) (.inr ⟨by simp only; omega, ?_, hgc, ?_⟩)
     · simp only [Nat.zero_add]; rw [hrlen, hfl]
     · rw [zeroCells_size, ← hsz, hs, hfl, ← Nat.add_mul]
       simp only [Nat.zero_add]
       exact Nat.le_of_eq (by congr 1; omega)
  | _ => trivial
 | _ => trivial
end
end Go.Ab
namespace Go.Ab
open Go
noncomputable section
variable {S : BT Nat}
theorem eqAtom_eq {kd : Nat} {x y : AV} (h : eqAtom kd x y = some true) {e : Emb} {x' y' : Value} (hx : VRel e x x') (hy : VRel e y y') : x' = y' := by
 cases x with
 | i k n =>
  cases c0 : Nat.beq kd 0 with
  | false => simp only [eqAtom, c0] at h; cases h
  | true =>
   simp only [eqAtom, c0] at h
   cases y with
   | i k' n' =>
    simp only [avI] at h
    cases c : Nat.beq k k' with
    | false => rw [c] at h; cases h
    | true =>
     rw [c] at h
     simp only [Option.some.injEq] at h
     have d1 := Nat.eq_of_beq_eq_true c
     have d2 := Nat.eq_of_beq_eq_true h
     subst d1; subst d2
     cases hx; cases hy; rfl
   | _ => cases h
 | b p =>
  cases c0 : Nat.beq kd 1 with
  | false => simp only [eqAtom, c0] at h; cases h
  | true =>
   simp only [eqAtom, c0] at h
   cases y with
   | b q => cases hx; cases hy; cases p <;> cases q <;> first | rfl | cases h
   | _ => cases h
 | s l c =>
  cases c0 : Nat.beq kd 2 with
  | false => simp only [eqAtom, c0] at h; cases h
  | true =>
   simp only [eqAtom, c0] at h
   cases y with
   | s l' c' =>
    simp only [avS, Option.some.injEq] at h
    cases d1 : Nat.beq l l' with
    | false => rw [d1] at h; cases h
    | true =>
     rw [d1] at h
     have q1 := Nat.eq_of_beq_eq_true d1
     have q2 := Nat.eq_of_beq_eq_true h
     subst q1; subst q2
     cases hx; cases hy; rfl
   | _ => cases h
 | _ => cases h
theorem eqCells_eq : ∀ (ks : List Nat) (l m : List AV), eqCells ks l m = some true → ∀ {e : Emb} {xs ys : List Value}, VRels e l xs → VRels e m ys → xs = ys
 | [], l, m, h, e, xs, ys, hl, hm => by
  obtain ⟨rfl, rfl, _⟩ := eqCells_nil h
  cases hl; cases hm; rfl
 | kd :: ks, l, m, h, e, xs, ys, hl, hm => by
  obtain ⟨x, l', y, m', a, s, rfl, rfl, h1, h2, h3⟩ := eqCells_cons h
  have ha : a = true := by cases a <;> simp at h3 <;> rfl
  have hs : s = true := by cases s <;> simp at h3 <;> rfl
  subst ha; subst hs
  cases hl with
  | cons hx hl' =>
   cases hm with
   | cons hy hm' =>
    rw [eqAtom_eq h1 hx hy, eqCells_eq ks l' m' h2 hl' hm']
def atomV : Value → Bool
 | .int _ _ | .bool _ | .string _ => true
 | _ => false
theorem eqAtom_atom {kd : Nat} {x y : AV} {r : Bool} (h : eqAtom kd x y = some r) {e : Emb} {x' : Value} (hx : VRel e x x') : atomV x' = true := by
 cases x with
 | i k n => cases hx; rfl
 | b p => cases hx; rfl
 | s l c => cases hx; rfl
 | _ => cases h
theorem eqCells_atoms : ∀ (ks : List Nat) (l m : List AV) (r : Bool), eqCells ks l m = some r → ∀ {e : Emb} {xs : List Value}, VRels e l xs → ∀ v ∈ xs, atomV v = true
 | [], l, m, r, h, e, xs, hl, v, hv => by
  obtain ⟨rfl, _, _⟩ := eqCells_nil h
  cases hl; cases hv
 | kd :: ks, l, m, r, h, e, xs, hl, v, hv => by
  obtain ⟨x, l', y, m', a, s, rfl, rfl, h1, h2, h3⟩ := eqCells_cons h
  cases hl with
  | cons hx hl' =>
   rcases List.mem_cons.1 hv with rfl | hv
   · exact eqAtom_atom h1 hx
   · exact eqCells_atoms ks l' m' s h2 hl' v hv
theorem beq_str_self (s : ByteArray) : (s == s) = true := by
 rw [beq_toListBytes]; simp
theorem sameBits_atom (n : Nat) (v : Value) (h : atomV v = true) : Instr.sameBits n v v = true := by
 cases v <;> simp [atomV] at h <;> cases n <;> simp [Instr.sameBits, beq_str_self]
def aggDesc : TypeDesc → Bool
 | .struct _ | .array _ _ => true
 | _ => false
theorem sameNow_agg {d : TypeDesc} (h : aggDesc d = true) (x y : Value) : Instr.sameNow d x y = none := by
 cases d <;> first | (cases h; done) | rfl
theorem sameBits_agg (n : Nat) (xs : List Value) (h : ∀ v ∈ xs, atomV v = true) : Instr.sameBits (n + 1) (.agg xs.toArray) (.agg xs.toArray) = true := by
 simp only [Instr.sameBits, beq_self_eq_true, Bool.true_and, List.all_eq_true]
 intro p hp
 obtain ⟨u, v⟩ := p
 have : u = v ∧ u ∈ xs := by
  obtain ⟨i, hi, he⟩ := List.getElem_of_mem hp
  simp at he
  obtain ⟨rfl, rfl⟩ := he
  exact ⟨rfl, List.getElem_mem _⟩
 obtain ⟨rfl, hu⟩ := this
 exact sameBits_atom n u (h u hu)
def CmpOk (P : Program) (kt : TypeId) (cmp : AV → AV → Option Bool) : Prop :=
 ∀ (e : Emb) (x y : AV) (x' y' : Value) (r : Bool), VRel e x x' → VRel e y y' → cmp x y = some r →
  (r = true → x' = y' ∧ Instr.sameBits 10000 y' x' = true) ∧
  ((∃ d, P.underlying kt = some d ∧ Instr.sameNow d x' y' = some r) ∨ ((∃ d, P.underlying kt = some d ∧ aggDesc d = true) ∧ ∀ w, (Op.equal kt x' y').run P w = .ok r w))
def cmpC (ks : List Nat) (x y : AV) : Option Bool := avX none (axAgg none (fun l => avX none (axAgg none (fun m => eqCells ks l m)) y)) x
theorem cmpC_ok {P : Program} {kt : TypeId} {d : Nat} {ks : List Nat} (h : flatOf P d kt = some ks) (hag : aggOf P kt ≠ some none) (hst : ∃ d, P.underlying kt = some d ∧ aggDesc d = true) (hd : d ≤ 10000) : CmpOk P kt (cmpC ks) := by
 intro e x y x' y' r hx hy hc
 unfold cmpC at hc
 cases x with
 | x u =>
  cases u with
  | agg l =>
   cases y with
   | x u2 =>
    cases u2 with
    | agg m =>
     have he : eqCells ks l m = some r := hc
     cases hx with
     | agg _ xs hxs =>
     cases hy with
     | agg _ ys hys =>
     constructor
     · intro hr
       subst hr
       have := eqCells_eq ks l m he hxs hys
       subst this
       exact ⟨rfl, sameBits_agg 9999 xs (eqCells_atoms ks l m true he hxs)⟩
     · refine .inr ⟨hst, fun w => ?_⟩
       have := eqP_flat d (10000 - d) kt ks h e l m xs ys r w hxs hys he
       rw [show 10000 - d + d = 10000 by omega] at this
       rcases this with ⟨_, q⟩ | ⟨q, _⟩
       · exact q
       · exact absurd q hag
    | _ => cases hc
   | _ => cases hc
  | _ => cases hc
 | _ => cases hc
theorem cmpI_ok {P : Program} {kt : TypeId} {K : IntKind} (hu : P.underlying kt = some (.int K)) : CmpOk P kt (eqAtom 0) := by
 intro e x y x' y' r hx hy hc
 have hat := eqAtom_atom hc hx
 constructor
 · intro hr
   subst hr
   have := eqAtom_eq hc hx hy
   subst this
   exact ⟨rfl, sameBits_atom _ _ hat⟩
 · refine .inl ⟨_, hu, ?_⟩
   cases x with
   | i k n =>
    cases y with
    | i k' n' =>
     cases hx with
     | i _ _ hk hn =>
     cases hy with
     | i _ _ hk' hn' =>
     have h1 : Bool.rec (motive := fun _ => Option Bool) none (some (Nat.beq n n')) (Nat.beq k k') = some r := hc
     cases c : Nat.beq k k' with
     | false => rw [c] at h1; cases h1
     | true =>
      rw [c] at h1
      have := Nat.eq_of_beq_eq_true c
      subst this
      simp only [Option.some.injEq] at h1
      simp only [Instr.sameNow, if_true, Option.some.injEq]
      rw [← h1, Bool.eq_iff_iff, beq_tt, beq_iff_eq]
      exact wrap_inj k n n' hk hn hn'
    | _ => cases hc
   | _ => cases hc
theorem cmpS_ok {P : Program} {kt : TypeId} (hu : P.underlying kt = some .string) : CmpOk P kt (eqAtom 2) := by
 intro e x y x' y' r hx hy hc
 have hat := eqAtom_atom hc hx
 constructor
 · intro hr
   subst hr
   have := eqAtom_eq hc hx hy
   subst this
   exact ⟨rfl, sameBits_atom _ _ hat⟩
 · refine .inl ⟨_, hu, ?_⟩
   cases x with
   | s l1 c1 =>
    cases y with
    | s l2 c2 =>
     cases hx with
     | s _ _ hc1 =>
     cases hy with
     | s _ _ hc2 =>
     have h1 : some (Bool.rec (motive := fun _ => Bool) false (Nat.beq c1 c2) (Nat.beq l1 l2)) = some r := hc
     simp only [Option.some.injEq] at h1
     simp only [Instr.sameNow, Option.some.injEq]
     rw [← h1, beq_toListBytes]
     simp only [ByteArray.toList_mk]
     exact str_eq_iff l1 c1 l2 c2 hc1 hc2
    | _ => cases hc
   | _ => cases hc
def findA (cmp : AV → AV → Option Bool) (k : AV) (es : List (AV × AV)) : Nat → Option (Option (Nat × AV)) :=
 List.rec (motive := fun _ => Nat → Option (Option (Nat × AV))) (fun _ => some none)
  (fun p _ ih i => Option.rec (motive := fun _ => Option (Option (Nat × AV))) none (fun r => Bool.rec (motive := fun _ => Option (Option (Nat × AV))) (ih (Nat.add i 1)) (some (some (i, p.2))) r) (cmp k p.1)) es
theorem findA_cons {cmp : AV → AV → Option Bool} {k : AV} {p : AV × AV} {es : List (AV × AV)} {i : Nat} {r : Option (Nat × AV)} (h : findA cmp k (p :: es) i = some r) :
  ∃ b, cmp k p.1 = some b ∧ ((b = true ∧ r = some (i, p.2)) ∨ (b = false ∧ findA cmp k es (i + 1) = some r)) := by
 have hd : findA cmp k (p :: es) i = Option.rec (motive := fun _ => Option (Option (Nat × AV))) none (fun r => Bool.rec (motive := fun _ => Option (Option (Nat × AV))) (findA cmp k es (i + 1)) (some (some (i, p.2))) r) (cmp k p.1) := rfl
 rw [hd] at h
 cases hb : cmp k p.1 with
 | none => rw [hb] at h; cases h
 | some b =>
  rw [hb] at h
  refine ⟨b, rfl, ?_⟩
  cases b with
  | true => simp only [Option.some.injEq] at h; exact .inl ⟨rfl, h.symm⟩
  | false => exact .inr ⟨rfl, h⟩
def FoundRel (e : Emb) : Option (Nat × AV) → Option (Nat × Value) → Prop
 | none, none => True
 | some (i, v), some (j, v') => i = j ∧ VRel e v v'
 | _, _ => False
theorem findNow_run {P : Program} {kt : TypeId} {cmp : AV → AV → Option Bool} (hc : CmpOk P kt cmp) {d : TypeDesc} (hd : P.underlying kt = some d) (hs : aggDesc d = false) {e : Emb} {k : AV} {k' : Value} (hk : VRel e k k') :
  ∀ {es : List (AV × AV)} {es' : List MapEntry} (_ : MRel e es es') (i : Nat) (r : Option (Nat × AV)), findA cmp k es i = some r → ∃ r', Instr.findNow d k' es' i = some r' ∧ FoundRel e r r'
 | _, _, .nil, i, r, h => by cases h; exact ⟨none, rfl, trivial⟩
 | _, _, .cons (k := kk) (v := v) (m := m) (l := l) (l' := l') hk1 hv t, i, r, h => by
  obtain ⟨b, h1, h2⟩ := findA_cons h
  obtain ⟨_, q⟩ := hc e k kk k' m.key b hk hk1 h1
  rcases q with ⟨d', hd', q⟩ | ⟨⟨d', hfs, hag⟩, _⟩
  · rw [hd] at hd'; cases hd'
    rcases h2 with ⟨rfl, rfl⟩ | ⟨rfl, h2⟩
    · exact ⟨some (i, m.val), by simp [Instr.findNow, q], rfl, hv⟩
    · obtain ⟨r', g1, g2⟩ := findNow_run hc hd hs hk t (i + 1) r h2
      exact ⟨r', by simp [Instr.findNow, q, g1], g2⟩
  · rw [hd] at hfs; cases hfs; rw [hs] at hag; cases hag
theorem findAsking_run {P : Program} {kt : TypeId} {cmp : AV → AV → Option Bool} (hc : CmpOk P kt cmp) {d : TypeDesc} (hd : P.underlying kt = some d) (hs : aggDesc d = true) {e : Emb} {k : AV} {k' : Value} (hk : VRel e k k') (w : World) :
  ∀ {es : List (AV × AV)} {es' : List MapEntry} (_ : MRel e es es') (i : Nat) (r : Option (Nat × AV)), findA cmp k es i = some r → ∃ r', (Instr.findAsking kt k' es' i).run P w = .ok r' w ∧ FoundRel e r r'
 | _, _, .nil, i, r, h => by cases h; exact ⟨none, rfl, trivial⟩
 | _, _, .cons (k := kk) (v := v) (m := m) (l := l) (l' := l') hk1 hv t, i, r, h => by
  obtain ⟨b, h1, h2⟩ := findA_cons h
  obtain ⟨_, q⟩ := hc e k kk k' m.key b hk hk1 h1
  rcases q with ⟨d', hd', q⟩ | ⟨_, q⟩
  · rw [hd] at hd'; cases hd'; rw [sameNow_agg hs] at q; cases q
  · rcases h2 with ⟨rfl, rfl⟩ | ⟨rfl, h2⟩
    · exact ⟨some (i, m.val), by simp [Instr.findAsking, q w], rfl, hv⟩
    · obtain ⟨r', g1, g2⟩ := findAsking_run hc hd hs hk w t (i + 1) r h2
      exact ⟨r', by simp [Instr.findAsking, q w, g1], g2⟩
theorem findKey_run {P : Program} {kt : TypeId} {cmp : AV → AV → Option Bool} (hc : CmpOk P kt cmp) {d : TypeDesc} (hd : P.underlying kt = some d) {e : Emb} {k : AV} {k' : Value} (hk : VRel e k k') (w : World) {es : List (AV × AV)} {es' : List MapEntry} (hes : MRel e es es')
  {r : Option (Nat × AV)} (h : findA cmp k es 0 = some r) : ∃ r', (Instr.findKey kt k' es').run P w = .ok r' w ∧ FoundRel e r r' := by
 cases hs : aggDesc d with
 | true =>
  obtain ⟨r', g1, g2⟩ := findAsking_run hc hd hs hk w hes 0 r h
  refine ⟨r', ?_, g2⟩
  simp only [Instr.findKey, Sem.run_bind, run_underlying hd, Result.andThen_ok]
  cases es' with
  | nil =>
   simp [Instr.findNow]
   simpa [Instr.findAsking] using g1
  | cons m l' =>
   simp only [Instr.findNow, sameNow_agg hs]
   exact g1
 | false =>
  obtain ⟨r', g1, g2⟩ := findNow_run hc hd hs hk hes 0 r h
  exact ⟨r', by simp [Instr.findKey, run_underlying hd, g1], g2⟩
def KeyFree (P : Program) (kt : TypeId) (k : AV → Bool) : Prop := ∀ (e : Emb) (x : AV) (x' : Value) (b : Bool) (w : World), VRel e x x' → k x = true → (Instr.checkKey b 10000 kt x').run P w = .ok () w
theorem keyFree_atom {P : Program} {kt : TypeId} (h : (∃ K, P.underlying kt = some (.int K)) ∨ P.underlying kt = some .string ∨ P.underlying kt = some .bool) : KeyFree P kt (fun _ => true) := by
 intro e x x' b w hx _
 have gen : ∀ n d, P.underlying kt = some d → (∀ ms, d ≠ .interface ms) → (∀ n e, d ≠ .array n e) → (∀ fs, d ≠ .struct fs) → (Instr.checkKey b (n + 1) kt x').run P w = .ok () w := by
  intro n d hd h1 h2 h3
  simp only [Instr.checkKey, Sem.run_bind, run_underlying hd, Result.andThen_ok]
  cases d <;> simp_all
 rcases h with ⟨K, h⟩ | h | h
 · exact gen 9999 _ h (by simp) (by simp) (by simp)
 · exact gen 9999 _ h (by simp) (by simp) (by simp)
 · exact gen 9999 _ h (by simp) (by simp) (by simp)
def optM {R : Type} (d : R) (f : Option (Nat × AV) → R) (x : Option (Option (Nat × AV))) : R := Option.rec (motive := fun _ => R) d f x
def mapEs (H : AHeap) (v : AV) : Option (List (AV × AV)) :=
 avX none (fun y => AX.casesOn (motive_1 := fun _ => Option (List (AV × AV))) y none none none (some []) none none (fun r => blkM none (fun es => some es) (H.get r)) (fun _ _ _ => none) (fun _ _ => none) (fun _ => none) (fun _ => none) (fun _ => none) (fun _ _ => none) (fun _ _ _ => none) (fun _ _ _ => none)) v
def opLookup (cmp : AV → AV → Option Bool) (free : AV → Bool) (Z : AV) (commaOk : Bool) (x y : Env → AV) (en : Env) (H : AHeap) : ORes :=
 Option.rec (motive := fun _ => ORes) .fail (fun es => bif' .fail (optM .fail (fun r =>
  Option.rec (motive := fun _ => ORes) (.v (Bool.rec (motive := fun _ => AV) Z (.x (.tup [Z, .b false])) commaOk) H) (fun p => .v (Bool.rec (motive := fun _ => AV) p.2 (.x (.tup [p.2, .b true])) commaOk) H) r) (findA cmp (y en) es 0)) (free (y en))) (mapEs H (x en))
theorem lookup_run {P : Program} {t kt el : TypeId} {cmp : AV → AV → Option Bool} {free : AV → Bool} {zv : Value} (commaOk : Bool) (ht : P.underlying t = some (.map kt el)) {d : TypeDesc} (hd : P.underlying kt = some d)
  (hc : CmpOk P kt cmp) (hf : KeyFree P kt free) (hz : zeroOf P el = some zv) {e : Emb} {k : AV} {k' : Value} (hk : VRel e k k') (hfr : free k = true) (w : World) {es : List (AV × AV)} {es' : Array MapEntry} {xv : Value}
  (hx : (xv = .map none ∧ es' = #[]) ∨ ∃ r ck, xv = .map (some r) ∧ w.heap[r]? = some (.map es' ck)) (hm : MRel e es es'.toList) {r : Option (Nat × AV)} (h : findA cmp k es 0 = some r) :
  ∃ r', FoundRel e r r' ∧ (Instr.lookup t xv k' commaOk).run P w = .ok (match r' with | some (_, u) => if commaOk then .tuple #[u, .bool true] else u | none => if commaOk then .tuple #[zv, .bool false] else zv) w := by
 obtain ⟨r', g1, g2⟩ := findKey_run hc hd hk w hm h
 refine ⟨r', g2, ?_⟩
 have hck := hf e k k' es'.isEmpty w hk hfr
 rcases hx with ⟨rfl, rfl⟩ | ⟨q, ck, rfl, hq⟩
 · simp only [Instr.lookup, Sem.run_bind, run_underlying ht, Result.andThen_ok, Sem.run_pure, hck, g1]
   cases r' with
   | none => simp only [Sem.run_bind, run_zeroOf hz, Result.andThen_ok, Sem.run_pure]
   | some p => obtain ⟨j, u⟩ := p; simp only [Result.andThen_ok, Sem.run_bind, Sem.run_pure]
 · have hg : (getObj q).run P w = .ok (.map es' ck) w := by simp [getObj, Sem.run, hq]
   simp only [Instr.lookup, Sem.run_bind, run_underlying ht, Result.andThen_ok, Sem.run_pure, hg, hck, g1]
   cases r' with
   | none => simp only [Sem.run_bind, run_zeroOf hz, Result.andThen_ok, Sem.run_pure]
   | some p => obtain ⟨j, u⟩ := p; simp only [Result.andThen_ok, Sem.run_bind, Sem.run_pure]
theorem opLookup_snd {P : Program} {o : Oper} {t kt el : TypeId} {x y : Operand} {x' y' : Env → AV} {cmp : AV → AV → Option Bool} {free : AV → Bool} {Z : AV} {zv : Value} {commaOk : Bool} (ho : o.op = .lookup t x y commaOk) (ht : P.underlying t = some (.map kt el)) (hk : ∃ d, P.underlying kt = some d)
  (hc : CmpOk P kt cmp) (hf : KeyFree P kt free) (hz : zeroOf P el = some zv) (hZ : ∀ e, VRel e Z zv) (hx : OpndOk P S x x') (hy : OpndOk P S y y') (en : Env) (H : AHeap) : OSnd P S o en H (opLookup cmp free Z commaOk x' y' en H) := by
 unfold opLookup
 obtain ⟨d, hd⟩ := hk
 cases hes : mapEs H (x' en) with
 | none => trivial
 | some es =>
 simp only [bif']
 cases hfr : free (y' en) with
 | false => trivial
 | true =>
 simp only
 cases hr0 : findA cmp (y' en) es 0 with
 | none => trivial
 | some r =>
 simp only [optM]
 have key : ∀ (N : Nat) (D : DF) (e : Emb) (w : World) (a : Act), Rel P.globals.size e H w → ARel S N D e en a →
   ∃ es' : Array MapEntry, MRel e es es'.toList ∧ ((a.eval x = .map none ∧ es' = #[]) ∨ ∃ r ck, a.eval x = .map (some r) ∧ w.heap[r]? = some (.map es' ck)) := by
  intro N D e w a hr ha
  have h1 := hx N D e en a H w hr ha
  unfold mapEs at hes
  cases hxe : x' en with
  | x u =>
   rw [hxe] at hes h1
   cases u with
   | nilm =>
    cases hes
    generalize hxv : a.eval x = xv at h1
    cases h1
    exact ⟨#[], .nil, .inl ⟨rfl, rfl⟩⟩
   | m r0 =>
    have h' : blkM none (fun es => some es) (H.get r0) = some es := hes
    cases hb : H.get r0 with
    | none => rw [hb] at h'; cases h'
    | some yy =>
     rw [hb] at h'
     cases yy with
     | m es0 =>
      cases h'
      generalize hxv : a.eval x = xv at h1
      cases h1
      rename_i i hi
      obtain ⟨es', ck, q1, q2, _⟩ := hr.obj r0 i _ hi hb
      exact ⟨es', q2, .inr ⟨_, ck, rfl, q1⟩⟩
     | _ => cases h'
   | _ => cases hes
  | _ => rw [hxe] at hes; cases hes
 have fin : ∀ (v : AV), (∀ (e : Emb) (r' : Option (Nat × Value)), FoundRel e r r' → VRel e v (match r' with | some (_, u) => if commaOk then .tuple #[u, .bool true] else u | none => if commaOk then .tuple #[zv, .bool false] else zv)) → OSnd P S o en H (.v v H) := by
  intro v hv
  refine OSnd.pure fun N D e w a hr ha => ?_
  obtain ⟨es', hm, hxe⟩ := key N D e w a hr ha
  obtain ⟨r', g1, g2⟩ := lookup_run commaOk ht hd hc hf hz (hy N D e en a H w hr ha) hfr w hxe hm hr0
  exact ⟨_, by simp only [execOp, ho, Sem.run_bind, g2, Result.andThen_ok, Sem.run_pure], hv e r' g1⟩
 cases r with
 | none =>
  refine fin _ fun e r' hr' => ?_
  cases r' with
  | some p => exact hr'.elim
  | none =>
   cases commaOk with
   | false => exact hZ e
   | true => exact .tup [Z, .b false] [zv, .bool false] (.cons (hZ e) (.cons (.b false) .nil))
 | some p =>
  obtain ⟨i, v⟩ := p
  refine fin _ fun e r' hr' => ?_
  cases r' with
  | none => exact hr'.elim
  | some p' =>
   obtain ⟨j, u⟩ := p'
   obtain ⟨_, hvu⟩ := hr'
   cases commaOk with
   | false => exact hvu
   | true => exact .tup [v, .b true] [u, .bool true] (.cons hvu (.cons (.b true) .nil))
theorem run_setObjM (P : Program) (w : World) (r : Nat) (o : Obj) {es : Array MapEntry} {ck : Nat} (h : w.heap[r]? = some (.map es ck)) : (setObj r o).run P w = .ok () { w with heap := w.heap.setIfInBounds r o } := by
 simp [setObj, Sem.run, h]
def setP (k v : AV) (es : List (AV × AV)) (i : Nat) : List (AV × AV) := es.set i (k, v)
theorem MRel.snoc {e : Emb} : ∀ {l : List (AV × AV)} {l' : List MapEntry}, MRel e l l' → ∀ {k v : AV} {m : MapEntry}, VRel e k m.key → VRel e v m.val → MRel e (l ++ [(k, v)]) (l' ++ [m])
 | _, _, .nil, _, _, _, hk, hv => .cons hk hv .nil
 | _, _, .cons a b t, _, _, _, hk, hv => .cons a b (MRel.snoc t hk hv)
theorem MRel.set {e : Emb} : ∀ {l : List (AV × AV)} {l' : List MapEntry}, MRel e l l' → ∀ (i : Nat) {k v : AV} {m : MapEntry}, VRel e k m.key → VRel e v m.val → MRel e (l.set i (k, v)) (l'.set i m)
 | _, _, .nil, _, _, _, _, _, _ => .nil
 | _, _, .cons _ _ t, 0, _, _, _, hk, hv => .cons hk hv t
 | _, _, .cons a b t, i + 1, _, _, _, hk, hv => .cons a b (MRel.set t i hk hv)
def opMapUpdate (cmp : AV → AV → Option Bool) (free : AV → Bool) (x y z : Env → AV) (en : Env) (H : AHeap) : ORes :=
 avX .fail (fun u => AX.casesOn (motive_1 := fun _ => ORes) u .fail .fail .fail .fail .fail .fail (fun r => blkM .fail (fun es => bif' .fail (optM .fail (fun q =>
   Option.rec (motive := fun _ => ORes) (.v undefA (H.upd r (.m (es ++ [(y en, z en)])))) (fun p => .v undefA (H.upd r (.m (es.set p.1 (y en, z en))))) q) (findA cmp (y en) es 0)) (free (y en))) (H.get r))
  (fun _ _ _ => .fail) (fun _ _ => .fail) (fun _ => .fail) (fun _ => .fail) (fun _ => .fail) (fun _ _ => .fail) (fun _ _ _ => .fail) (fun _ _ _ => .fail)) (x en)
theorem findA_lt {cmp : AV → AV → Option Bool} {k : AV} : ∀ {es : List (AV × AV)} {i j : Nat} {v : AV}, findA cmp k es i = some (some (j, v)) → ∃ p, es[j - i]? = some p ∧ i ≤ j ∧ cmp k p.1 = some true
 | [], i, j, v, h => by cases h
 | p :: es, i, j, v, h => by
  obtain ⟨b, h1, h2⟩ := findA_cons h
  rcases h2 with ⟨rfl, h2⟩ | ⟨rfl, h2⟩
  · cases h2; exact ⟨p, by simp, Nat.le_refl _, h1⟩
  · obtain ⟨q, g1, g2, g3⟩ := findA_lt h2
    refine ⟨q, ?_, by omega, g3⟩
    rw [show j - i = (j - (i + 1)) + 1 by omega]
    simpa using g1
theorem MRel.get {e : Emb} : ∀ {l : List (AV × AV)} {l' : List MapEntry}, MRel e l l' → ∀ {i : Nat} {p : AV × AV}, l[i]? = some p → ∃ m, l'[i]? = some m ∧ VRel e p.1 m.key ∧ VRel e p.2 m.val
 | _, _, .nil, _, _, h => by simp at h
 | _, _, .cons a b t, 0, p, h => by simp at h; subst h; exact ⟨_, by simp, a, b⟩
 | _, _, .cons a b t, i + 1, p, h => by
  obtain ⟨m, g1, g2⟩ := MRel.get t (i := i) (p := p) (by simpa using h)
  exact ⟨m, by simpa using g1, g2⟩
theorem opMapUpdate_snd {P : Program} {o : Oper} {t kt el : TypeId} {x y z : Operand} {x' y' z' : Env → AV} {cmp : AV → AV → Option Bool} {free : AV → Bool} (ho : o.op = .mapUpdate t x y z ∨ o.op = .insert t x y z) (ht : P.underlying t = some (.map kt el)) (hk : ∃ d, P.underlying kt = some d)
  (hc : CmpOk P kt cmp) (hf : KeyFree P kt free) (hx : OpndOk P S x x') (hy : OpndOk P S y y') (hz : OpndOk P S z z') (en : Env) (H : AHeap) : OSnd P S o en H (opMapUpdate cmp free x' y' z' en H) := by
 unfold opMapUpdate
 obtain ⟨d, hd⟩ := hk
 cases hxe : x' en with
 | x u =>
  cases u with
  | m r0 =>
   simp only [avX]
   cases hb : H.get r0 with
   | none => trivial
   | some yy =>
    cases yy with
    | m es =>
     simp only [blkM, bif']
     cases hfr : free (y' en) with
     | false => trivial
     | true =>
     simp only
     cases hr0 : findA cmp (y' en) es 0 with
     | none => trivial
     | some q =>
     simp only [optM]
     cases q with
     | none =>
      simp only
      refine OSnd.skip fun N D e w a hr ha => ?_
      have h1 := hx N D e en a H w hr ha
      have h2 := hy N D e en a H w hr ha
      have h3 := hz N D e en a H w hr ha
      rw [hxe] at h1
      generalize hxv : a.eval x = xv at h1
      cases h1
      rename_i i hi
      obtain ⟨es', ck, q1, q2, qb⟩ := hr.obj r0 i _ hi hb
      obtain ⟨r', g1, g2⟩ := findKey_run hc hd h2 w q2 hr0
      cases r' with
      | some p => exact g2.elim
      | none =>
       refine ⟨e, { w with heap := w.heap.setIfInBounds i.blk (.map (es'.push { key := a.eval y, val := a.eval z, born := ck }) (ck + 1)) }, ?_, Evo.change hr hi (.inr ⟨es, hb⟩) _ (.map (es'.push { key := a.eval y, val := a.eval z, born := ck }) (ck + 1)) rfl rfl rfl rfl ?_⟩
       · rcases ho with ho | ho <;>
         · have hg : (getObj i.blk).run P w = .ok (.map es' ck) w := by simp [getObj, Sem.run, q1]
           have hs := run_setObjM P w i.blk (.map (es'.push { key := a.eval y, val := a.eval z, born := ck }) (ck + 1)) q1
           simp only [execOp, ho, Sem.run_bind, Instr.mapUpdate, run_underlying ht, Result.andThen_ok, hxv, hg, hf e _ _ _ w h2 hfr, g1, hs, Sem.run_pure]
       · refine ⟨_, _, rfl, ?_⟩
         rw [Array.toList_push]
         exact ⟨q2.snoc h2 h3, qb.snoc _ _⟩
     | some p =>
      obtain ⟨j, v⟩ := p
      simp only
      refine OSnd.skip fun N D e w a hr ha => ?_
      have h1 := hx N D e en a H w hr ha
      have h2 := hy N D e en a H w hr ha
      have h3 := hz N D e en a H w hr ha
      rw [hxe] at h1
      generalize hxv : a.eval x = xv at h1
      cases h1
      rename_i i hi
      obtain ⟨es', ck, q1, q2, qb⟩ := hr.obj r0 i _ hi hb
      obtain ⟨r', g1, g2⟩ := findKey_run hc hd h2 w q2 hr0
      cases r' with
      | none => exact g2.elim
      | some p' =>
       obtain ⟨j', u'⟩ := p'
       obtain ⟨rfl, hvu⟩ := g2
       obtain ⟨pp, c1, c2, c3⟩ := findA_lt hr0
       obtain ⟨m, m1, m2, m3⟩ := q2.get c1
       obtain ⟨hsame, _⟩ := hc e _ _ _ _ true h2 m2 c3
       obtain ⟨_, hbits⟩ := hsame rfl
       simp only [Nat.sub_zero, Array.getElem?_toList] at m1
       refine ⟨e, { w with heap := w.heap.setIfInBounds i.blk (.map (es'.modify j fun en => { en with key := a.eval y, val := a.eval z }) ck) }, ?_, Evo.change hr hi (.inr ⟨es, hb⟩) _ (.map (es'.modify j fun en => { en with key := a.eval y, val := a.eval z }) ck) rfl rfl rfl rfl ?_⟩
       · rcases ho with ho | ho <;>
         · have hg : (getObj i.blk).run P w = .ok (.map es' ck) w := by simp [getObj, Sem.run, q1]
           have hs := run_setObjM P w i.blk (.map (es'.modify j fun en => { en with key := a.eval y, val := a.eval z }) ck) q1
           simp only [execOp, ho, Sem.run_bind, Instr.mapUpdate, run_underlying ht, Result.andThen_ok, hxv, hg, hf e _ _ _ w h2 hfr, g1, hs, m1, Option.map_some, Option.getD_some, Instr.keyThatStays, hbits, if_true, Sem.run_pure]
       · refine ⟨_, _, rfl, ?_⟩
         have : (es'.modify j fun en => { en with key := a.eval y, val := a.eval z }).toList = es'.toList.set j { m with key := a.eval y, val := a.eval z } := by
          apply List.ext_getElem?
          intro k
          rw [Array.getElem?_toList, Array.getElem?_modify, List.getElem?_set]
          by_cases hjk : j = k
          · subst hjk
            have hlt : j < es'.toList.length := by
             have := (Array.getElem?_eq_some_iff.1 m1).1; simpa using this
            simp [m1]
            simpa using hlt
          · simp [hjk]
         rw [this]
         exact ⟨q2.set j h2 h3, qb.set (by simpa using m1) _ _⟩
    | _ => trivial
  | _ => trivial
 | _ => trivial
end
end Go.Ab
namespace Go.Ab
open Go
noncomputable section
def FreeAt (P : Program) (D : Nat) (t : TypeId) (n : Nat) : Prop :=
 ∀ (b : Bool) (xs : List Value) (w : World), xs.length = n →
  (aggOf P t = some (some n) ∧ (Instr.checkKey b D t (.agg xs.toArray)).run P w = .ok () w) ∨
  (aggOf P t = some none ∧ n = 1 ∧ ∃ x, xs = [x] ∧ (Instr.checkKey b D t x).run P w = .ok () w)
theorem run_part_agg {P : Program} {t : TypeId} {n : Nat} (h : aggOf P t = some (some n)) (px xs : List Value) (w : World) : (part t (px ++ xs).toArray px.length).run P w = .ok (.agg (xs.take n).toArray) w := by
 obtain ⟨t1, t2⟩ := run_isAgg_some h w
 simp only [part, Sem.run_bind, t1, t2, Result.andThen_ok, if_true, Sem.run_pure]
 congr 2
 apply Array.ext'
 simp [List.extract_eq_take_drop]
theorem run_part_one {P : Program} {t : TypeId} (h : aggOf P t = some none) (px xs : List Value) (x : Value) (w : World) : (part t (px ++ x :: xs).toArray px.length).run P w = .ok x w := by
 have t1 := run_isAgg_none h w
 have ex : (px ++ x :: xs).toArray[px.length]? = some x := by
  simp only [List.getElem?_toArray]
  rw [List.getElem?_append_right (Nat.le_refl _), Nat.sub_self]; rfl
 simp only [part, Sem.run_bind, t1, Result.andThen_ok, Bool.false_eq_true, if_false, ex, Sem.run_pure]
theorem forIn_run {P : Program} {α : Type} (w : World) (g : α → PUnit → Sem (ForInStep PUnit)) : ∀ (l : List α), (∀ a ∈ l, (g a ⟨⟩).run P w = .ok (.yield ⟨⟩) w) → (forIn l PUnit.unit g).run P w = .ok ⟨⟩ w
 | [], _ => by simp
 | a :: l, h => by
  rw [List.forIn_cons]
  simp only [Sem.run_bind, h a (by simp), Result.andThen_ok]
  exact forIn_run w g l fun b hb => h b (List.mem_cons_of_mem _ hb)
theorem freeFields {P : Program} {D : Nat} {f : TypeId → Option (List Nat)} (hf : ∀ t ks, f t = some ks → FreeAt P D t ks.length) (b : Bool) (w : World) : ∀ (fs : List Field) (off : Nat) (ks : List Nat), flatFields f fs off = some ks →
  ∀ (px xs : List Value), px.length = off → xs.length = ks.length → ∀ g ∈ fs, ∃ u, (part g.type (px ++ xs).toArray g.offset).run P w = .ok u w ∧ (Instr.checkKey b D g.type u).run P w = .ok () w
 | [], off, ks, h, px, xs, hpx, hxs, g, hg => by cases hg
 | g0 :: fs, off, ks, h, px, xs, hpx, hxs, g, hg => by
  simp only [flatFields] at h
  split at h
  · rename_i hg0
    cases hk : f g0.type with
    | none => rw [hk] at h; cases h
    | some k1 =>
     rw [hk] at h
     simp only [Option.bind_some] at h
     cases hr : flatFields f fs (off + k1.length) with
     | none => rw [hr] at h; cases h
     | some k2 =>
      rw [hr] at h
      cases h
      simp only [List.length_append] at hxs
      rcases List.mem_cons.1 hg with rfl | hg
      · have := hf g.type k1 hk b (xs.take k1.length) w (by simp; omega)
        rw [hg0.2, ← hpx]
        rcases this with ⟨ha, hq⟩ | ⟨ha, hlen, x, hxx, hq⟩
        · exact ⟨_, run_part_agg ha px xs w, hq⟩
        · cases xs with
          | nil => simp at hxx
          | cons q xs =>
           rw [hlen] at hxx
           simp at hxx
           subst hxx
           exact ⟨_, run_part_one ha px xs q w, hq⟩
      · have ih := freeFields hf b w fs (off + k1.length) k2 hr (px ++ xs.take k1.length) (xs.drop k1.length) (by simp; omega) (by simp; omega) g hg
        simpa only [List.append_assoc, List.take_append_drop] using ih
  · cases h
theorem freeElems {P : Program} {D : Nat} {t : TypeId} {k : List Nat} (hf : FreeAt P D t k.length) (b : Bool) (w : World) : ∀ (n off : Nat) (px xs : List Value), px.length = off * k.length → xs.length = n * k.length → ∀ i, off ≤ i → i < off + n →
  ∃ u, (part t (px ++ xs).toArray (i * k.length)).run P w = .ok u w ∧ (Instr.checkKey b D t u).run P w = .ok () w
 | 0, off, px, xs, hpx, hxs, i, h1, h2 => by omega
 | n + 1, off, px, xs, hpx, hxs, i, h1, h2 => by
  rw [Nat.add_mul, Nat.one_mul] at hxs
  by_cases hi : i = off
  · subst hi
    have := hf b (xs.take k.length) w (by rw [List.length_take]; omega)
    rw [← hpx]
    rcases this with ⟨ha, hq⟩ | ⟨ha, hlen, x, hxx, hq⟩
    · exact ⟨_, part_at w px xs _ (.inl ⟨ha, rfl⟩), hq⟩
    · refine ⟨x, part_at (k1 := 0) w px xs _ (.inr ⟨ha, ?_⟩), hq⟩
      cases xs with
      | nil => simp at hxx
      | cons q xs => rw [hlen] at hxx; simp at hxx; subst hxx; exact ⟨_, rfl⟩
  · have ih := freeElems hf b w n (off + 1) (px ++ xs.take k.length) (xs.drop k.length) (by rw [List.length_append, List.length_take, hpx, Nat.min_eq_left (by omega), Nat.add_mul, Nat.one_mul]) (by rw [List.length_drop]; omega) i (by omega) (by omega)
    simpa only [List.append_assoc, List.take_append_drop] using ih
theorem free_flat {P : Program} : ∀ (d D : Nat) (t : TypeId) (ks : List Nat), flatOf P d t = some ks → FreeAt P (D + d) t ks.length
 | 0, _, _, _, h => by cases h
 | d + 1, D, t, ks, h => by
  intro b xs w hxs
  unfold flatOf at h
  have hagg : ∀ dd, P.underlying t = some dd → (∀ fs, dd ≠ .struct fs) → (∀ n e, dd ≠ .array n e) → aggOf P t = some none := by
   intro dd hd h1 h2
   unfold aggOf
   rw [hd]
   cases dd <;> simp_all
  have plain : ∀ dd, P.underlying t = some dd → (∀ ms, dd ≠ .interface ms) → (∀ n e, dd ≠ .array n e) → (∀ fs, dd ≠ .struct fs) → ks.length = 1 → aggOf P t = some none →
    (aggOf P t = some (some ks.length) ∧ (Instr.checkKey b (D + (d + 1)) t (.agg xs.toArray)).run P w = .ok () w) ∨ (aggOf P t = some none ∧ ks.length = 1 ∧ ∃ x, xs = [x] ∧ (Instr.checkKey b (D + (d + 1)) t x).run P w = .ok () w) := by
   intro dd hd h1 h2 h3 hl ha
   rw [hl] at hxs
   match xs, hxs with
   | [x], _ =>
    refine .inr ⟨ha, hl, x, rfl, ?_⟩
    rw [show D + (d + 1) = (D + d) + 1 by omega]
    simp only [Instr.checkKey, Sem.run_bind, run_underlying hd, Result.andThen_ok]
    cases dd <;> simp_all
  cases hu : P.underlying t with
  | none => rw [hu] at h; cases h
  | some dd =>
   rw [hu] at h
   cases dd with
   | int K => cases h; exact plain _ hu (by simp) (by simp) (by simp) rfl (hagg _ hu (by simp) (by simp))
   | bool => cases h; exact plain _ hu (by simp) (by simp) (by simp) rfl (hagg _ hu (by simp) (by simp))
   | string => cases h; exact plain _ hu (by simp) (by simp) (by simp) rfl (hagg _ hu (by simp) (by simp))
   | struct fs =>
    simp only at h
    split at h
    · cases h
    · cases hff : flatFields (flatOf P d) fs.toList 0 with
      | none => rw [hff] at h; cases h
      | some ks' =>
       rw [hff] at h
       simp only [Option.bind_some] at h
       split at h
       · rename_i hsz
         cases h
         have hag : aggOf P t = some (some ks.length) := by
          unfold aggOf
          rw [hu]
          simp only
          unfold szOf at hsz
          simpa using hsz
         refine .inl ⟨hag, ?_⟩
         have hfr := freeFields (P := P) (D := D + d) (fun t ks h => free_flat d D t ks h) b w fs.toList 0 ks hff [] xs rfl hxs
         rw [show D + (d + 1) = (D + d) + 1 by omega]
         simp only [Instr.checkKey, Sem.run_bind, run_underlying hu, Result.andThen_ok]
         rw [← Array.forIn_toList]
         refine (congrArg (fun r => Result.andThen r fun a w' => Sem.run P (pure ()) w') (forIn_run (P := P) w _ fs.toList fun g hg => ?_)).trans rfl
         obtain ⟨u, q1, q2⟩ := hfr g hg
         simp only [List.nil_append] at q1
         by_cases hn : g.name = "_"
         · simp [hn]
         · simp [hn, q1, q2]
       · cases h
   | array n el =>
    simp only at h
    cases hk : flatOf P d el with
    | none => rw [hk] at h; cases h
    | some k =>
     rw [hk] at h
     simp only [Option.bind_some] at h
     split at h
     · rename_i hsz
       cases h
       have hag : aggOf P t = some (some (rep n k).length) := by
        unfold aggOf
        rw [hu]
        simp only
        have := hsz.2
        unfold szOf at this
        simpa using this
       refine .inl ⟨hag, ?_⟩
       rw [rep_length] at hxs
       have hfr := freeElems (free_flat d D el k hk) b w n 0 [] xs (by simp) hxs
       rw [show D + (d + 1) = (D + d) + 1 by omega]
       simp only [Instr.checkKey, Sem.run_bind, run_underlying hu, Result.andThen_ok, Std.Legacy.Range.forIn_eq_forIn_range', Std.Legacy.Range.size, Nat.sub_zero, Nat.add_sub_cancel, Nat.div_one]
       refine (congrArg (fun r => Result.andThen r fun a w' => Sem.run P (pure ()) w') (forIn_run (P := P) w _ (List.range' 0 n) fun i hi => ?_)).trans rfl
       have hi' := List.mem_range'.1 hi
       obtain ⟨j, hj, rfl⟩ := hi'
       obtain ⟨u, q1, q2⟩ := hfr (0 + 1 * j) (by omega) (by omega)
       simp only [List.nil_append] at q1
       simp only [Sem.run_bind, run_sizeOf hsz.1, Result.andThen_ok, q1, q2, Sem.run_pure]
     · cases h
   | _ => cases h
def aggLen (n : Nat) (v : AV) : Bool := avX false (axAgg false (fun l => Nat.beq l.length n)) v
theorem keyFree_cells {P : Program} {kt : TypeId} {d : Nat} {ks : List Nat} (h : flatOf P d kt = some ks) (hag : aggOf P kt ≠ some none) (hd : d ≤ 10000) : KeyFree P kt (aggLen ks.length) := by
 intro e x x' b w hx hk
 cases x with
 | x u =>
  cases u with
  | agg l =>
   have hl : l.length = ks.length := Nat.eq_of_beq_eq_true hk
   cases hx with
   | agg _ xs hxs =>
   have := free_flat d (10000 - d) kt ks h b xs w (by rw [← hxs.length, hl])
   rw [show 10000 - d + d = 10000 by omega] at this
   rcases this with ⟨_, q⟩ | ⟨q, _⟩
   · exact q
   · exact absurd q hag
  | _ => cases hk
 | _ => cases hk
end
end Go.Ab
namespace Go.Ab
open Go
noncomputable section
variable {S : BT Nat}
def opMapEntry (cmp : AV → AV → Option Bool) (free : AV → Bool) (Z : AV) (x y : Env → AV) (en : Env) (H : AHeap) : ORes :=
 avX .fail (fun u => AX.casesOn (motive_1 := fun _ => ORes) u .fail .fail .fail .fail .fail .fail (fun r => blkM .fail (fun es => bif' .fail (bif' .fail (optM .fail (fun q =>
   Option.rec (motive := fun _ => ORes) (.v (.x (.tup [Z, .i 3 es.length])) (H.upd r (.m (es ++ [(y en, Z)])))) (fun p => .v (.x (.tup [p.2, .i 3 p.1])) (H.upd r (.m (es.set p.1 (y en, p.2))))) q) (findA cmp (y en) es 0)) (free (y en))) (Nat.ble es.length 1000000)) (H.get r))
  (fun _ _ _ => .fail) (fun _ _ => .fail) (fun _ => .fail) (fun _ => .fail) (fun _ => .fail) (fun _ _ => .fail) (fun _ _ _ => .fail) (fun _ _ _ => .fail)) (x en)
theorem goInt_small {n : Nat} (h : n ≤ 1000000) : goInt (n : Int) = .int (kindOf 3) ((kindOf 3).wrap (n : Int)) := by
 have : (kindOf 3).wrap (n : Int) = n := wrap_pos 3 n 9223372036854775808 (by decide) (by decide) (by omega)
 rw [this]; rfl
theorem findA_at {cmp : AV → AV → Option Bool} {k : AV} : ∀ {es : List (AV × AV)} {i j : Nat} {v : AV}, findA cmp k es i = some (some (j, v)) → ∃ p, es[j - i]? = some p ∧ i ≤ j ∧ p.2 = v
 | [], i, j, v, h => by cases h
 | p :: es, i, j, v, h => by
  obtain ⟨b, h1, h2⟩ := findA_cons h
  rcases h2 with ⟨rfl, h2⟩ | ⟨rfl, h2⟩
  · cases h2; exact ⟨p, by simp, Nat.le_refl _, rfl⟩
  · obtain ⟨q, g1, g2, g3⟩ := findA_at h2
    refine ⟨q, ?_, by omega, g3⟩
    rw [show j - i = (j - (i + 1)) + 1 by omega]
    simpa using g1
theorem opMapEntry_snd {P : Program} {o : Oper} {t kt el : TypeId} {x y : Operand} {x' y' : Env → AV} {cmp : AV → AV → Option Bool} {free : AV → Bool} {Z : AV} {zv : Value} (ho : o.op = .mapEntry t x y) (ht : P.underlying t = some (.map kt el)) (hk : ∃ d, P.underlying kt = some d)
  (hc : CmpOk P kt cmp) (hf : KeyFree P kt free) (hz : zeroOf P el = some zv) (hZ : ∀ e, VRel e Z zv) (hx : OpndOk P S x x') (hy : OpndOk P S y y') (en : Env) (H : AHeap) : OSnd P S o en H (opMapEntry cmp free Z x' y' en H) := by
 unfold opMapEntry
 obtain ⟨d, hd⟩ := hk
 cases hxe : x' en with
 | x u =>
  cases u with
  | m r0 =>
   simp only [avX]
   cases hb : H.get r0 with
   | none => trivial
   | some yy =>
    cases yy with
    | m es =>
     simp only [blkM]
     cases hsm : Nat.ble es.length 1000000 with
     | false => trivial
     | true =>
     have hsm' : es.length ≤ 1000000 := Nat.le_of_ble_eq_true hsm
     simp only [bif']
     cases hfr : free (y' en) with
     | false => trivial
     | true =>
     simp only
     cases hr0 : findA cmp (y' en) es 0 with
     | none => trivial
     | some q =>
     simp only [optM]
     cases q with
     | none =>
      simp only
      refine OSnd.value fun N D e w a hr ha => ?_
      have h1 := hx N D e en a H w hr ha
      have h2 := hy N D e en a H w hr ha
      rw [hxe] at h1
      generalize hxv : a.eval x = xv at h1
      cases h1
      rename_i i hi
      obtain ⟨es', ck, q1, q2, qb⟩ := hr.obj r0 i _ hi hb
      obtain ⟨r', g1, g2⟩ := findKey_run hc hd h2 w q2 hr0
      have hlen : es.length = ck := by rw [q2.length, qb.2]
      cases r' with
      | some p => exact g2.elim
      | none =>
       refine ⟨e, .tuple #[zv, goInt ck], { w with heap := w.heap.setIfInBounds i.blk (.map (es'.push { key := a.eval y, val := zv, born := ck }) (ck + 1)) }, ?_, ?_, Evo.change hr hi (.inr ⟨es, hb⟩) _ (.map (es'.push { key := a.eval y, val := zv, born := ck }) (ck + 1)) rfl rfl rfl rfl ?_⟩
       · have hg : (getObj i.blk).run P w = .ok (.map es' ck) w := by simp [getObj, Sem.run, q1]
         have hs := run_setObjM P w i.blk (.map (es'.push { key := a.eval y, val := zv, born := ck }) (ck + 1)) q1
         simp only [execOp, ho, Sem.run_bind, Instr.mapEntry, run_underlying ht, Result.andThen_ok, hxv, hg, hf e _ _ _ w h2 hfr, g1, run_zeroOf hz, hs, Sem.run_pure]
       · rw [← hlen, goInt_small hsm']
         exact .tup [Z, .i 3 es.length] [zv, _] (.cons (hZ e) (.cons (.i 3 _ (by decide) (by show es.length < 2 ^ 64; omega)) .nil))
       · refine ⟨_, _, rfl, ?_⟩
         rw [Array.toList_push]
         exact ⟨q2.snoc h2 (hZ e), qb.snoc _ _⟩
     | some p =>
      obtain ⟨j, v⟩ := p
      simp only
      refine OSnd.value fun N D e w a hr ha => ?_
      have h1 := hx N D e en a H w hr ha
      have h2 := hy N D e en a H w hr ha
      rw [hxe] at h1
      generalize hxv : a.eval x = xv at h1
      cases h1
      rename_i i hi
      obtain ⟨es', ck, q1, q2, qb⟩ := hr.obj r0 i _ hi hb
      obtain ⟨r', g1, g2⟩ := findKey_run hc hd h2 w q2 hr0
      cases r' with
      | none => exact g2.elim
      | some p' =>
       obtain ⟨j', u'⟩ := p'
       obtain ⟨rfl, hvu⟩ := g2
       obtain ⟨pp, c1, c2, c3⟩ := findA_lt hr0
       obtain ⟨m, m1, m2, m3⟩ := q2.get c1
       obtain ⟨hsame, _⟩ := hc e _ _ _ _ true h2 m2 c3
       obtain ⟨_, hbits⟩ := hsame rfl
       simp only [Nat.sub_zero, Array.getElem?_toList] at m1
       have hj : j < es.length := by
        have := (List.getElem?_eq_some_iff.1 c1).1; omega
       have hborn := qb.at (j := j) (m := m) (by rw [Array.getElem?_toList]; exact m1)
       have hval : VRel e v m.val := by
        obtain ⟨p2, k1, _, k3⟩ := findA_at hr0
        rw [c1] at k1
        cases k1
        rw [← k3]; exact m3
       refine ⟨e, .tuple #[u', goInt m.born], { w with heap := w.heap.setIfInBounds i.blk (.map (es'.modify j fun en => { en with key := a.eval y }) ck) }, ?_, ?_, Evo.change hr hi (.inr ⟨es, hb⟩) _ (.map (es'.modify j fun en => { en with key := a.eval y }) ck) rfl rfl rfl rfl ?_⟩
       · have hg : (getObj i.blk).run P w = .ok (.map es' ck) w := by simp [getObj, Sem.run, q1]
         have hs := run_setObjM P w i.blk (.map (es'.modify j fun en => { en with key := a.eval y }) ck) q1
         simp only [execOp, ho, Sem.run_bind, Instr.mapEntry, run_underlying ht, Result.andThen_ok, hxv, hg, hf e _ _ _ w h2 hfr, g1, hs, m1, Option.map_some, Option.getD_some, Instr.keyThatStays, hbits, if_true, Sem.run_pure]
       · rw [hborn, goInt_small (by omega)]
         exact .tup [v, .i 3 j] [u', _] (.cons hvu (.cons (.i 3 _ (by decide) (by show j < 2 ^ 64; omega)) .nil))
       · refine ⟨_, _, rfl, ?_⟩
         have : (es'.modify j fun en => { en with key := a.eval y }).toList = es'.toList.set j { m with key := a.eval y, val := m.val } := by
          apply List.ext_getElem?
          intro k
          rw [Array.getElem?_toList, Array.getElem?_modify, List.getElem?_set]
          by_cases hjk : j = k
          · subst hjk
            have hlt : j < es'.toList.length := by
             have := (Array.getElem?_eq_some_iff.1 m1).1; simpa using this
            simp [m1]
            simpa using hlt
          · simp [hjk]
         rw [this]
         exact ⟨q2.set j h2 hval, qb.set (by simpa using m1) _ _⟩
    | _ => trivial
  | _ => trivial
 | _ => trivial
def getP (l : List (AV × AV)) (k : Nat) : Option (AV × AV) := List.rec (motive := fun _ => Nat → Option (AV × AV)) (fun _ => none) (fun p _ ih k => Nat.rec (motive := fun _ => Option (AV × AV)) (some p) (fun j _ => ih j) k) l k
theorem getP_eq : ∀ (l : List (AV × AV)) (k : Nat), getP l k = l[k]?
 | [], k => by simp [getP]
 | p :: l, 0 => by show some p = _; simp
 | p :: l, k + 1 => by
  show getP l k = _
  rw [getP_eq l k]; simp
def opEntryStore (x s z : Env → AV) (en : Env) (H : AHeap) : ORes :=
 avX .fail (fun u => AX.casesOn (motive_1 := fun _ => ORes) u .fail .fail .fail .fail .fail .fail (fun r => blkM .fail (fun es => avI .fail (fun k n => bif' .fail (bif' .fail
   (Option.rec (motive := fun _ => ORes) .fail (fun p => .v undefA (H.upd r (.m (es.set n (p.1, z en))))) (getP es n)) (Nat.ble n 1000000)) (Nat.beq k 3)) (s en)) (H.get r))
  (fun _ _ _ => .fail) (fun _ _ => .fail) (fun _ => .fail) (fun _ => .fail) (fun _ => .fail) (fun _ _ => .fail) (fun _ _ _ => .fail) (fun _ _ _ => .fail)) (x en)
theorem findIdx_born {es : Array MapEntry} {ck : Nat} (hb : BornOk es.toList ck) {n : Nat} {m : MapEntry} (hm : es[n]? = some m) : es.findIdx? (fun e => (e.born : Int) == (n : Int)) = some n := by
 rw [Array.findIdx?_eq_some_iff_getElem]
 obtain ⟨hlt, hme⟩ := Array.getElem?_eq_some_iff.1 hm
 refine ⟨hlt, ?_, fun j hj => ?_⟩
 · have := hb.at (j := n) (m := m) (by rw [Array.getElem?_toList]; exact hm)
   rw [hme, this]; simp
 · have hjl : j < es.size := by omega
   have := hb.at (j := j) (m := es[j]) (by rw [Array.getElem?_toList, Array.getElem?_eq_getElem hjl])
   rw [this]
   simp; omega
theorem opEntryStore_snd {P : Program} {o : Oper} {t : TypeId} {x s z : Operand} {x' s' z' : Env → AV} (ho : o.op = .entryStore t x s z) (hx : OpndOk P S x x') (hs : OpndOk P S s s') (hz : OpndOk P S z z') (en : Env) (H : AHeap) : OSnd P S o en H (opEntryStore x' s' z' en H) := by
 unfold opEntryStore
 cases hxe : x' en with
 | x u =>
  cases u with
  | m r0 =>
   simp only [avX]
   cases hb : H.get r0 with
   | none => trivial
   | some yy =>
    cases yy with
    | m es =>
     simp only [blkM]
     cases hse : s' en with
     | i k n =>
      simp only [avI]
      cases hk : Nat.beq k 3 with
      | false => trivial
      | true =>
      have := Nat.eq_of_beq_eq_true hk
      subst this
      simp only [bif']
      cases hsm : Nat.ble n 1000000 with
      | false => trivial
      | true =>
      have hsm' : n ≤ 1000000 := Nat.le_of_ble_eq_true hsm
      simp only
      cases hp : getP es n with
      | none => trivial
      | some p =>
      simp only
      refine OSnd.skip fun N D e w a hr ha => ?_
      have h1 := hx N D e en a H w hr ha
      have h2 := hs N D e en a H w hr ha
      have h3 := hz N D e en a H w hr ha
      rw [hxe] at h1
      rw [hse] at h2
      generalize hxv : a.eval x = xv at h1
      generalize hsv : a.eval s = sv at h2
      cases h1
      rename_i i hi
      cases h2
      rw [← goInt_small hsm'] at hsv
      obtain ⟨es', ck, q1, q2, qb⟩ := hr.obj r0 i _ hi hb
      rw [getP_eq] at hp
      obtain ⟨m, m1, m2, m3⟩ := q2.get hp
      rw [Array.getElem?_toList] at m1
      have hfi := findIdx_born qb m1
      refine ⟨e, { w with heap := w.heap.setIfInBounds i.blk (.map (es'.modify n fun en => { en with val := a.eval z }) ck) }, ?_, Evo.change hr hi (.inr ⟨es, hb⟩) _ (.map (es'.modify n fun en => { en with val := a.eval z }) ck) rfl rfl rfl rfl ?_⟩
      · have hg : (getObj i.blk).run P w = .ok (.map es' ck) w := by simp [getObj, Sem.run, q1]
        have hst := run_setObjM P w i.blk (.map (es'.modify n fun en => { en with val := a.eval z }) ck) q1
        simp only [execOp, ho, Sem.run_bind, Instr.entryStore, Result.andThen_ok, hxv, hsv, goInt, asInt, asIntOf, hg, hfi, hst, Sem.run_pure]
      · refine ⟨_, _, rfl, ?_⟩
        have : (es'.modify n fun en => { en with val := a.eval z }).toList = es'.toList.set n { m with key := m.key, val := a.eval z } := by
         apply List.ext_getElem?
         intro k
         rw [Array.getElem?_toList, Array.getElem?_modify, List.getElem?_set]
         by_cases hjk : n = k
         · subst hjk
           have hlt : n < es'.toList.length := by
            have := (Array.getElem?_eq_some_iff.1 m1).1; simpa using this
           simp [m1]
           simpa using hlt
         · simp [hjk]
        rw [this]
        exact ⟨q2.set n m2 h3, qb.set (by simpa using m1) _ _⟩
     | _ => trivial
    | _ => trivial
  | _ => trivial
 | _ => trivial
end
end Go.Ab
namespace Go.Ab
open Go
noncomputable section
variable {S : BT Nat}
def packB (l : List AV) : Option (Nat × Nat) :=
 List.rec (motive := fun _ => Option (Nat × Nat)) (some (0, 0)) (fun v _ ih => Option.rec (motive := fun _ => Option (Nat × Nat)) none (fun p => avI none (fun k c => bif' none (some (Nat.add p.1 1, Nat.add c (Nat.mul 256 p.2))) (Nat.beq k 4)) v) ih) l
theorem packB_cons {v : AV} {l : List AV} {p : Nat × Nat} (h : packB (v :: l) = some p) : ∃ q c, packB l = some q ∧ v = .i 4 c ∧ p = (q.1 + 1, c + 256 * q.2) := by
 have h' : Option.rec (motive := fun _ => Option (Nat × Nat)) none (fun p => avI none (fun k c => bif' none (some (Nat.add p.1 1, Nat.add c (Nat.mul 256 p.2))) (Nat.beq k 4)) v) (packB l) = some p := h
 cases hq : packB l with
 | none => rw [hq] at h'; cases h'
 | some q =>
  rw [hq] at h'
  cases v with
  | i k c =>
   simp only [avI, bif'] at h'
   cases hk : Nat.beq k 4 with
   | false => rw [hk] at h'; cases h'
   | true =>
    rw [hk] at h'
    cases h'
    exact ⟨q, c, rfl, by rw [Nat.eq_of_beq_eq_true hk], rfl⟩
  | _ => cases h'
theorem packB_spec {e : Emb} : ∀ {l : List AV} {l' : List Value} {n c : Nat}, packB l = some (n, c) → VRels e l l' → c < 256 ^ n ∧ l' = (bytesOf n c).map fun b => .int .u8 (b.toNat : Int)
 | [], _, n, c, h, .nil => by cases h; exact ⟨by simp, rfl⟩
 | v :: l, _, n, c, h, .cons hv ht => by
  obtain ⟨q, d, h1, rfl, h2⟩ := packB_cons h
  obtain ⟨m, k⟩ := q
  cases h2
  obtain ⟨g1, g2⟩ := packB_spec h1 ht
  cases hv with
  | i _ _ hk hn =>
  have hd : d < 256 := hn
  simp only
  refine ⟨by rw [Nat.pow_succ]; omega, ?_⟩
  have e1 : (d + 256 * k) % 256 = d := by omega
  have e2 : (d + 256 * k) / 256 = k := by omega
  simp only [bytesOf, e1, e2, List.map_cons, ← g2]
  congr 1
theorem forIn_push {P : Program} (w : World) : ∀ (bs : List UInt8) (s : ByteArray),
  (forIn (bs.map fun b => Value.int .u8 (b.toNat : Int)) s (fun c s => match c with | .int .u8 n => pure (ForInStep.yield (s.push (UInt8.ofNat n.toNat))) | _ => do stuck "bytesToString: byte expected"; pure (ForInStep.yield s) : Value → ByteArray → Sem (ForInStep ByteArray))).run P w = .ok ⟨(s.data.toList ++ bs).toArray⟩ w
 | [], s => by simp
 | b :: bs, s => by
  rw [List.map_cons, List.forIn_cons]
  simp only [Sem.run_bind, Sem.run_pure, Result.andThen_ok]
  rw [forIn_push w bs]
  congr 2
  apply congrArg
  simp [ByteArray.push]
def opB2S (x : Env → AV) (en : Env) (H : AHeap) : ORes :=
 Option.rec (motive := fun _ => ORes) .fail (fun p => Option.rec (motive := fun _ => ORes) .fail (fun q => .v (.s q.1 q.2) H) (packB p.2)) (readS 1 H (x en))
theorem opB2S_snd {P : Program} {o : Oper} {t t' el : TypeId} {x : Operand} {x' : Env → AV} (ho : o.op = .convert t t' x) (ht : P.underlying t = some (.slice el)) (hel : P.underlying el = some (.int .u8)) (ht' : P.underlying t' = some .string) (hx : OpndOk P S x x') (en : Env) (H : AHeap) :
  OSnd P S o en H (opB2S x' en H) := by
 unfold opB2S
 cases hp : readS 1 H (x' en) with
 | none => trivial
 | some p =>
  obtain ⟨n, l⟩ := p
  simp only
  cases hq : packB l with
  | none => trivial
  | some q =>
   obtain ⟨m, c⟩ := q
   simp only
   refine OSnd.pure fun N D e w a hr ha => ?_
   have h1 := hx N D e en a H w hr ha
   obtain ⟨base, cap', hv, l', hlen, hrel, hcase⟩ := readS_spec hp hr h1
   obtain ⟨g1, g2⟩ := packB_spec hq hrel
   refine ⟨.string ⟨(bytesOf m c).toArray⟩, ?_, .s m c g1⟩
   have hexec : (execOp a.eval o).run P w = ((Conv.bytesToString (a.eval x)).run P w).andThen (fun v w' => .ok (.value v) w') := by
    simp only [execOp, ho, Sem.run_bind, convert, run_underlying ht, run_underlying ht', Result.andThen_ok, hv, run_underlying hel]
    cases base <;> simp
   rw [hexec, hv]
   cases base with
   | none =>
    rcases hcase with ⟨h0, h2, _⟩ | ⟨b, hb, _⟩
    · subst h2
      cases hq
      simp only [Conv.bytesToString, Sem.run_pure, Result.andThen_ok]
      rfl
    · cases hb
   | some b =>
    have hcell : ∀ j u, l'[j]? = some u → w.cell? (b.add j) = some u := by
     rcases hcase with ⟨h0, h2, _⟩ | ⟨b', hb, hc⟩
     · have : l' = [] := by rw [h0] at hlen; simpa using hlen
       intro j u hj; rw [this] at hj; simp at hj
     · cases hb; exact hc
    have hrun := run_loadCells_list (P := P) w b l' hcell
    rw [show l'.length = n by rw [hlen]; omega] at hrun
    simp only [Conv.bytesToString, Sem.run_bind, hrun, Result.andThen_ok]
    rw [← Array.forIn_toList]
    have := forIn_push (P := P) w (bytesOf m c) ByteArray.empty
    rw [← g2] at this
    refine (congrArg (fun r => Result.andThen (Result.andThen r fun a w' => Sem.run P (pure (Value.string a)) w') fun v w' => Result.ok (Next.value v) w') this).trans ?_
    simp
def bytesA (n : Nat) : Nat → List AV := Nat.rec (motive := fun _ => Nat → List AV) (fun _ => []) (fun _ ih c => .i 4 (Nat.mod c 256) :: ih (Nat.div c 256)) n
theorem bytesA_rel (e : Emb) : ∀ (n c : Nat), VRels e (bytesA n c) ((bytesOf n c).map fun b => Value.int .u8 b.toNat)
 | 0, _ => .nil
 | n + 1, c => by
  show VRels e (.i 4 (c % 256) :: bytesA n (c / 256)) ((bytesOf (n + 1) c).map fun b => Value.int .u8 b.toNat)
  rw [bytesOf, List.map_cons]
  refine .cons ?_ (bytesA_rel e n (c / 256))
  have hlt : c % 256 < 256 := Nat.mod_lt _ (by omega)
  have h := VRel.i (e := e) 4 (c % 256) (by omega) (by exact hlt)
  have hw : (kindOf 4).wrap ((c % 256 : Nat) : Int) = ((UInt8.ofNat (c % 256)).toNat : Int) := by
   show (IntKind.u8).wrap ((c % 256 : Nat) : Int) = _
   have : (UInt8.ofNat (c % 256)).toNat = c % 256 := by simp
   rw [this]
   simp [IntKind.wrap, IntKind.bits, IntKind.signed]
  rw [hw] at h
  exact h
def opS2B (x : Env → AV) (en : Env) (H : AHeap) : ORes :=
 avS .fail (fun l c => .v (.sl H.nxt 0 l l) (H.alloc (.c l (BT.ofList (bytesA l c)) false 1))) (x en)
theorem opS2B_snd {P : Program} {o : Oper} {t t' el : TypeId} {x : Operand} {x' : Env → AV} (ho : o.op = .convert t t' x) (ht : P.underlying t = some .string) (ht' : P.underlying t' = some (.slice el)) (hel : P.underlying el = some (.int .u8)) (hx : OpndOk P S x x') (en : Env) (H : AHeap) :
  OSnd P S o en H (opS2B x' en H) := by
 unfold opS2B
 cases h : x' en with
 | s l c =>
  refine OSnd.value fun N D e w a hr ha => ?_
  have h1 := hx N D e en a H w hr ha
  rw [h] at h1
  generalize hxv : a.eval x = xv at h1
  cases h1
  have hrun := run_bytes_of_string (P := P) w t t' el ⟨(bytesOf l c).toArray⟩ ht ht' hel
  have hsz : (⟨(bytesOf l c).toArray⟩ : ByteArray).size = l := by simp [ByteArray.size, bytesOf_length]
  rw [hsz] at hrun
  have hcap := grownCap_ge w l 0 el
  generalize grownCap w l 0 el = cap at hrun hcap
  have hrow : bytesRow ⟨(bytesOf l c).toArray⟩ cap = (((bytesOf l c).map fun b => Value.int .u8 b.toNat).toArray ++ Array.replicate (cap - l) (.int .u8 0)) := by
   unfold bytesRow
   rw [hsz]
   simp
  have hl := bytesA_rel e l c
  have hlen := hl.length
  have hbl : ((bytesOf l c).map fun b => Value.int .u8 b.toNat).length = l := by simp [bytesOf_length]
  have h0 : Evo P.globals.size e H w e H w.drew := Evo.drew hr _
  have hrs : (bytesRow ⟨(bytesOf l c).toArray⟩ cap).size = cap := by
   rw [hrow]; simp [bytesOf_length]; omega
  refine ⟨e.put H.nxt ⟨w.heap.size, 0, l, 1, cap⟩, .slice (some ⟨w.heap.size, 0, none⟩) l cap, _, ?_, .sl H.nxt 0 l l cap _ (Emb.put_self _ _ _) (.inr ⟨by simp, by simp, hcap, by simp⟩), h0.trans (Evo.alloc h0.rel _ _ _ rfl ⟨rfl, rfl, by simp; exact hcap, bytesRow ⟨(bytesOf l c).toArray⟩ cap, el, ((bytesRow ⟨(bytesOf l c).toArray⟩ cap).size, (bytesRow ⟨(bytesOf l c).toArray⟩ cap).size + 1), rfl, hrs, (fun h => by cases h), fun k hk => ?_⟩)⟩
  · simp [execOp, ho, hxv, hrun]
  · obtain ⟨v', q1, q2⟩ := hl.get (List.getElem?_eq_getElem (by rw [hlen, hbl]; exact hk))
    refine ⟨_, v', by rw [BT.get_ofList]; exact List.getElem?_eq_getElem (by rw [hlen, hbl]; exact hk), ?_, q2⟩
    simp only [Nat.zero_add]
    rw [hrow, Array.getElem?_append_left (by simp [bytesOf_length]; exact hk)]
    simpa using q1
 | _ => trivial
end
end Go.Ab
