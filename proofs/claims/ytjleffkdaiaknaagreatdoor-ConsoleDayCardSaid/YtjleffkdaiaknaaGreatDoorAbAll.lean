/- A logic over an abstract memory, and that it is sound (9 of 9). -/
import Derived.Lib.IndexEntry
import Derived.Test.YtjleffkdaiaknaaGreatDoorAb8
namespace Go.Ab
open Go
noncomputable section
def mlB : ABlk := .c 1 (.nd .lf (.x (.rg 3 0 18446744073709551615)) .lf) false 0
def IntAt (W : World) (g : Nat) : Prop := ∃ C ty z v, W.heap[g]? = some (.cells C ty z) ∧ C.size = 1 ∧ C[0]? = some v ∧ ∀ e, VRel e (.x (.rg 3 0 18446744073709551615)) v
theorem intAt_of {P : Program} {w : World} {g : Nat} {t : TypeId} {zero : Array Value} (h : w.ShapedOpen P) (hg : g < P.globals.size)
  (h0 : ((begin P (fun _ _ => 0) default).world.heap[g]?).bind Obj.row? = some (zero, t)) (hz : zero.size = 1)
  (hb : P.buildable t = true) (hc : P.cellTypes P.depth t = some [t]) (hu : P.underlying t = some (.int .i64)) : IntAt w g := by
 obtain ⟨cs, hh, hs, hr⟩ := h.1 g zero t hg h0
 obtain ⟨ts, hts, _, hall⟩ := hr hb
 rw [hc] at hts
 cases hts
 have h1 : 0 < cs.size := by omega
 obtain ⟨u, hu', hok⟩ := hall 0 cs[0] (by simp [h1])
 have : u = t := by simpa using hu'.symm
 subst this
 unfold Cell.ok at hok
 rw [hu] at hok
 refine ⟨cs, _, _, cs[0], hh, by omega, by simp [h1], fun e => ?_⟩
 cases hv : cs[0] with
 | int k' n =>
  rw [hv] at hok
  obtain ⟨rfl, hn⟩ := hok
  exact vrel_any e (by simpa [Lit.wf, IntKind.has] using hn)
 | _ => rw [hv] at hok; simp at hok
theorem rel_start2 {P : Program} {W : World} {bs : List ABlk} (hlen : bs.length = P.globals.size) (hW : P.globals.size ≤ W.heap.size)
  (hb : ∀ g x, bs[g]? = some x → (x = .dead ∨ ∃ k ds, x = tabB k ds ∧ TabAt W g k ds) ∨ (x = mlB ∧ IntAt W g)) : Rel P.globals.size (emb0 bs) (heapOf bs) W where
 lt := fun b i h => (emb0_some h).1
 bnd := fun b i h => by
  obtain ⟨h1, rfl⟩ := emb0_some h
  show b < _
  omega
 glob := fun g hg => ⟨_, by unfold emb0; rw [if_pos (by omega)], rfl, rfl⟩
 obj := fun b i x h hg => by
  obtain ⟨h1, rfl⟩ := emb0_some h
  rw [heapOf_get] at hg
  rcases hb b x hg with (rfl | ⟨k, ds, rfl, hk, hds, C, ty, z, hC, rfl⟩) | ⟨rfl, C, ty, z, v, hC, hs, hv, hr⟩
  · trivial
  · have hl : lenOf bs[b]? = ds.length := by rw [hg]; rfl
    rw [hl]
    refine ⟨rfl, rfl, by simp, _, ty, z, hC, by simp, (by intro h; cases h), fun j hj => ?_⟩
    refine ⟨.i k ds[j], .int (kindOf k) ((kindOf k).wrap ((ds[j] : Nat) : Int)), ?_, ?_, .i k _ hk (hds _ (List.getElem_mem hj))⟩
    · rw [BT.get_ofList]; simp [hj]
    · simp [hj]
  · have hl : lenOf bs[b]? = 1 := by rw [hg]; rfl
    rw [hl]
    refine ⟨rfl, rfl, by simp, _, ty, z, hC, hs, (by intro h; cases h), fun j hj => ?_⟩
    have : j = 0 := by omega
    subst this
    exact ⟨_, v, rfl, hv, hr _⟩
 sep := fun b1 i1 b2 i2 h1 h2 hne ho ha => by
  obtain ⟨q1, rfl⟩ := emb0_some h1
  obtain ⟨q2, rfl⟩ := emb0_some h2
  exact hne
def ixGo (m d k : Nat) : Nat → Nat → Option Nat := Nat.rec (motive := fun _ => Nat → Nat → Option Nat) (fun _ _ => none) (fun _ ih i c => Bool.rec (motive := fun _ => Option Nat) (ih (Nat.add i 1) (Nat.div c 256)) (some i) (Nat.beq (Nat.mod c (Nat.pow 256 m)) d)) k
theorem ixGo_succ (m d k i c : Nat) : ixGo m d (k + 1) i c = if c % 256 ^ m = d then some i else ixGo m d k (i + 1) (c / 256) := by
 have h : ixGo m d (k + 1) i c = Bool.rec (motive := fun _ => Option Nat) (ixGo m d k (i + 1) (c / 256)) (some i) (Nat.beq (c % 256 ^ m) d) := rfl
 rw [h, brec]; simp only [beq_tt]
theorem ixGo_spec (m d c0 : Nat) : ∀ (k i : Nat), match ixGo m d k i (c0 / 256 ^ i) with
  | some j => i ≤ j ∧ j < i + k ∧ c0 / 256 ^ j % 256 ^ m = d ∧ ∀ q, i ≤ q → q < j → c0 / 256 ^ q % 256 ^ m ≠ d
  | none => ∀ q, i ≤ q → q < i + k → c0 / 256 ^ q % 256 ^ m ≠ d
 | 0, i => by
  show ∀ q, i ≤ q → q < i + 0 → _
  intro q h1 h2; omega
 | k + 1, i => by
  rw [ixGo_succ]
  by_cases h : c0 / 256 ^ i % 256 ^ m = d
  · rw [if_pos h]
    exact ⟨Nat.le_refl _, by omega, h, fun q h1 h2 => by omega⟩
  · rw [if_neg h, Nat.div_div_eq_div_mul, ← Nat.pow_succ]
    have ih := ixGo_spec m d c0 k (i + 1)
    cases hx : ixGo m d k (i + 1) (c0 / 256 ^ (i + 1)) with
    | some j =>
     rw [hx] at ih
     obtain ⟨a, b, e, g⟩ := ih
     refine ⟨by omega, by omega, e, fun q h1 h2 => ?_⟩
     by_cases hq : q = i
     · subst hq; exact h
     · exact g q (by omega) h2
    | none =>
     rw [hx] at ih
     intro q h1 h2
     by_cases hq : q = i
     · subst hq; exact h
     · exact ih q (by omega) (by omega)
theorem occ_iff {n m c d j : Nat} (hd : d < 256 ^ m) (hj : j + m ≤ n) : Lib.occAt (bytesOf n c) (bytesOf m d) j = true ↔ c / 256 ^ j % 256 ^ m = d := by
 rw [Lib.occAt_iff_take _ _ _ (by rw [bytesOf_length, bytesOf_length]; exact hj), bytesOf_length, bytesOf_drop, bytesOf_take _ _ _ (by omega), beq_iff_eq]
 have hp : 0 < 256 ^ m := Nat.pow_pos (by omega)
 exact ⟨fun h => bytesOf_inj m _ _ (Nat.mod_lt _ hp) hd h, fun h => by rw [h]⟩
def ixV (n c m d : Nat) : Nat := Option.rec (motive := fun _ => Nat) 18446744073709551615 (fun i => i) (ixGo m d (Nat.sub (Nat.add n 1) m) 0 c)
theorem ixV_rel {n c m d : Nat} (hn : n < 4294967281) (hd : d < 256 ^ m) (hm : 1 ≤ m) (e : Emb) : VRel e (.i 3 (ixV n c m d)) (.int .i64 (Lib.index (bytesOf n c) (bytesOf m d))) := by
 have h := ixGo_spec m d c (n + 1 - m) 0
 rw [Nat.pow_zero, Nat.div_one] at h
 unfold ixV
 show VRel e (.i 3 (Option.rec (motive := fun _ => Nat) 18446744073709551615 (fun i => i) (ixGo m d (n + 1 - m) 0 c))) _
 cases hx : ixGo m d (n + 1 - m) 0 c with
 | some j =>
  rw [hx] at h
  obtain ⟨_, h2, h3, h4⟩ := h
  have : Lib.index (bytesOf n c) (bytesOf m d) = j := Lib.index_first (by rw [bytesOf_length]; omega) ((occ_iff hd (by omega)).2 h3) fun q hq => by
   cases ho : Lib.occAt (bytesOf n c) (bytesOf m d) q with
   | false => rfl
   | true => exact absurd ((occ_iff hd (by omega)).1 ho) (h4 q (by omega) hq)
  rw [this]
  exact vrel_int64 e j (by omega)
 | none =>
  rw [hx] at h
  have : Lib.index (bytesOf n c) (bytesOf m d) = -1 := Lib.index_none fun q _ => by
   cases ho : Lib.occAt (bytesOf n c) (bytesOf m d) q with
   | false => rfl
   | true =>
    exfalso
    rcases Lib.occAt_room ho with hr | hr
    · rw [bytesOf_length, bytesOf_length] at hr
      exact h q (by omega) (by omega) ((occ_iff hd hr).1 ho)
    · have := congrArg List.length hr
      rw [bytesOf_length] at this
      simp at this; omega
  rw [this]
  exact vrel_int e 3 (by omega) (-1) 18446744073709551615 (by decide)
def rgC (H : AHeap) (g : Nat) (d : ORes) (f : Nat → BT AV → Bool → Nat → Nat → Nat → ORes) : ORes :=
 blkC d (fun n t wr sp => bif' d (Option.rec (motive := fun _ => ORes) d (fun u => avX d (fun u => AX.casesOn (motive_1 := fun _ => ORes) u d d d d d d (fun _ => d) (fun _ _ _ => d) (fun _ _ => d) (fun _ => d) (fun _ => d) (fun _ => d) (fun _ _ => d) (fun k lo hi => bif' d (f n t wr sp lo hi) (Nat.beq k 3)) (fun _ _ _ => d)) u) (t.get 0)) (Nat.ble 1 n)) (H.get g)
theorem rgC_spec {H : AHeap} {g : Nat} {d : ORes} {f : Nat → BT AV → Bool → Nat → Nat → Nat → ORes} : rgC H g d f = d ∨ ∃ n t wr sp lo hi, H.get g = some (.c n t wr sp) ∧ 1 ≤ n ∧ t.get 0 = some (.x (.rg 3 lo hi)) ∧ rgC H g d f = f n t wr sp lo hi := by
 unfold rgC
 cases hb : H.get g with
 | none => exact .inl rfl
 | some x =>
  cases x with
  | c n t wr sp =>
   simp only [blkC]
   cases hn : Nat.ble 1 n with
   | false => exact .inl rfl
   | true =>
    cases ht : t.get 0 with
    | none => exact .inl rfl
    | some u =>
     cases u with
     | x u =>
      cases u with
      | rg k lo hi =>
       cases hk : Nat.beq k 3 with
       | false => exact .inl (by simp [bif', avX, hk])
       | true =>
        have := Nat.eq_of_beq_eq_true hk
        subst this
        exact .inr ⟨n, t, wr, sp, lo, hi, rfl, Nat.le_of_ble_eq_true hn, ht, by simp [bif', avX]⟩
      | _ => exact .inl rfl
     | _ => exact .inl rfl
  | _ => exact .inl rfl
def pIdxStr (g : Nat) (args : List AV) (H : AHeap) : ORes :=
 List.rec (motive := fun _ => ORes) .fail (fun x r _ => List.rec (motive := fun _ => ORes) .fail (fun y q _ => List.rec (motive := fun _ => ORes)
  (avS .fail (fun n c => avS .fail (fun m d => rgC H g .fail (fun _ _ _ _ lo hi => bif' .fail (bif' .fail (bif' .fail (bif' .fail (.v (.i 3 (ixV n c m d)) H) (Nat.ble (Nat.add n 1) 4294967281)) (Nat.ble (Nat.add hi 1) 9223372036854775808)) (Nat.ble m lo)) (Nat.ble 2 m))) y) x) (fun _ _ _ => .fail) q) r) args
theorem pIdxStr_snd {P : Program} {f : FuncId} {fn : Func} {g : Nat} (hf : P.funcs[f]? = some fn) (hname : (fn.name == "runtime.NumGoroutine") = false) (hb : fn.body.isNone = true) (hn : Extern.findNext fn = none) (he : Extern.find fn = some Extern.BytealgIndex.index)
  (hg : P.globals.findIdx? (·.name == "internal/bytealg.MaxLen") = some g) (hgl : g < P.globals.size) (args : List AV) (H : AHeap) : FSnd P f args H (pIdxStr g args H) := by
 unfold pIdxStr
 cases args with
 | nil => trivial
 | cons x r =>
 cases r with
 | nil => trivial
 | cons y q =>
 cases q with
 | cons => trivial
 | nil =>
 cases x with
 | s n c =>
  cases y with
  | s m d =>
   simp only [avS]
   rcases rgC_spec (H := H) (g := g) (d := .fail) (f := fun _ _ _ _ lo hi => bif' .fail (bif' .fail (bif' .fail (bif' .fail (.v (.i 3 (ixV n c m d)) H) (Nat.ble (Nat.add n 1) 4294967281)) (Nat.ble (Nat.add hi 1) 9223372036854775808)) (Nat.ble m lo)) (Nat.ble 2 m)) with h | ⟨n1, t, wr, sp, lo, hi, hH, h1, ht, h⟩
   · rw [h]; trivial
   · rw [h]
     simp only [bif']
     cases c1 : Nat.ble 2 m with
     | false => trivial
     | true =>
     cases c2 : Nat.ble m lo with
     | false => trivial
     | true =>
     cases c3 : Nat.ble (Nat.add hi 1) 9223372036854775808 with
     | false => trivial
     | true =>
     cases c4 : Nat.ble (Nat.add n 1) 4294967281 with
     | false => trivial
     | true =>
      rw [ble_tt] at c1 c2
      have c3' : hi < 9223372036854775808 := Nat.le_of_ble_eq_true c3
      have c4' : n < 4294967281 := Nat.le_of_ble_eq_true c4
      intro e w args' hr ha
      cases ha with
      | cons hx hq =>
      cases hq with
      | cons hy hq =>
      cases hq
      cases hx with
      | s _ _ hcc =>
      cases hy with
      | s _ _ hdd =>
      obtain ⟨i, hi1, hi2, hi3⟩ := hr.glob g hgl
      obtain ⟨a1, a2, a3, C, ty, z, a4, a5, a6, a7⟩ := hr.obj g i _ hi1 hH
      obtain ⟨u, v', q1, q2, q3⟩ := a7 0 h1
      rw [ht] at q1; cases q1
      rw [hi3, Nat.add_zero] at q2
      rw [hi2] at a4
      cases q3 with
      | rg _ _ _ M hk hM p1 p2 =>
      have hw : (kindOf 3).wrap (M : Int) = (M : Int) := by
       simp only [kindOf, IntKind.wrap, IntKind.signed, IntKind.bits]; simp; omega
      rw [hw] at q2
      have hcell : w.cell? ⟨g, 0, none⟩ = some (.int .i64 (M : Int)) := by
       simp only [World.cell?, a4]
       exact q2
      have hrun := Lib.run_indexString (P := P) ⟨(bytesOf n c).toArray⟩ ⟨(bytesOf m d).toArray⟩ w g M hg hcell (by rw [strV_size]; exact c1) (by rw [strV_size]; omega) (by rw [strV_size]; exact c4')
      exact .inr ⟨_, w, run_extern hf hname hb hn he _ w hrun, e, _, rfl, ixV_rel c4' hdd (by omega) e, Evo.refl hr⟩
  | _ => trivial
 | _ => trivial
theorem split_snd2 {P : Program} {f : Nat} {args : List AV} {H : AHeap} {b n : Nat} {t : BT AV} {wr : Bool} {sp o k lo hi : Nat} {v : AV} (hb : H.get b = some (.c n t wr sp)) (ho : o < n) (ht : t.get o = some (.x (.rg k lo hi))) (hlh : lo ≤ hi)
  (hall : ∀ c, lo ≤ c → c ≤ hi → ∃ l2 h2, l2 ≤ c ∧ c ≤ h2 ∧ lo ≤ l2 ∧ h2 ≤ hi ∧ FSnd P f args (setC H b n t wr sp o (.x (.rg k l2 h2))) (.v v (setC H b n t wr sp o (.x (.rg k l2 h2))))) : FSnd P f args H (.v v H) := by
 intro e w args' hr ha
 obtain ⟨c, hc1, hc2, hcv⟩ : ∃ c, lo ≤ c ∧ c ≤ hi ∧ ∀ l2 h2, l2 ≤ c → c ≤ h2 → ∀ i C ty z v', e b = some i → w.heap[i.blk]? = some (.cells C ty z) → C[i.off + o]? = some v' → (∀ u, t.get o = some u → VRel e u v') → VRel e (.x (.rg k l2 h2)) v' := by
  cases he : e b with
  | none => exact ⟨lo, Nat.le_refl _, hlh, fun l2 h2 _ _ i C ty z v' hi => (by cases hi)⟩
  | some i =>
   obtain ⟨a1, a2, a3, C, ty, z, a4, a5, a6, a7⟩ := hr.obj b i _ he hb
   obtain ⟨u, v', q1, q2, q3⟩ := a7 o ho
   rw [ht] at q1
   cases q1
   cases q3 with
   | rg _ _ _ m hk hm h1 h2 =>
    refine ⟨m, h1, h2, fun l2 h2 g1 g2 i' C' ty' z' v'' hi' hC' hv' _ => ?_⟩
    cases hi'
    rw [a4] at hC'
    cases hC'
    rw [q2] at hv'
    cases hv'
    exact .rg k l2 h2 m hk hm g1 g2
 obtain ⟨l2, h2, g1, g2, g3, g4, hsnd⟩ := hall c hc1 hc2
 have hrc := rel_setC hr hb (hcv l2 h2 g1 g2)
 have hback : ∀ (e2 : Emb) (w2 : World), Rel P.globals.size e2 (setC H b n t wr sp o (.x (.rg k l2 h2))) w2 → Rel P.globals.size e2 H w2 := by
  intro e2 w2 hr2
  have h3 := rel_setC hr2 (by rw [setC_get hb, if_pos rfl]) (o := o) (v := .x (.rg k lo hi)) (fun i C ty z v' hi' hC hv hrel => by
   have h4 := hrel (.x (.rg k l2 h2)) (by rw [BT.get_set, if_pos rfl, ht]; rfl)
   cases h4 with
   | rg _ _ _ m hk hm p1 p2 => exact .rg k lo hi m hk hm (by omega) (by omega))
  refine ⟨hr2.lt, hr2.bnd, hr2.glob, fun d i x hd hx => ?_, fun b1 i1 b2 i2 q1 q2 hne ho ha => hr2.sep b1 i1 b2 i2 q1 q2 hne ((setC_owned hb _).2 ho) ((setC_alive hb _).2 ha)⟩
  by_cases hdb : d = b
  · subst hdb
    rw [hb] at hx
    cases hx
    obtain ⟨a1, a2, a3, C, ty, z, a4, a5, a6, a7⟩ := h3.obj d i (.c n ((t.set (.x (.rg k l2 h2)) o).set (.x (.rg k lo hi)) o) wr sp) hd (by rw [setC_get (by rw [setC_get hb, if_pos rfl]), if_pos rfl])
    refine ⟨a1, a2, a3, C, ty, z, a4, a5, a6, fun q hq => ?_⟩
    obtain ⟨u, v', q1, q2, q3⟩ := a7 q hq
    rw [setC_back, BT.get_set] at q1
    by_cases hqo : q = o
    · subst hqo
      rw [if_pos rfl, ht] at q1
      cases q1
      exact ⟨_, v', ht, q2, q3⟩
    · rw [if_neg hqo] at q1; exact ⟨u, v', q1, q2, q3⟩
  · exact hr2.obj d i x hd (by rw [setC_get hb, if_neg hdb]; exact hx)
 have conv : ∀ e' w', Evo P.globals.size e (setC H b n t wr sp o (.x (.rg k l2 h2))) w e' (setC H b n t wr sp o (.x (.rg k l2 h2))) w' → Evo P.globals.size e H w e' H w' := by
  intro e' w' h
  refine ⟨hback e' w' h.rel, h.ext, h.size, h.tape, h.os, h.out, Nat.le_refl _, Nat.le_refl _, fun _ _ _ => rfl, fun _ hd => hd, fun d i hd hi => ?_, fun B hB hf => h.frame B hB fun d i hd hi => ?_⟩
  · obtain ⟨q1, q2⟩ := h.fresh d i hd hi
    refine ⟨q1, q2.imp id ?_⟩
    rintro ⟨b0, i0, p1, p2, p3, p4⟩
    exact ⟨b0, i0, p1, p2, fun hdd => p3 ((setC_dead hb _).2 hdd), p4⟩
  · rcases hf d i hd hi with q | q
    · exact .inl ((setC_dead hb _).2 q)
    · exact .inr q
 rcases hsnd e w args' hrc ha with ⟨h1, h2⟩ | ⟨u, w', h1, h2⟩
 · exact .inl ⟨h1, Calls.mono h2 fun E w' ⟨e', v', hE, hv, hev⟩ => ⟨e', v', hE, hv, conv e' w' hev⟩⟩
 · obtain ⟨e', v', hE, hv, hev⟩ := h2
   exact .inr ⟨u, w', h1, e', v', hE, hv, conv e' w' hev⟩
def isA (v : AV) (r : Option AV) : Bool := Option.rec (motive := fun _ => Bool) false (fun u => eqA v u) r
def len2 (args : List AV) : Nat := List.rec (motive := fun _ => Nat) 0 (fun _ r _ => List.rec (motive := fun _ => Nat) 0 (fun y _ _ => avS 0 (fun m _ => m) y) r) args
def partA (F : Fs) (K : KFun) (g : Nat) (args : List AV) (H : AHeap) : ORes :=
 rgC H g .fail (fun n t wr sp lo hi => Option.rec (motive := fun _ => ORes) .fail (fun v =>
  bif' .fail (bif' .fail (bif' .fail (bif' .fail (bif' .fail (.v v H)
   (isA v (plainRun F K args (setC H g n t wr sp 0 (.x (.rg 3 9223372036854775808 18446744073709551615))))))
   (isA v (plainRun F K args (setC H g n t wr sp 0 (.x (.rg 3 (len2 args) 9223372036854775807))))))
   (bif' false (Nat.ble (len2 args) 9223372036854775807) (Nat.ble 1 (len2 args)))) (Nat.beq hi 18446744073709551615)) (Nat.beq lo 0))
  (plainRun F K args (setC H g n t wr sp 0 (.x (.rg 3 0 (Nat.sub (len2 args) 1))))))
def pParts (F : Fs) (K : KFun) (g : Nat) (args : List AV) (H : AHeap) : ORes := Bool.rec (motive := fun _ => ORes) (K.run F args H) (partA F K g args H) (isNo (K.run F args H))
theorem isA_eq {v : AV} {r : Option AV} (h : isA v r = true) : r = some v := by
 cases r with
 | none => cases h
 | some u => rw [eqA_eq (show eqA v u = true from h)]
theorem pParts_snd {P : Program} (hmix : P.follows .mixedOrders = true) {F : Fs} (hF : FsOk P F) {K : KFun} {f g : Nat} (h : K.ok P dchk f = true) (args : List AV) (H : AHeap) : FSnd P f args H (pParts F K g args H) := by
 have hrun : ∀ H, FSnd P f args H (K.run F args H) := fun H => KFun.run_snd hF (dok hF hmix _ _) h args H
 unfold pParts
 cases isNo (K.run F args H) with
 | false => exact hrun H
 | true =>
  show FSnd P f args H (partA F K g args H)
  unfold partA
  rcases rgC_spec (H := H) (g := g) (d := .fail) (f := fun n t wr sp lo hi => Option.rec (motive := fun _ => ORes) .fail (fun v =>
  bif' .fail (bif' .fail (bif' .fail (bif' .fail (bif' .fail (.v v H)
   (isA v (plainRun F K args (setC H g n t wr sp 0 (.x (.rg 3 9223372036854775808 18446744073709551615))))))
   (isA v (plainRun F K args (setC H g n t wr sp 0 (.x (.rg 3 (len2 args) 9223372036854775807))))))
   (bif' false (Nat.ble (len2 args) 9223372036854775807) (Nat.ble 1 (len2 args)))) (Nat.beq hi 18446744073709551615)) (Nat.beq lo 0))
  (plainRun F K args (setC H g n t wr sp 0 (.x (.rg 3 0 (Nat.sub (len2 args) 1)))))) with hq | ⟨n, t, wr, sp, lo, hi, hH, h1, ht, hq⟩
  · rw [hq]; trivial
  · rw [hq]
    cases r1 : plainRun F K args (setC H g n t wr sp 0 (.x (.rg 3 0 (Nat.sub (len2 args) 1)))) with
    | none => trivial
    | some v =>
     simp only [bif']
     cases c1 : Nat.beq lo 0 with
     | false => trivial
     | true =>
     cases c2 : Nat.beq hi 18446744073709551615 with
     | false => trivial
     | true =>
     cases c3 : (bif' false (Nat.ble (len2 args) 9223372036854775807) (Nat.ble 1 (len2 args))) with
     | false => rw [bif'] at c3; rw [c3]; trivial
     | true =>
     cases c4 : isA v (plainRun F K args (setC H g n t wr sp 0 (.x (.rg 3 (len2 args) 9223372036854775807)))) with
     | false => rw [bif'] at c3; rw [c3]; trivial
     | true =>
     cases c5 : isA v (plainRun F K args (setC H g n t wr sp 0 (.x (.rg 3 9223372036854775808 18446744073709551615)))) with
     | false => rw [bif'] at c3; rw [c3]; trivial
     | true =>
      obtain ⟨d1, d2⟩ := bif_tt c3
      rw [bif'] at c3; rw [c3]
      have := Nat.eq_of_beq_eq_true c1
      subst this
      have := Nat.eq_of_beq_eq_true c2
      subst this
      rw [ble_tt] at d1 d2
      have run : ∀ u, plainRun F K args (setC H g n t wr sp 0 u) = some v → FSnd P f args (setC H g n t wr sp 0 u) (.v v (setC H g n t wr sp 0 u)) := fun u hu => by
       rw [← plainRun_run hu]; exact hrun _
      refine split_snd2 hH h1 ht (Nat.zero_le _) fun c _ hc => ?_
      by_cases g1 : c < len2 args
      · exact ⟨0, len2 args - 1, by omega, by omega, Nat.le_refl _, by omega, run _ r1⟩
      · by_cases g2 : c ≤ 9223372036854775807
        · exact ⟨len2 args, 9223372036854775807, by omega, g2, by omega, by omega, run _ (isA_eq c4)⟩
        · exact ⟨9223372036854775808, 18446744073709551615, by omega, hc, by omega, Nat.le_refl _, run _ (isA_eq c5)⟩
end
end Go.Ab
namespace Go.Ab
open Go
noncomputable section
variable {S : BT Nat}
def rgOf (v : AV) : Option (Nat × Nat × Nat) :=
 avX none (fun u => AX.casesOn (motive_1 := fun _ => Option (Nat × Nat × Nat)) u none none none none none none (fun _ => none) (fun _ _ _ => none) (fun _ _ => none) (fun _ => none) (fun _ => none) (fun _ => none) (fun _ _ => none) (fun k lo hi => some (k, lo, hi)) (fun _ _ _ => none)) v
def forkR (f : Nat → Bool) (lo m : Nat) : Bool := Nat.rec (motive := fun _ => Bool) true (fun i ih => bAnd (f (Nat.add lo i)) ih) m
def forkV (L : Nat) (f : AV → Bool) (v : AV) : Bool :=
 Option.rec (motive := fun _ => Bool) (f v) (fun p => Bool.rec (motive := fun _ => Bool) (f v) (forkR (fun n => f (.i p.1 n)) p.2.1 (Nat.add (Nat.sub p.2.2 p.2.1) 1)) (Nat.ble (Nat.sub p.2.2 p.2.1) L)) (rgOf v)
theorem forkR_spec {f : Nat → Bool} {lo : Nat} : ∀ {m}, forkR f lo m = true → ∀ i, i < m → f (lo + i) = true
 | 0, _, i, h => by omega
 | m + 1, h, i, hi => by
  have h' : bAnd (f (Nat.add lo m)) (forkR f lo m) = true := h
  rw [bAnd_iff] at h'
  by_cases him : i = m
  · subst him; exact h'.1
  · exact forkR_spec h'.2 i (by omega)
theorem forkV_spec {L : Nat} {f : AV → Bool} {v : AV} (h : forkV L f v = true) {e : Emb} {v' : Value} (hv : VRel e v v') : ∃ u, f u = true ∧ VRel e u v' := by
 unfold forkV at h
 cases hr : rgOf v with
 | none => rw [hr] at h; exact ⟨v, h, hv⟩
 | some p =>
  rw [hr] at h
  cases hb : Nat.ble (Nat.sub p.2.2 p.2.1) L with
  | false => simp only [hb] at h; exact ⟨v, h, hv⟩
  | true =>
   simp only [hb] at h
   cases v with
   | x u =>
    cases u with
    | rg k lo hi =>
     cases hr
     cases hv with
     | rg _ _ _ n hk hn h1 h2 =>
      have := forkR_spec h (n - lo) (by show n - lo < hi - lo + 1; omega)
      rw [show lo + (n - lo) = n by omega] at this
      exact ⟨_, this, .i k n hk hn⟩
    | _ => cases hr
   | _ => cases hr
def kSeq (f : Env → AHeap → Bool) (k : Res → Bool) (r : Res) : Bool :=
 Res.rec (motive := fun _ => Bool) f (fun id en H => k (.ext id en H)) (fun en H => k (.ret en H)) (fun v H => k (.pan v H)) (k .fail) r
def allE (F : Fs) (L : Nat) (l : List KE) : Env → AHeap → (Res → Bool) → Bool :=
 List.rec (motive := fun _ => Env → AHeap → (Res → Bool) → Bool) (fun en H k => k (.nrm en H)) (fun x _ ih en H k =>
  Option.rec (motive := fun _ => Bool) (k .fail) (fun t => Bool.rec (motive := fun _ => Bool) (ih (x.put undefA en) H k)
   (ORes.rec (motive := fun _ => Bool) (fun v H' => forkV L (fun u => ih (x.put u en) H' k) v) (fun v H' => k (.pan v H')) (k .fail) (x.op.den F en H)) t) (x.want en)) l
def loopAll (φ : Env → AHeap → (Res → Bool) → Bool) (N : Nat) : Env → AHeap → (Res → Bool) → Bool :=
 Nat.rec (motive := fun _ => Env → AHeap → (Res → Bool) → Bool) (fun _ _ k => k .fail) (fun _ ih en H k => φ en H (kSeq (fun en1 H1 => ih en1 H1 k) k)) N
def KCode.all (F : Fs) (L : Nat) (c : KCode) : Env → AHeap → (Res → Bool) → Bool :=
 KCode.rec (motive := fun _ => Env → AHeap → (Res → Bool) → Bool) (fun en H k => k (.nrm en H)) (fun l en H k => allE F L l ⟨.nil, en.B⟩ H k) (fun l en H k => k (runDG F l (guessD F l ⟨.nil, en.B⟩ H) ⟨.nil, en.B⟩ H))
  (fun _ _ x y en H k => x en H (kSeq (fun en1 H1 => y en1 H1 k) k)) (fun c _ _ x y en H k => avB (k .fail) (fun t => Bool.rec (motive := fun _ => Bool) (y en H k) (x en H k) t) (c.den en))
  (fun id _ x en H k => x en H (fun r => k (rBlock id r))) (fun _ x => loopAll x 1000000) (fun id en H k => k (.ext id en H)) (fun en H k => k (.ret en H)) (fun _ _ k => k .fail) c
def ASnd (P : Program) (S : BT Nat) (n : Nat) (c : Code) (φ : Env → AHeap → (Res → Bool) → Bool) : Prop :=
 ∀ (D : DF), (∀ p, D.free p) → ∀ (en : Env) (H : AHeap) (k : Res → Bool), k .fail = false → φ en H k = true → ∀ e w a, Rel P.globals.size e H w → ARel S n D e en a →
  c.wp P (fun X a' w' => ∃ r, k r = true ∧ Fits P S n D e H w r X a' w') a w
theorem asnd_reg {P : Program} {F : Fs} (hF : FsOk P F) {n L : Nat} {ops : Array Oper} {D : DF} (hfree : ∀ p, D.free p) {e0 : Emb} {H0 : AHeap} {w0 : World} {k : Res → Bool} (hk : k .fail = false) :
  ∀ (l : List KE) (os : List Oper) (i : Nat), (∀ j, os[j]? = ops[i + j]?) → sameL (KE.ok P S n ops) l os = true →
  ∀ (en : Env) (H : AHeap) (e : Emb) (w : World) (a : Act), allE F L l en H k = true → Rel P.globals.size e H w → ARel S n D e en a → Evo P.globals.size e0 H0 w0 e H w →
   wpOps P ops (fun X a' w' => ∃ r, k r = true ∧ Fits P S n D e0 H0 w0 r X a' w') (List.range' i os.length) a w
 | [], [], i, _, _, en, H, e, w, a, hne, hr, ha, hev => ⟨.nrm en H, hne, rfl, e, ha, hev⟩
 | x :: l, o :: os, i, hos, hok, en, H, e, w, a, hne, hr, ha, hev => by
  simp only [sameL, Bool.and_eq_true] at hok
  obtain ⟨hx, hl⟩ := hok
  have ho : ops[i]? = some o := by have := hos 0; simpa using this.symm
  have hos' : ∀ j, os[j]? = ops[i + 1 + j]? := fun j => by
   have := hos (j + 1); rw [show i + 1 + j = i + (j + 1) by omega, ← this]; simp
  have ih := asnd_reg hF (L := L) (D := D) hfree (e0 := e0) (H0 := H0) (w0 := w0) hk l os (i + 1) hos' hl
  rw [List.length_cons, List.range'_succ, wpOps_some ho]
  have heq : allE F L (x :: l) en H k = Option.rec (motive := fun _ => Bool) (k .fail) (fun t => Bool.rec (motive := fun _ => Bool) (allE F L l (x.put undefA en) H k)
   (ORes.rec (motive := fun _ => Bool) (fun v H' => forkV L (fun u => allE F L l (x.put u en) H' k) v) (fun v H' => k (.pan v H')) (k .fail) (x.op.den F en H)) t) (x.want en) := rfl
  rw [heq] at hne
  cases hw : x.want en with
  | none => rw [hw] at hne; have hne : k .fail = true := hne; rw [hk] at hne; cases hne
  | some t =>
   rw [hw] at hne
   rw [KE.want_spec hx hr ha hw]
   cases t with
   | false =>
    rw [if_neg (by simp)]
    exact ih _ H e w _ hne hr (ARel.putE hx hfree ha (fun _ _ h => h) (vrel_undef e)) hev
   | true =>
    rw [if_pos rfl]
    refine .inl ?_
    have hsnd := KOp.ok_snd hF (KE.ok_op hx) en H
    cases hd : x.op.den F en H with
    | fail => rw [hd] at hne; have hne : k .fail = true := hne; rw [hk] at hne; cases hne
    | v v H' =>
     rw [hd] at hne hsnd
     refine Oper.wp_mono2 ?_ ?_ (hsnd n D e w a hr ha)
     · rintro a' w' ⟨e', v', rfl, hv, hevo⟩
       obtain ⟨u, hu, hvu⟩ := forkV_spec hne hv
       exact ih _ H' e' w' _ hu hevo.rel (ARel.putE hx hfree ha hevo.ext hvu) (hev.trans hevo)
     · intro _ _ _ h; exact h.elim
    | pan v H' =>
     rw [hd] at hne hsnd
     refine Oper.wp_mono2 ?_ ?_ (hsnd n D e w a hr ha)
     · intro _ _ h; exact h.elim
     · rintro X a' w' ⟨e', v', rfl, rfl, hv, hevo⟩
       exact ⟨.pan v H', hne, e', v', rfl, ⟨en, ha.mono hevo.ext⟩, hv, hev.trans hevo⟩
 | [], _ :: _, _, _, h, _, _, _, _, _, _, _, _, _ => by simp [sameL] at h
 | _ :: _, [], _, _, h, _, _, _, _, _, _, _, _, _ => by simp [sameL] at h
theorem asnd_seq {P : Program} {n : Nat} {x y : Code} {φ ψ : Env → AHeap → (Res → Bool) → Bool} (hx : ASnd P S n x φ) (hy : ASnd P S n y ψ) : ASnd P S n (.seq x y) (fun en H k => φ en H (kSeq (fun en1 H1 => ψ en1 H1 k) k)) := by
 intro D hfree en H k hk hne e w a hr ha
 refine wp_seq (wp_mono (hx D hfree en H (kSeq (fun en1 H1 => ψ en1 H1 k) k) hk hne e w a hr ha) ?_)
 rintro X a1 w1 ⟨r, hkr, hf⟩
 cases r with
 | nrm en1 H1 =>
  obtain ⟨rfl, e1, ha1, hv1⟩ := hf
  exact wp_mono (hy D hfree en1 H1 k hk hkr e1 w1 a1 hv1.rel ha1) fun X a' w' ⟨r, q, hf⟩ => ⟨r, q, hf.trans hv1⟩
 | ext id en1 H1 =>
  obtain ⟨rfl, h⟩ := hf
  exact ⟨.ext id en1 H1, hkr, rfl, h⟩
 | ret en1 H1 =>
  obtain ⟨rfl, h⟩ := hf
  exact ⟨.ret en1 H1, hkr, rfl, h⟩
 | pan v H1 =>
  obtain ⟨e', v', rfl, h⟩ := hf
  exact ⟨.pan v H1, hkr, e', v', rfl, h⟩
 | fail => exact hf.elim
theorem asnd_cond {P : Program} {n : Nat} {c : Operand} {c' : KO} {x y : Code} {φ ψ : Env → AHeap → (Res → Bool) → Bool} (hc : c'.ok P S c = true) (hx : ASnd P S n x φ) (hy : ASnd P S n y ψ) :
  ASnd P S n (.cond c x y) (fun en H k => avB (k .fail) (fun t => Bool.rec (motive := fun _ => Bool) (ψ en H k) (φ en H k) t) (c'.den en)) := by
 intro D hfree en H k hk hne e w a hr ha
 have h1 := KO.ok_spec hc n D e en a H w hr ha
 cases hv : c'.den en with
 | b t =>
  rw [hv] at h1
  generalize hcv : a.eval c = cv at h1
  cases h1
  simp only [hv] at hne
  cases t with
  | true => exact wp_cond_true hcv (hx D hfree en H k hk hne e w a hr ha)
  | false => exact wp_cond_false hcv (hy D hfree en H k hk hne e w a hr ha)
 | _ => simp only [hv] at hne; have hne : k .fail = true := hne; rw [hk] at hne; cases hne
theorem asnd_block {P : Program} {n id : Nat} {x : Code} {φ : Env → AHeap → (Res → Bool) → Bool} (hx : ASnd P S n x φ) : ASnd P S n (.block id x) (fun en H k => φ en H (fun r => k (rBlock id r))) := by
 intro D hfree en H k hk hne e w a hr ha
 refine wp_block (wp_mono (hx D hfree en H (fun r => k (rBlock id r)) hk hne e w a hr ha) ?_)
 rintro X a1 w1 ⟨r, hkr, hf⟩
 replace hkr : k (rBlock id r) = true := hkr
 cases r with
 | nrm en1 H1 =>
  obtain ⟨rfl, h⟩ := hf
  exact ⟨.nrm en1 H1, hkr, rfl, h⟩
 | ext id' en1 H1 =>
  obtain ⟨rfl, h⟩ := hf
  show if id' = id then (∃ r, k r = true ∧ Fits P S n D e H w r .normal a1 w1) else (∃ r, k r = true ∧ Fits P S n D e H w r (.exit id') a1 w1)
  have hb : rBlock id (.ext id' en1 H1) = Bool.rec (motive := fun _ => Res) (.ext id' en1 H1) (.nrm en1 H1) (Nat.beq id' id) := rfl
  rw [hb, brec] at hkr
  by_cases hid : id' = id
  · subst hid
    simp only [Nat.beq_refl, if_true] at hkr
    rw [if_pos rfl]
    exact ⟨.nrm en1 H1, hkr, rfl, h⟩
  · rw [if_neg (by rw [beq_tt]; exact hid)] at hkr
    rw [if_neg hid]
    exact ⟨.ext id' en1 H1, hkr, rfl, h⟩
 | ret en1 H1 =>
  obtain ⟨rfl, h⟩ := hf
  exact ⟨.ret en1 H1, hkr, rfl, h⟩
 | pan v H1 =>
  obtain ⟨e', v', rfl, h⟩ := hf
  exact ⟨.pan v H1, hkr, e', v', rfl, h⟩
 | fail => exact hf.elim
theorem asnd_rounds {P : Program} {n : Nat} {x : Code} {φ : Env → AHeap → (Res → Bool) → Bool} (hx : ASnd P S n x φ) : ∀ (N : Nat) (D : DF), (∀ p, D.free p) → ∀ (en : Env) (H : AHeap) (k : Res → Bool), k .fail = false → loopAll φ N en H k = true → ∀ e w a, Rel P.globals.size e H w → ARel S n D e en a →
  LoopWp P x (fun X a' w' => ∃ r, k r = true ∧ Fits P S n D e H w r X a' w') a w
 | 0, D, _, en, H, k, hk, hne, e, w, a, hr, ha => by
  have hne : k .fail = true := hne
  rw [hk] at hne; cases hne
 | N + 1, D, hfree, en, H, k, hk, hne, e, w, a, hr, ha => by
  have hne : φ en H (kSeq (fun en1 H1 => loopAll φ N en1 H1 k) k) = true := hne
  refine loopWp_step (wp_mono (hx D hfree en H (kSeq (fun en1 H1 => loopAll φ N en1 H1 k) k) hk hne e w a hr ha) ?_)
  rintro X a1 w1 ⟨r, hkr, hf⟩
  cases r with
  | nrm en1 H1 =>
   obtain ⟨rfl, e1, ha1, hv1⟩ := hf
   exact (asnd_rounds hx N D hfree en1 H1 k hk hkr e1 w1 a1 hv1.rel ha1).mono fun X a' w' ⟨r, q, hf⟩ => ⟨r, q, hf.trans hv1⟩
  | ext id en1 H1 =>
   obtain ⟨rfl, h⟩ := hf
   exact ⟨.ext id en1 H1, hkr, rfl, h⟩
  | ret en1 H1 =>
   obtain ⟨rfl, h⟩ := hf
   exact ⟨.ret en1 H1, hkr, rfl, h⟩
  | pan v H1 =>
   obtain ⟨e', v', rfl, h⟩ := hf
   exact ⟨.pan v H1, hkr, e', v', rfl, h⟩
  | fail => exact hf.elim
theorem asnd_loop {P : Program} {n : Nat} {x : Code} {φ : Env → AHeap → (Res → Bool) → Bool} (hx : ASnd P S n x φ) (N : Nat) : ASnd P S n (.loop x) (loopAll φ N) :=
 fun D hfree en H k hk hne e w a hr ha => loopWp_wp (asnd_rounds hx N D hfree en H k hk hne e w a hr ha)
theorem all_loop (F : Fs) (L : Nat) (a : KCode) : (KCode.loop a).all F L = loopAll (a.all F L) 1000000 := rfl
theorem code_all {P : Program} {F : Fs} (hF : FsOk P F) {n L : Nat} {dc : DCheck} (hD : DOk P S n F dc) : ∀ (c' : KCode) (c : Code), c'.ok P S n dc c = true → ASnd P S n c (c'.all F L)
 | .skip, c, h => by
  cases c <;> first | (cases h; done) | skip
  exact fun D _ en H k _ hne e w a hr ha => wp_skip ⟨.nrm en H, hne, rfl, e, ha, Evo.refl hr⟩
 | .reg l, c, h => by
  cases c with
  | region id ops d =>
   cases d with
   | false =>
    intro D hfree en H k hk hne e w a hr ha
    refine wp_region ?_
    have := asnd_reg hF (L := L) (D := D) hfree hk l ops.toList 0 (fun j => by simp) h ⟨.nil, en.B⟩ H e w a hne hr ha.clear (Evo.refl hr)
    rw [List.range_eq_range']
    simpa using this
   | true => cases h
  | _ => cases h
 | .dreg l, c, h => by
  cases c with
  | region id ops d =>
   cases d with
   | false => cases h
   | true =>
    simp only [KCode.ok, Bool.and_eq_true] at h
    intro D hfree en H k hk hne e w a hr ha
    have hne : k (runDG F l (guessD F l ⟨.nil, en.B⟩ H) ⟨.nil, en.B⟩ H) = true := hne
    have hnf : runDG F l (guessD F l ⟨.nil, en.B⟩ H) ⟨.nil, en.B⟩ H ≠ .fail := fun hf => by rw [hf, hk] at hne; cases hne
    exact wp_mono (hD id ops l h.1 h.2 D (fun q _ => hfree q) en H hnf e w a hr ha) fun X a' w' hf => ⟨_, hne, hf⟩
  | _ => cases h
 | .seq a b, c, h => by
  cases c <;> first | (cases h; done) | skip
  simp only [KCode.ok, Bool.and_eq_true] at h
  exact asnd_seq (code_all hF hD a _ h.1) (code_all hF hD b _ h.2)
 | .cond c' a b, c, h => by
  cases c <;> first | (cases h; done) | skip
  simp only [KCode.ok, Bool.and_eq_true] at h
  exact asnd_cond h.1 (code_all hF hD a _ h.2.1) (code_all hF hD b _ h.2.2)
 | .block id a, c, h => by
  cases c <;> first | (cases h; done) | skip
  simp only [KCode.ok, Bool.and_eq_true] at h
  have := Nat.eq_of_beq_eq_true h.1
  subst this
  exact asnd_block (code_all hF hD a _ h.2)
 | .loop a, c, h => by
  cases c <;> first | (cases h; done) | skip
  rw [all_loop]
  have h0 := asnd_loop (φ := a.all F L) (code_all hF hD a _ h) 1000000
  exact h0
 | .unk, c, h => fun D _ en H k hk hne => by
  have hne : k .fail = true := hne
  rw [hk] at hne; cases hne
 | .exit id, c, h => by
  cases c <;> first | (cases h; done) | skip
  have := Nat.eq_of_beq_eq_true h
  subst this
  exact fun D _ en H k _ hne e w a hr ha => wp_exit ⟨.ext id en H, hne, rfl, e, ha, Evo.refl hr⟩
 | .ret, c, h => by
  cases c <;> first | (cases h; done) | skip
  exact fun D _ en H k _ hne e w a hr ha => wp_ret ⟨.ret en H, hne, rfl, e, ha, Evo.refl hr⟩
theorem fn_back {P : Program} {fn : Func} {K : KFun} (h6 : sameL (KR.ok P K.S) K.rs fn.results.toList = true) {en : Env} {H H' : AHeap} {l : List AV} (hl : evalR K.rs en H' = some l) {e : Emb} {w : World} (hr : Rel P.globals.size e H w) {e' : Emb} {a' : Act} {w' : World} (ha' : ARel K.S K.n (DF.any []) e' en a') (hev : Evo P.globals.size e (H.withLow H.nxt) w e' H' w') :
  ∃ v', (results fn a'.tmps).run P w' = .ok v' w' ∧ ∃ v0 H'' e'', backV l H H' = .v v0 H'' ∧ VRel e'' v0 v' ∧ Evo P.globals.size e H w e'' H'' w' := by
 obtain ⟨v', q1, q2⟩ := results_run hev.rel ha' h6 hl
 exact ⟨v', q1, backV_evo hr hev q2⟩
def KFun.lawOk (F : Fs) (L : Nat) (K : KFun) (args : List AV) (H : AHeap) : Bool :=
 Option.rec (motive := fun _ => Bool) false (fun B => K.body.all F L ⟨.nil, B⟩ (H.withLow H.nxt) (fun r => okRes H.nxt (finish K.rs H r))) (putArgs K.ps args K.T0)
theorem law_all {P : Program} {F : Fs} (hF : FsOk P F) {dc : DCheck} {f : Nat} {K : KFun} (hD : DOk P K.S K.n F dc) (h : K.ok P dc f = true) {L : Nat} {args : List AV} {args' : List Value} {e : Emb} {H : AHeap} {W : World} (hres : K.lawOk F L args H = true) (hr : Rel P.globals.size e H W) (hargs : VRels e args args') :
  Calls P f args'.toArray W (fun E w' => E = .returned (.bool true) ∧ Kept W w') := by
 unfold KFun.ok at h
 cases hf : P.funcs[f]? with
 | none => rw [hf] at h; cases h
 | some fn =>
 rw [hf] at h
 simp only [Bool.and_eq_true, ble_tt, beq_tt] at h
 obtain ⟨⟨⟨⟨⟨⟨h1, h2⟩, h3⟩, h4⟩, h5⟩, h6⟩, h7⟩ := h
 cases hb : fn.body with
 | none => rw [hb] at h7; cases h7
 | some c =>
 rw [hb] at h7
 unfold KFun.lawOk at hres
 cases hB : putArgs K.ps args K.T0 with
 | none => rw [hB] at hres; cases hres
 | some B =>
 rw [hB] at hres
 refine calls_of_wp hf hb ?_
 have htm : ∀ j v, args'[j]? = some v → (args'.toArray ++ Array.replicate (fn.ntmps - args'.toArray.size) undef).getD j undef = v := by
  intro j v hj
  have hlt := (List.getElem?_eq_some_iff.1 hj).1
  rw [Array.getD_eq_getD_getElem?, Array.getElem?_append_left (by simpa using hlt)]
  simp [hj]
 obtain ⟨hl, hvars⟩ := putArgs_rel (tmps := args'.toArray ++ Array.replicate (fn.ntmps - args'.toArray.size) undef) K.ps args args' 0 K.T0 B h4 hB hargs (fun j v hj => by simpa using htm j v hj) (fun p t _ => by rw [badT_get h5]; exact .bad _)
 have hlen := hargs.length
 have harel : ARel K.S K.n (DF.any []) e ⟨.nil, B⟩ { tmps := args'.toArray ++ Array.replicate (fn.ntmps - args'.toArray.size) undef, defers := [] } := by
  refine ⟨?_, fun _ _ => .bad _, hvars, rfl, trivial⟩
  simp; omega
 have hk : (fun r => okRes H.nxt (finish K.rs H r)) .fail = false := rfl
 refine wp_mono (code_all hF hD K.body c h7 (DF.any []) (DF.any_free _) ⟨.nil, B⟩ (H.withLow H.nxt) _ hk hres e W _ (hr.withLow _) harel) ?_
 rintro X a' w' ⟨r, hkr, hfit⟩
 obtain ⟨H2, hfin, hlow⟩ := okRes_spec hkr
 have done : ∀ en H', evalR K.rs en H' ≠ none → optL .fail (fun l => backV l H H') (evalR K.rs en H') = .v (.b true) H2 → ∀ e', ARel K.S K.n (DF.any []) e' en a' → Evo P.globals.size e (H.withLow H.nxt) W e' H' w' →
   a'.defers = [] ∧ ∃ v', (results fn a'.tmps).run P w' = .ok v' w' ∧ (Ending.returned v' = .returned (.bool true) ∧ Kept W w') := by
  intro en H' hne hq e' ha' hev
  cases hl : evalR K.rs en H' with
  | none => exact absurd hl hne
  | some l =>
   rw [hl] at hq
   obtain ⟨v', q1, v0, H'', e'', q2, q3, q4⟩ := fn_back h6 hl hr ha' hev
   have hq2 : backV l H H' = .v (.b true) H2 := hq
   rw [q2] at hq2
   injection hq2 with hp hH
   subst hH
   rw [hp] at q3
   cases q3
   refine ⟨ha'.defers, _, q1, rfl, q4.os, q4.out, fun B hB => q4.frame B hB fun b i hb _ => .inr ?_⟩
   have := hr.lt b i hb
   omega
 have some_of : ∀ en H', optL .fail (fun l => backV l H H') (evalR K.rs en H') = .v (.b true) H2 → evalR K.rs en H' ≠ none := fun en H' hq hn => by rw [hn] at hq; cases hq
 cases r with
 | nrm en H' =>
  obtain ⟨rfl, e', ha', hev⟩ := hfit
  exact done en H' (some_of en H' hfin) hfin e' ha' hev
 | ret en H' =>
  obtain ⟨rfl, e', ha', hev⟩ := hfit
  exact done en H' (some_of en H' hfin) hfin e' ha' hev
 | ext id en H' => cases hfin
 | pan v H' => cases hfin
 | fail => cases hfin
end
end Go.Ab
