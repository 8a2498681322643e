/- Regions that draw their order (8): whatever the order, it comes to what the run says. -/
import Derived.Test.YtfhaailmhaamfaaGreatDoorAbE5
namespace Go.Ab
open Go
noncomputable section

def dstAt (ops : Array Oper) (i : Nat) : Option Tmp := (ops[i]?).bind (·.dst)

/-- The temporaries, where some operations are done. -/
structure VInv (S : BT Nat) (n : Nat) (D : List Deferred) (ops : Array Oper) (E : Nat → Env) (Hf : Nat → AHeap) (e0 : Emb) (L : Nat → Bool) (e : Emb) (a : Act) : Prop where
  size : a.tmps.size = n
  defers : a.defers = D
  hit : ∀ x t, KO.slot S x = some t → ∀ i, i < ops.size → L i = true → dstAt ops i = some t → VRel (e.cut (Hf (i + 1)).nxt) (x.den (E (i + 1))) (a.tmps.getD t undef)
  old : ∀ x t, KO.slot S x = some t → (∀ i, i < ops.size → L i = true → dstAt ops i ≠ some t) → VRel e0 (x.den (E 0)) (a.tmps.getD t undef)

section
variable {P : Program} {S : BT Nat} {n : Nat} {F : Fs} {ops : Array Oper} {l : List KD} {gs : List (List Nat)} {E : Nat → Env} {Hf : Nat → AHeap} {Te : Nat → Nat → Prop}

theorem dst_lt {i : Nat} {t : Tmp} (h : dstAt ops i = some t) : i < ops.size := by
  unfold dstAt at h
  cases ho : ops[i]? with
  | none => rw [ho] at h; cases h
  | some o => exact (Array.getElem?_eq_some_iff.1 ho).1


theorem Plan.den_stay (hp : Plan P S n F ops l gs E Hf Te) {x : KO} {t : Nat} (hx : KO.slot S x = some t) {i : Nat} : ∀ {k}, i ≤ k → k ≤ ops.size → (∀ j, i ≤ j → j < k → dstAt ops j ≠ some t) → x.den (E k) = x.den (E i)
  | 0, h, _, _ => by have : i = 0 := by omega
                     subst this; rfl
  | k + 1, h, hk, hne => by
    by_cases hi : i = k + 1
    · subst hi; rfl
    · obtain ⟨d, hd⟩ := hp.getD' k (by omega)
      obtain ⟨o, ho⟩ := hp.getO k d hd
      obtain ⟨wd, v, Y, Y', D', _, hE, _⟩ := (hp.tr.stp k d hd).ex
      have hk' := hne k (by omega) (by omega)
      rw [hE, KE.put_same (hp.ok k d o hd ho) hx (fun h => hk' (by unfold dstAt; rw [ho]; exact h))]
      exact Plan.den_stay hp hx (by omega) (by omega) fun j h1 h2 => hne j h1 (by omega)

theorem Plan.dst_uniq (hp : Plan P S n F ops l gs E Hf Te) {i j : Nat} {t : Tmp} (hi : dstAt ops i = some t) (hj : dstAt ops j = some t) : i = j := by
  have key : ∀ i j, i < j → dstAt ops i = some t → dstAt ops j = some t → False := fun i j hij hi hj => by
    obtain ⟨di, hdi⟩ := hp.getD' i (dst_lt hi)
    obtain ⟨dj, hdj⟩ := hp.getD' j (dst_lt hj)
    obtain ⟨oi, hoi⟩ := hp.getO i di hdi
    obtain ⟨oj, hoj⟩ := hp.getO j dj hdj
    have h1 : oi.dst = some t := by unfold dstAt at hi; rw [hoi] at hi; exact hi
    have h2 : oj.dst = some t := by unfold dstAt at hj; rw [hoj] at hj; exact hj
    have := hp.tmp i j di dj oi oj hij hdi hdj hoi hoj
    unfold dTmp at this
    rw [h1, h2] at this
    simp [Nat.beq_refl] at this
  rcases Nat.lt_trichotomy i j with h | h | h
  · exact (key i j h hi hj).elim
  · exact h
  · exact (key j i h hj hi).elim

variable {L L' : Nat → Bool} {e0 e e' : Emb} {w0 w : World} {G : Nat} {D : List Deferred} {a : Act}

/-- What an operation reads is as the text has it. -/
theorem VInv.read (hp : Plan P S n F ops l gs E Hf Te) (hV : VInv S n D ops E Hf e0 L e a) (hI : Inv G ops.size Hf Te e0 w0 L e w) (hr0 : Rel G e0 (Hf 0) w0) (hc : Closed ops L) {i : Nat} {d : KD} {o : Oper} (hd : l[i]? = some d) (ho : ops[i]? = some o) (hL : L i = false)
    (hr : ∀ e ∈ o.after, Region.binds .any e = true → L e.on = true) {x : KO} {t : Nat} (hx : KO.slot S x = some t) (ht : t ∈ d.x.reads S) : VRel (e.cut (Hf i).nxt) (x.den (E i)) (a.tmps.getD t undef) := by
  have hs := hp.stages
  have hi : i < ops.size := (Array.getElem?_eq_some_iff.1 ho).1
  have hcl : ∀ j ∈ d.cl, L j = true := hp.ahead hc (i + 1) i (by omega) d o hd ho hr
  -- a writer ahead of it in the text is done; one behind it is not
  have w1 : ∀ j, j < i → dstAt ops j = some t → L j = true := fun j hj hdst => by
    obtain ⟨dj, hdj⟩ := hp.getD' j (dst_lt hdst)
    obtain ⟨oj, hoj⟩ := hp.getO j dj hdj
    have h1 : oj.dst = some t := by unfold dstAt at hdst; rw [hoj] at hdst; exact hdst
    have := hp.tmp j i dj d oj o hj hdj hd hoj ho
    unfold dTmp at this
    rw [h1] at this
    simp only [Bool.and_eq_true, Bool.or_eq_true, Bool.not_eq_true', memN_iff] at this
    rcases this.1 with q | q
    · exact absurd ((memN_iff t _).2 ht) (by rw [q]; simp)
    · exact hcl j q
  have w2 : ∀ j, i < j → dstAt ops j = some t → L j = true → False := fun j hj hdst hLj => by
    obtain ⟨dj, hdj⟩ := hp.getD' j (dst_lt hdst)
    obtain ⟨oj, hoj⟩ := hp.getO j dj hdj
    have h1 : oj.dst = some t := by unfold dstAt at hdst; rw [hoj] at hdst; exact hdst
    have := hp.tmp i j d dj o oj hj hd hdj ho hoj
    unfold dTmp at this
    rw [h1] at this
    simp only [Bool.and_eq_true, Bool.or_eq_true, Bool.not_eq_true', memN_iff] at this
    rcases this.2.1 with q | q
    · exact absurd ((memN_iff t _).2 ht) (by rw [q]; simp)
    · have := hp.aheadL hc hdj hLj q
      rw [hL] at this; cases this
  by_cases hex : ∃ j, L j = true ∧ dstAt ops j = some t
  · obtain ⟨j, hLj, hdst⟩ := hex
    have hji : j < i := by
      rcases Nat.lt_trichotomy j i with h | h | h
      · exact h
      · subst h; rw [hL] at hLj; cases hLj
      · exact (w2 j h hdst hLj).elim
    have := hV.hit x t hx j (dst_lt hdst) hLj hdst
    rw [hp.den_stay hx (i := j + 1) (k := i) (by omega) (by omega) fun k h1 h2 hk => by have := hp.dst_uniq hdst hk; omega]
    refine this.mono fun b k hb => ?_
    obtain ⟨q1, q2⟩ := Emb.cut_some.1 hb
    have := hs.nxt (i := j + 1) (k := i) (by omega) (by omega)
    exact Emb.cut_some.2 ⟨by omega, q2⟩
  · have hno : ∀ j, L j = true → dstAt ops j ≠ some t := fun j h1 h2 => hex ⟨j, h1, h2⟩
    rw [hp.den_stay hx (Nat.zero_le i) (Nat.le_of_lt hi) fun j _ hj hdst => hno j (w1 j hj hdst) hdst]
    refine (hV.old x t hx fun j _ h => hno j h).mono fun b k hb => ?_
    have := hr0.lt b k hb
    have := hs.nxt (Nat.zero_le i) (Nat.le_of_lt hi)
    exact Emb.cut_some.2 ⟨by omega, hI.ext b k hb⟩

theorem VInv.step (hp : Plan P S n F ops l gs E Hf Te) (hV : VInv S n D ops E Hf e0 L e a) {i : Nat} {d : KD} {o : Oper} (hd : l[i]? = some d) (ho : ops[i]? = some o) (hL1 : L' i = true) (hL2 : ∀ j, j ≠ i → L' j = L j)
    (hext : ∀ b k, e b = some k → e' b = some k) {e2 : Emb} (h2 : ∀ b k, e2 b = some k → b < (Hf (i + 1)).nxt ∧ e' b = some k) {v : AV} {v' : Value} (hE : E (i + 1) = d.x.put v (E i)) (hv : VRel e2 v v') :
    VInv S n D ops E Hf e0 L' e' (a.put o.dst v') := by
  have hi : i < ops.size := (Array.getElem?_eq_some_iff.1 ho).1
  have hdst : dstAt ops i = o.dst := by unfold dstAt; rw [ho]; rfl
  have hsz : (a.put o.dst v').tmps.size = n := by
    rw [← hV.size]
    cases o.dst <;> simp [Act.put]
  refine ⟨hsz, ?_, fun x t hx j hj hLj hdj => ?_, fun x t hx hno => ?_⟩
  · rw [← hV.defers]; cases o.dst <;> rfl
  · by_cases hji : j = i
    · subst hji
      rw [hdst] at hdj
      obtain ⟨q1, q2⟩ := KE.put_hit (hp.ok j d o hd ho) hx hdj hv (E j)
      rw [hE, hdj, getD_put_self hV.size q2]
      exact q1.mono fun b k hb => Emb.cut_some.2 (h2 b k hb)
    · have hne : o.dst ≠ some t := fun h => hji (hp.dst_uniq hdj (by rw [hdst]; exact h))
      have : (a.put o.dst v').tmps.getD t undef = a.tmps.getD t undef := by
        cases hod : o.dst with
        | none => rfl
        | some u => exact getD_put_ne (fun h => hne (by rw [hod, h])) v'
      rw [this]
      refine (hV.hit x t hx j hj (by rw [← hL2 j hji]; exact hLj) hdj).mono fun b k hb => ?_
      obtain ⟨q1, q2⟩ := Emb.cut_some.1 hb
      exact Emb.cut_some.2 ⟨q1, hext b k q2⟩
  · have hne : o.dst ≠ some t := fun h => hno i hi hL1 (by rw [hdst]; exact h)
    have : (a.put o.dst v').tmps.getD t undef = a.tmps.getD t undef := by
      cases hod : o.dst with
      | none => rfl
      | some u => exact getD_put_ne (fun h => hne (by rw [hod, h])) v'
    rw [this]
    refine hV.old x t hx fun j hj hLj hdj => ?_
    by_cases hji : j = i
    · subst hji; rw [hdst] at hdj; exact hne hdj
    · exact hno j hj (by rw [hL2 j hji]; exact hLj) hdj

theorem VInv.last (hp : Plan P S n F ops l gs E Hf Te) (hV : VInv S n D ops E Hf e0 L e a) (hext : ∀ b k, e0 b = some k → e b = some k) (hL : ∀ j, j < ops.size → L j = true) : ARel S n D e (E ops.size) a :=
  arel_slot hV.size hV.defers fun x t hx => by
    by_cases hex : ∃ j, dstAt ops j = some t
    · obtain ⟨j, hj⟩ := hex
      have hjl := dst_lt hj
      rw [hp.den_stay hx (i := j + 1) (k := ops.size) (by omega) (Nat.le_refl _) fun k h1 h2 hk => by have := hp.dst_uniq hj hk; omega]
      exact (hV.hit x t hx j hjl (hL j hjl) hj).mono fun b k hb => (Emb.cut_some.1 hb).2
    · rw [hp.den_stay hx (Nat.zero_le _) (Nat.le_refl _) fun j _ _ h => hex ⟨j, h⟩]
      exact (hV.old x t hx fun j _ _ h => hex ⟨j, h⟩).mono hext
end

/-! ### The count of what is not done -/
def cnt (L : Nat → Bool) : Nat → Nat
  | 0 => 0
  | k + 1 => cnt L k + (if L k = true then 0 else 1)
theorem cnt_set {L L' : Nat → Bool} {i : Nat} (h0 : L i = false) (h1 : L' i = true) (h2 : ∀ j, j ≠ i → L' j = L j) : ∀ m, cnt L' m + (if i < m then 1 else 0) = cnt L m
  | 0 => by simp [cnt]
  | m + 1 => by
    have ih := cnt_set h0 h1 h2 m
    unfold cnt
    by_cases hm : m = i
    · subst hm; simp [h0, h1] at ih ⊢; omega
    · rw [h2 m hm]
      by_cases hi : i < m
      · have hi2 : i < m + 1 := by omega
        rw [if_pos hi] at ih; rw [if_pos hi2]; omega
      · have hi2 : ¬ i < m + 1 := by omega
        rw [if_neg hi] at ih; rw [if_neg hi2]; omega
theorem cnt_zero {L : Nat → Bool} : ∀ {m}, cnt L m = 0 → ∀ j, j < m → L j = true
  | 0, _, j, h => by omega
  | m + 1, h, j, hj => by
    unfold cnt at h
    by_cases hm : L m = true
    · by_cases hjm : j = m
      · subst hjm; exact hm
      · rw [if_pos hm] at h
        exact cnt_zero (m := m) (by omega) j (by omega)
    · rw [if_neg hm] at h; omega
theorem cnt_all : ∀ (L : Nat → Bool) m, cnt L m ≤ m
  | L, 0 => Nat.le_refl _
  | L, m + 1 => by
    have := cnt_all L m
    unfold cnt; split <;> omega

theorem Oper.wp_mono2 {P : Program} {o : Oper} {a : Act} {w : World} {K K' : Act → World → Prop} {Q Q' : Exit → Act → World → Prop} (h : ∀ a w, K a w → K' a w) (hq : ∀ e a w, Q e a w → Q' e a w)
    (hh : o.wp P a w K Q) : o.wp P a w K' Q' := by
  unfold Oper.wp at *
  generalize (execOp a.eval o).run P w = r at *
  cases r with
  | ok n w' =>
    cases n <;> simp only [Oper.upon] at hh ⊢ <;>
      first
        | exact h _ _ hh
        | exact Calls.mono hh (fun e w'' he => by cases e <;> first | exact h _ _ he | exact hq _ _ _ he | (obtain ⟨x, y, z⟩ := he; exact ⟨x, y, hq _ _ _ z⟩))
        | exact Rows.mono hh (fun _ _ he => h _ _ he)
  | halt x w' => cases x <;> simp only [Oper.upon] at hh ⊢ <;> exact hq _ _ _ hh

section
variable {P : Program} {S : BT Nat} {n : Nat} {F : Fs} {ops : Array Oper} {l : List KD} {gs : List (List Nat)} {E : Nat → Env} {Hf : Nat → AHeap} {Te : Nat → Nat → Prop}
  {e0 : Emb} {w0 : World} {D : List Deferred}

theorem any_wp (hF : FsOk P F) (hp : Plan P S n F ops l gs E Hf Te) (hr0 : Rel P.globals.size e0 (Hf 0) w0) : ∀ (fuel : Nat) (listed : Array Bool) (a : Act) (w : World) (e : Emb), listed.size = ops.size → cnt (fun i => listed.getD i false) ops.size ≤ fuel →
    Closed ops (fun i => listed.getD i false) → Inv P.globals.size ops.size Hf Te e0 w0 (fun i => listed.getD i false) e w → VInv S n D ops E Hf e0 (fun i => listed.getD i false) e a →
    wpAny P .any ops (Fits P S n D e0 (Hf 0) w0 (.nrm (E ops.size) (Hf ops.size))) fuel listed a w := by
  have hs := hp.stages
  have fin : ∀ (listed : Array Bool) (a : Act) (w : World) (e : Emb), (∀ j, j < ops.size → listed.getD j false = true) → Inv P.globals.size ops.size Hf Te e0 w0 (fun i => listed.getD i false) e w → VInv S n D ops E Hf e0 (fun i => listed.getD i false) e a →
      Fits P S n D e0 (Hf 0) w0 (.nrm (E ops.size) (Hf ops.size)) .normal a w := fun listed a w e hL hI hV =>
    ⟨rfl, e, VInv.last hp hV hI.ext hL, hI.last hs hr0 hL⟩
  intro fuel
  induction fuel with
  | zero =>
    intro listed a w e hsz hcnt hc hI hV
    have hL := cnt_zero (Nat.le_zero.1 hcnt)
    refine ⟨?_, fin listed a w e hL hI hV⟩
    rw [List.eq_nil_iff_forall_not_mem]
    intro j hj
    obtain ⟨h0, o, ho, _⟩ := mem_ready.1 hj
    have hjl := (Array.getElem?_eq_some_iff.1 ho).1
    have := hL j hjl
    simp [Array.getD, hsz, hjl] at h0 this
    rw [h0] at this; cases this
  | succ fuel ih =>
    intro listed a w e hsz hcnt hc hI hV
    have hread : ∀ j, j < ops.size → listed.getD j true = listed.getD j false := fun j hj => by simp [Array.getD, hsz, hj]
    refine ⟨fun hnil => ?_, fun i hi => ?_⟩
    · have all : ∀ k j, j < k → j < ops.size → listed.getD j false = true := by
        intro k
        induction k with
        | zero => intro j h; omega
        | succ k ihk =>
          intro j hjk hj
          cases hlj : listed.getD j false with
          | true => rfl
          | false =>
            exfalso
            have hmem : j ∈ Region.ready .any ops listed := by
              rw [mem_ready]
              refine ⟨by rw [hread j hj]; exact hlj, ops[j], by simp [hj], fun e he hb => ?_⟩
              have := hp.back j ops[j] (by simp [hj]) e he hb
              exact ihk e.on (by omega) (by omega)
            rw [hnil] at hmem; cases hmem
      exact fin listed a w e (fun j hj => all (j + 1) j (by omega) hj) hI hV
    · obtain ⟨h0, o, ho, hrd⟩ := mem_ready.1 hi
      have hil := (Array.getElem?_eq_some_iff.1 ho).1
      obtain ⟨d, hd⟩ := hp.getD' i hil
      have hL : (fun i => listed.getD i false) i = false := by
        show listed.getD i false = false
        rw [← hread i hil]; exact h0
      have hL1 : (fun k => (listed.setIfInBounds i true).getD k false) i = true := by
        simp [Array.getD, hsz, hil]
      have hL2 : ∀ j, j ≠ i → (fun k => (listed.setIfInBounds i true).getD k false) j = (fun k => listed.getD k false) j := fun j hj => getD_set_ne false (Ne.symm hj)
      have hok := hp.ok i d o hd ho
      obtain ⟨wd, v, Y, Y', D', hwant, hE, hrun, hidle, hm, hD, hz⟩ := (hp.tr.stp i d hd).ex
      have hk := hp.shown hI hc hd ho hL hrd hm hD hz
      have hrel := hI.rel_shown hs hr0 hil hm.ny hk
      -- the operands as the operation finds them
      have hden : ∀ y ∈ d.x.ros, y.den (maskE (fun t => memN t (d.x.reads S)) S (E i)) = y.den (E i) := fun y hy => by
        have h1 := hp.one i d o hd ho
        unfold dOne at h1
        simp only [Bool.and_eq_true, List.all_eq_true] at h1
        have hyo := h1.1.2 y hy
        cases hsl : y.slot S with
        | none => exact den_const hyo hsl _ _
        | some t =>
          have htm : t ∈ d.x.reads S := List.mem_filterMap.2 ⟨y, hy, hsl⟩
          rw [maskE_den _ _ hsl, if_pos ((memN_iff t _).2 htm)]
      have harel : ARel S n D (e.cut (Hf i).nxt) (maskE (fun t => memN t (d.x.reads S)) S (E i)) a := arel_slot hV.size hV.defers fun x t hx => by
        rw [maskE_den _ _ hx]
        by_cases ht : memN t (d.x.reads S) = true
        · rw [if_pos ht]
          exact VInv.read hp hV hI hr0 hc hd ho hL hrd hx ((memN_iff t _).1 ht)
        · rw [if_neg ht]; exact .bad _
      have hw := KE.want_spec hok hrel harel (by rw [KE.want_congr hden]; exact hwant)
      -- behind it
      have next : ∀ v' w' e2, VRel e2 v v' → Evo P.globals.size (e.cut (Hf i).nxt) Y w e2 Y' w' →
          wpAny P .any ops (Fits P S n D e0 (Hf 0) w0 (.nrm (E ops.size) (Hf ops.size))) fuel (listed.setIfInBounds i true) (a.put o.dst v') w' := by
        intro v' w' e2 hv hev
        obtain ⟨e', hI', hext, h2⟩ := hI.step hs hr0 hil hL hL1 hL2 hm hk (fun j b h1 h2 h3 => hp.later hc hd hL j b h1 h2 h3) (fun hkk b k hb => hp.kAll hI hc hd hil hL hkk b k hb) hev
        refine ih _ _ w' e' (by simp [hsz]) ?_ ?_ hI' (VInv.step hp hV hd ho hL1 hL2 hext h2 hE hv)
        · have := cnt_set hL hL1 hL2 ops.size
          rw [if_pos hil] at this; omega
        · intro k ok hLk hok' e1 he1 hb1
          by_cases hki : k = i
          · subst hki
            rw [ho] at hok'; cases hok'
            exact getD_set_true (hrd e1 he1 hb1)
          · have hLk' : listed.getD k false = true := by
              have := hL2 k hki
              dsimp only at this hLk
              rw [← this]; exact hLk
            exact getD_set_true (hc k ok hLk' hok' e1 he1 hb1)
      unfold wpOp
      simp only [ho]
      rw [hw]
      cases wd with
      | true =>
        rw [if_pos rfl]
        refine .inl ?_
        have hsnd := KOp.ok_snd hF (KE.ok_op hok) (maskE (fun t => memN t (d.x.reads S)) S (E i)) Y
        rw [KOp.den_congr Y d.x.op fun y hy => hden y (by unfold KE.ros; exact List.mem_append_right _ hy), hrun rfl] at hsnd
        refine Oper.wp_mono2 ?_ ?_ (hsnd n D (e.cut (Hf i).nxt) w a hrel harel)
        · rintro a' w' ⟨e2, v', rfl, hv, hev⟩
          exact next v' w' e2 hv hev
        · intro _ _ _ h; exact h.elim
      | false =>
        obtain ⟨rfl, rfl⟩ := hidle rfl
        rw [if_neg (by simp)]
        exact next undef w (e.cut (Hf i).nxt) (vrel_undef _) (Evo.refl hrel)

theorem ARel.clear {n : Nat} {D : List Deferred} {e : Emb} {en : Env} {a : Act} (r : ARel S n D e en a) : ARel S n D e ⟨.nil, en.B⟩ a :=
  ⟨r.size, fun _ _ => .bad _, r.vars, r.defers⟩

/-- A region that draws its order comes to what its run says. -/
theorem region_any (hF : FsOk P F) (hmix : P.follows .mixedOrders = true) {id : Nat} (hck : dchk S ops l = true) (hsame : sameL (KE.ok P S n ops) (l.map (·.x)) ops.toList = true) (gf : Env → AHeap → List (List Nat)) :
    CSnd P S n (.region id ops true) (fun en H => runD F (gf ⟨.nil, en.B⟩ H) l (gf ⟨.nil, en.B⟩ H) ⟨.nil, en.B⟩ H) := by
  intro D en H hne e w a hr ha
  dsimp only at hne ⊢
  generalize gf ⟨.nil, en.B⟩ H = gs at hne ⊢
  have hz : ∀ d ∈ l, d.cls = .z → d.x.op.isZ = true := fun d hd hcz => by
    obtain ⟨i, hi, rfl⟩ := List.getElem_of_mem hd
    have hlen := (sameL_get hsame).1
    simp only [List.length_map, Array.length_toList] at hlen
    unfold dchk at hck
    rw [List.all_eq_true] at hck
    have := hck i (by simpa using hi)
    rw [show l[i]? = some l[i] by simp [hi], show ops.toList[i]? = some ops[i] by simp [hlen ▸ hi]] at this
    simp only [Bool.and_eq_true] at this
    have h1 := this.1
    unfold dOne at h1
    simp only [Bool.and_eq_true] at h1
    have h2 := h1.2
    rw [hcz] at h2
    exact h2
  obtain ⟨E, Hf, Te, hE0, hH0, hres, htr⟩ := runD_trace l gs ⟨.nil, en.B⟩ H hz hne
  have hp : Plan P S n F ops l gs E Hf Te := Plan.of (h1 := hck) hsame htr
  rw [hres, hp.len]
  have hr1 : Rel P.globals.size e (Hf 0) { w with drawn := w.drawn + 1 } := by rw [hH0]; exact hr.heap_eq rfl
  have hrep : ∀ i, (Array.replicate ops.size false).getD i false = false := fun i => by
    simp [Array.getD]
  have hw : ∀ X a' w', Fits P S n D e (Hf 0) { w with drawn := w.drawn + 1 } (.nrm (E ops.size) (Hf ops.size)) X a' w' → Fits P S n D e H w (.nrm (E ops.size) (Hf ops.size)) X a' w' := by
    intro X a' w' h
    rw [hH0] at h
    exact h.trans (Evo.drew hr _)
  have := any_wp (D := D) hF hp hr1 ops.size (Array.replicate ops.size false) a { w with drawn := w.drawn + 1 } e (by simp) (cnt_all _ _)
    (fun i o h => by
      have h1 : (Array.replicate ops.size false).getD i false = true := h
      rw [hrep i] at h1; cases h1) (Inv.start hr1 hrep)
    ⟨ha.size, ha.defers, fun x t hx i _ h => (by
      have h1 : (Array.replicate ops.size false).getD i false = true := h
      rw [hrep i] at h1; cases h1), fun x t hx _ => (by rw [hE0]; exact slot_arel ha.clear hx)⟩
  exact wp_mono (wp_region_any hmix this) fun X a' w' h => hw X a' w' h
end
end
end Go.Ab
