/- A logic over an abstract memory, and that it is sound (6 of 9). -/
import Derived.Laws.IdiomRangeMap
import Derived.Laws.RangeString
import Derived.Test.YtjleffkdaiaknaaGreatDoorAb5
namespace Go.Ab
open Go
noncomputable section
def dstAt (ops : Array Oper) (i : Nat) : Option Tmp := (ops[i]?).bind (·.dst)
structure VInv (S : BT Nat) (n : Nat) (D : DF) (ops : Array Oper) (E : Nat → Env) (Hf : Nat → AHeap) (e0 : Emb) (L : Nat → Bool) (e : Emb) (a : Act) : Prop where
 size : a.tmps.size = n
 defers : a.defers = D.ds
 hit : ∀ x t, KO.slot S x = some t → ∀ i, i < ops.size → L i = true → dstAt ops i = some t → VRel (e.cut (Hf (i + 1)).nxt) (x.den (E (i + 1))) (a.tmps.getD t undef)
 old : ∀ x t, KO.slot S x = some t → (∀ i, i < ops.size → L i = true → dstAt ops i ≠ some t) → VRel e0 (x.den (E 0)) (a.tmps.getD t undef)
section
variable {P : Program} {S : BT Nat} {n : Nat} {F : Fs} {ops : Array Oper} {l : List KD} {gs : List (List Nat)} {pn : Nat → Option AV} {E : Nat → Env} {Hf : Nat → AHeap} {Te : Nat → Nat → Prop}
theorem dst_lt {i : Nat} {t : Tmp} (h : dstAt ops i = some t) : i < ops.size := by
 unfold dstAt at h
 cases ho : ops[i]? with
 | none => rw [ho] at h; cases h
 | some o => exact (Array.getElem?_eq_some_iff.1 ho).1
theorem Plan.den_stay (hp : Plan P S n F ops l gs pn E Hf Te) {x : KO} {t : Nat} (hx : KO.slot S x = some t) {i : Nat} : ∀ {k}, i ≤ k → k ≤ ops.size → (∀ j, i ≤ j → j < k → dstAt ops j ≠ some t) → x.den (E k) = x.den (E i)
 | 0, h, _, _ => by have : i = 0 := by omega
                    subst this; rfl
 | k + 1, h, hk, hne => by
  by_cases hi : i = k + 1
  · subst hi; rfl
  · obtain ⟨d, hd⟩ := hp.getD' k (by omega)
    obtain ⟨o, ho⟩ := hp.getO k d hd
    obtain ⟨wd, v, Y, Y', D', _, hE, _⟩ := (hp.tr.stp k d hd).ex
    have hk' := hne k (by omega) (by omega)
    rw [hE, KE.put_same (hp.ok k d o hd ho) hx (fun h => hk' (by unfold dstAt; rw [ho]; exact h))]
    exact Plan.den_stay hp hx (by omega) (by omega) fun j h1 h2 => hne j h1 (by omega)
theorem Plan.dst_uniq (hp : Plan P S n F ops l gs pn E Hf Te) {i j : Nat} {t : Tmp} (hi : dstAt ops i = some t) (hj : dstAt ops j = some t) : i = j := by
 have key : ∀ i j, i < j → dstAt ops i = some t → dstAt ops j = some t → False := fun i j hij hi hj => by
  obtain ⟨di, hdi⟩ := hp.getD' i (dst_lt hi)
  obtain ⟨dj, hdj⟩ := hp.getD' j (dst_lt hj)
  obtain ⟨oi, hoi⟩ := hp.getO i di hdi
  obtain ⟨oj, hoj⟩ := hp.getO j dj hdj
  have h1 : oi.dst = some t := by unfold dstAt at hi; rw [hoi] at hi; exact hi
  have h2 : oj.dst = some t := by unfold dstAt at hj; rw [hoj] at hj; exact hj
  have := hp.tmp i j di dj oi oj hij hdi hdj hoi hoj
  unfold dTmp at this
  rw [h1, h2] at this
  simp [Nat.beq_refl] at this
 rcases Nat.lt_trichotomy i j with h | h | h
 · exact (key i j h hi hj).elim
 · exact h
 · exact (key j i h hj hi).elim
variable {L L' : Nat → Bool} {e0 e e' : Emb} {w0 w : World} {G : Nat} {D : DF} {a : Act}
theorem VInv.read (hp : Plan P S n F ops l gs pn E Hf Te) (hV : VInv S n D ops E Hf e0 L e a) (hI : Inv G ops.size Hf Te e0 w0 L e w) (hr0 : Rel G e0 (Hf 0) w0) (hc : Closed ops L) {i : Nat} {d : KD} {o : Oper} (hd : l[i]? = some d) (ho : ops[i]? = some o) (hL : L i = false)
  (hr : ∀ e ∈ o.after, Region.binds .any e = true → L e.on = true) {x : KO} {t : Nat} (hx : KO.slot S x = some t) (ht : t ∈ d.x.reads S) : VRel (e.cut (Hf i).nxt) (x.den (E i)) (a.tmps.getD t undef) := by
 have hs := hp.stages
 have hi : i < ops.size := (Array.getElem?_eq_some_iff.1 ho).1
 have hcl : ∀ j ∈ d.cl, L j = true := hp.ahead hc (i + 1) i (by omega) d o hd ho hr
 have w1 : ∀ j, j < i → dstAt ops j = some t → L j = true := fun j hj hdst => by
  obtain ⟨dj, hdj⟩ := hp.getD' j (dst_lt hdst)
  obtain ⟨oj, hoj⟩ := hp.getO j dj hdj
  have h1 : oj.dst = some t := by unfold dstAt at hdst; rw [hoj] at hdst; exact hdst
  have := hp.tmp j i dj d oj o hj hdj hd hoj ho
  unfold dTmp at this
  rw [h1] at this
  simp only [Bool.and_eq_true, Bool.or_eq_true, Bool.not_eq_true', memN_iff] at this
  rcases this.1 with q | q
  · exact absurd ((memN_iff t _).2 ht) (by rw [q]; simp)
  · exact hcl j q
 have w2 : ∀ j, i < j → dstAt ops j = some t → L j = true → False := fun j hj hdst hLj => by
  obtain ⟨dj, hdj⟩ := hp.getD' j (dst_lt hdst)
  obtain ⟨oj, hoj⟩ := hp.getO j dj hdj
  have h1 : oj.dst = some t := by unfold dstAt at hdst; rw [hoj] at hdst; exact hdst
  have := hp.tmp i j d dj o oj hj hd hdj ho hoj
  unfold dTmp at this
  rw [h1] at this
  simp only [Bool.and_eq_true, Bool.or_eq_true, Bool.not_eq_true', memN_iff] at this
  rcases this.2.1 with q | q
  · exact absurd ((memN_iff t _).2 ht) (by rw [q]; simp)
  · have := hp.aheadL hc hdj hLj q
    rw [hL] at this; cases this
 by_cases hex : ∃ j, L j = true ∧ dstAt ops j = some t
 · obtain ⟨j, hLj, hdst⟩ := hex
   have hji : j < i := by
    rcases Nat.lt_trichotomy j i with h | h | h
    · exact h
    · subst h; rw [hL] at hLj; cases hLj
    · exact (w2 j h hdst hLj).elim
   have := hV.hit x t hx j (dst_lt hdst) hLj hdst
   rw [hp.den_stay hx (i := j + 1) (k := i) (by omega) (by omega) fun k h1 h2 hk => by have := hp.dst_uniq hdst hk; omega]
   refine this.mono fun b k hb => ?_
   obtain ⟨q1, q2⟩ := Emb.cut_some.1 hb
   have := hs.nxt (i := j + 1) (k := i) (by omega) (by omega)
   exact Emb.cut_some.2 ⟨by omega, q2⟩
 · have hno : ∀ j, L j = true → dstAt ops j ≠ some t := fun j h1 h2 => hex ⟨j, h1, h2⟩
   rw [hp.den_stay hx (Nat.zero_le i) (Nat.le_of_lt hi) fun j _ hj hdst => hno j (w1 j hj hdst) hdst]
   refine (hV.old x t hx fun j _ h => hno j h).mono fun b k hb => ?_
   have := hr0.lt b k hb
   have := hs.nxt (Nat.zero_le i) (Nat.le_of_lt hi)
   exact Emb.cut_some.2 ⟨by omega, hI.ext b k hb⟩
theorem VInv.step (hp : Plan P S n F ops l gs pn E Hf Te) (hV : VInv S n D ops E Hf e0 L e a) {i : Nat} {d : KD} {o : Oper} (hd : l[i]? = some d) (ho : ops[i]? = some o) (hL1 : L' i = true) (hL2 : ∀ j, j ≠ i → L' j = L j)
  (hext : ∀ b k, e b = some k → e' b = some k) {e2 : Emb} (h2 : ∀ b k, e2 b = some k → b < (Hf (i + 1)).nxt ∧ e' b = some k) {v : AV} {v' : Value} (hE : E (i + 1) = d.x.put v (E i)) (hv : VRel e2 v v') :
  VInv S n D ops E Hf e0 L' e' (a.put o.dst v') := by
 have hi : i < ops.size := (Array.getElem?_eq_some_iff.1 ho).1
 have hdst : dstAt ops i = o.dst := by unfold dstAt; rw [ho]; rfl
 have hsz : (a.put o.dst v').tmps.size = n := by
  rw [← hV.size]
  cases o.dst <;> simp [Act.put]
 refine ⟨hsz, ?_, fun x t hx j hj hLj hdj => ?_, fun x t hx hno => ?_⟩
 · rw [← hV.defers]; cases o.dst <;> rfl
 · by_cases hji : j = i
   · subst hji
     rw [hdst] at hdj
     obtain ⟨q1, q2⟩ := KE.put_hit (hp.ok j d o hd ho) hx hdj hv (E j)
     rw [hE, hdj, getD_put_self hV.size q2]
     exact q1.mono fun b k hb => Emb.cut_some.2 (h2 b k hb)
   · have hne : o.dst ≠ some t := fun h => hji (hp.dst_uniq hdj (by rw [hdst]; exact h))
     have : (a.put o.dst v').tmps.getD t undef = a.tmps.getD t undef := by
      cases hod : o.dst with
      | none => rfl
      | some u => exact getD_put_ne (fun h => hne (by rw [hod, h])) v'
     rw [this]
     refine (hV.hit x t hx j hj (by rw [← hL2 j hji]; exact hLj) hdj).mono fun b k hb => ?_
     obtain ⟨q1, q2⟩ := Emb.cut_some.1 hb
     exact Emb.cut_some.2 ⟨q1, hext b k q2⟩
 · have hne : o.dst ≠ some t := fun h => hno i hi hL1 (by rw [hdst]; exact h)
   have : (a.put o.dst v').tmps.getD t undef = a.tmps.getD t undef := by
    cases hod : o.dst with
    | none => rfl
    | some u => exact getD_put_ne (fun h => hne (by rw [hod, h])) v'
   rw [this]
   refine hV.old x t hx fun j hj hLj hdj => ?_
   by_cases hji : j = i
   · subst hji; rw [hdst] at hdj; exact hne hdj
   · exact hno j hj (by rw [hL2 j hji]; exact hLj) hdj
theorem VInv.last (hp : Plan P S n F ops l gs pn E Hf Te) (hV : VInv S n D ops E Hf e0 L e a) (hext : ∀ b k, e0 b = some k → e b = some k) (hL : ∀ j, j < ops.size → L j = true) (hK : D.K (E ops.size).B) : ARel S n D e (E ops.size) a :=
 arel_slot hV.size hV.defers hK fun x t hx => by
  by_cases hex : ∃ j, dstAt ops j = some t
  · obtain ⟨j, hj⟩ := hex
    have hjl := dst_lt hj
    rw [hp.den_stay hx (i := j + 1) (k := ops.size) (by omega) (Nat.le_refl _) fun k h1 h2 hk => by have := hp.dst_uniq hj hk; omega]
    exact (hV.hit x t hx j hjl (hL j hjl) hj).mono fun b k hb => (Emb.cut_some.1 hb).2
  · rw [hp.den_stay hx (Nat.zero_le _) (Nat.le_refl _) fun j _ _ h => hex ⟨j, h⟩]
    exact (hV.old x t hx fun j _ _ h => hex ⟨j, h⟩).mono hext
end
def cnt (L : Nat → Bool) : Nat → Nat
 | 0 => 0
 | k + 1 => cnt L k + (if L k = true then 0 else 1)
theorem cnt_set {L L' : Nat → Bool} {i : Nat} (h0 : L i = false) (h1 : L' i = true) (h2 : ∀ j, j ≠ i → L' j = L j) : ∀ m, cnt L' m + (if i < m then 1 else 0) = cnt L m
 | 0 => by simp [cnt]
 | m + 1 => by
  have ih := cnt_set h0 h1 h2 m
  unfold cnt
  by_cases hm : m = i
  · subst hm; simp [h0, h1] at ih ⊢; omega
  · rw [h2 m hm]
    by_cases hi : i < m
    · have hi2 : i < m + 1 := by omega
      rw [if_pos hi] at ih; rw [if_pos hi2]; omega
    · have hi2 : ¬ i < m + 1 := by omega
      rw [if_neg hi] at ih; rw [if_neg hi2]; omega
theorem cnt_zero {L : Nat → Bool} : ∀ {m}, cnt L m = 0 → ∀ j, j < m → L j = true
 | 0, _, j, h => by omega
 | m + 1, h, j, hj => by
  unfold cnt at h
  by_cases hm : L m = true
  · by_cases hjm : j = m
    · subst hjm; exact hm
    · rw [if_pos hm] at h
      exact cnt_zero (m := m) (by omega) j (by omega)
  · rw [if_neg hm] at h; omega
theorem cnt_all : ∀ (L : Nat → Bool) m, cnt L m ≤ m
 | L, 0 => Nat.le_refl _
 | L, m + 1 => by
  have := cnt_all L m
  unfold cnt; split <;> omega
theorem Oper.wp_mono2 {P : Program} {o : Oper} {a : Act} {w : World} {K K' : Act → World → Prop} {Q Q' : Exit → Act → World → Prop} (h : ∀ a w, K a w → K' a w) (hq : ∀ e a w, Q e a w → Q' e a w)
  (hh : o.wp P a w K Q) : o.wp P a w K' Q' := by
 unfold Oper.wp at *
 generalize (execOp a.eval o).run P w = r at *
 cases r with
 | ok n w' =>
  cases n <;> simp only [Oper.upon] at hh ⊢ <;>
   first
    | exact h _ _ hh
    | exact Calls.mono hh (fun e w'' he => by cases e <;> first | exact h _ _ he | exact hq _ _ _ he | (obtain ⟨x, y, z⟩ := he; exact ⟨x, y, hq _ _ _ z⟩))
    | exact Rows.mono hh (fun _ _ he => h _ _ he)
 | halt x w' => cases x <;> simp only [Oper.upon] at hh ⊢ <;> exact hq _ _ _ hh
section
variable {P : Program} {S : BT Nat} {n : Nat} {F : Fs} {ops : Array Oper} {l : List KD} {gs : List (List Nat)} {pn : Nat → Option AV} {E : Nat → Env} {Hf : Nat → AHeap} {Te : Nat → Nat → Prop}
 {e0 : Emb} {w0 : World} {D : DF}
def badE (l : List KD) (en : Env) : Env := l.foldl (fun en d => d.x.put (.x .bad) en) en
theorem badE_den {l : List KD} {ops : Array Oper} (hok : ∀ (i : Nat) (d : KD) (o : Oper), l[i]? = some d → ops[i]? = some o → d.x.ok P S n ops o = true) (hlen : l.length = ops.size) {x : KO} {t : Nat} (hx : KO.slot S x = some t) (en : Env) :
  ∀ k, k ≤ l.length → (∀ (e : Emb) (v' : Value), VRel e (x.den (badE (l.take k) en)) v') ∨ (x.den (badE (l.take k) en) = x.den en ∧ ∀ j, j < k → dstAt ops j ≠ some t)
 | 0, _ => .inr ⟨by simp [badE], fun j hj => by omega⟩
 | k + 1, hk => by
  obtain ⟨d, hd⟩ : ∃ d, l[k]? = some d := ⟨l[k], by simp⟩
  obtain ⟨o, ho⟩ : ∃ o, ops[k]? = some o := ⟨ops[k], by simp⟩
  have he : badE (l.take (k + 1)) en = d.x.put (.x .bad) (badE (l.take k) en) := by
   rw [List.take_add_one, hd]; simp [badE, List.foldl_append]
  rw [he]
  by_cases hdst : o.dst = some t
  · exact .inl fun e v' => (KE.put_hit (hok k d o hd ho) hx hdst (VRel.bad v') (badE (l.take k) en)).1
  · rw [KE.put_same (hok k d o hd ho) hx hdst]
    rcases badE_den hok hlen hx en k (by omega) with q | ⟨q1, q2⟩
    · exact .inl q
    · refine .inr ⟨q1, fun j hj => ?_⟩
      by_cases hjk : j = k
      · subst hjk; unfold dstAt; rw [ho]; exact hdst
      · exact q2 j (by omega)
theorem any_wp (hF : FsOk P F) (hp : Plan P S n F ops l gs pn E Hf Te) (hK : D.K (E ops.size).B) (hK0 : D.K (badE l (E 0)).B) (hr0 : Rel P.globals.size e0 (Hf 0) w0) {R : Res} (hR : Ends ops.size pn E Hf R) : ∀ (fuel : Nat) (listed : Array Bool) (a : Act) (w : World) (e : Emb), listed.size = ops.size → cnt (fun i => listed.getD i false) ops.size ≤ fuel →
  (∀ i, pn i ≠ none → listed.getD i false = false) → Closed ops (fun i => listed.getD i false) → Inv P.globals.size ops.size Hf Te e0 w0 (fun i => listed.getD i false) e w → VInv S n D ops E Hf e0 (fun i => listed.getD i false) e a →
  wpAny P .any ops (Fits P S n D e0 (Hf 0) w0 (postD (Hf 0) R)) fuel listed a w := by
 have hs := hp.stages
 have fin : ∀ (listed : Array Bool) (a : Act) (w : World) (e : Emb), (∀ i, pn i ≠ none → listed.getD i false = false) → (∀ j, j < ops.size → listed.getD j false = true) → Inv P.globals.size ops.size Hf Te e0 w0 (fun i => listed.getD i false) e w → VInv S n D ops E Hf e0 (fun i => listed.getD i false) e a →
   Fits P S n D e0 (Hf 0) w0 (postD (Hf 0) R) .normal a w := fun listed a w e hpn hL hI hV => by
  rcases hR with ⟨_, rfl⟩ | ⟨i, pv, q0, q1, _, _⟩
  · exact ⟨rfl, e, VInv.last hp hV hI.ext hL hK, hI.last hs hr0 hL⟩
  · have h1 := hpn i (by rw [q1]; simp)
    rw [hL i q0] at h1; cases h1
 intro fuel
 induction fuel with
 | zero =>
  intro listed a w e hsz hcnt hpn hc hI hV
  have hL := cnt_zero (Nat.le_zero.1 hcnt)
  refine ⟨?_, fin listed a w e hpn hL hI hV⟩
  rw [List.eq_nil_iff_forall_not_mem]
  intro j hj
  obtain ⟨h0, o, ho, _⟩ := mem_ready.1 hj
  have hjl := (Array.getElem?_eq_some_iff.1 ho).1
  have := hL j hjl
  simp [Array.getD, hsz, hjl] at h0 this
  rw [h0] at this; cases this
 | succ fuel ih =>
  intro listed a w e hsz hcnt hpn hc hI hV
  have hread : ∀ j, j < ops.size → listed.getD j true = listed.getD j false := fun j hj => by simp [Array.getD, hsz, hj]
  refine ⟨fun hnil => ?_, fun i hi => ?_⟩
  · have all : ∀ k j, j < k → j < ops.size → listed.getD j false = true := by
      intro k
      induction k with
      | zero => intro j h; omega
      | succ k ihk =>
       intro j hjk hj
       cases hlj : listed.getD j false with
       | true => rfl
       | false =>
        exfalso
        have hmem : j ∈ Region.ready .any ops listed := by
         rw [mem_ready]
         refine ⟨by rw [hread j hj]; exact hlj, ops[j], by simp [hj], fun e he hb => ?_⟩
         have := hp.back j ops[j] (by simp [hj]) e he hb
         exact ihk e.on (by omega) (by omega)
        rw [hnil] at hmem; cases hmem
    exact fin listed a w e hpn (fun j hj => all (j + 1) j (by omega) hj) hI hV
  · obtain ⟨h0, o, ho, hrd⟩ := mem_ready.1 hi
    have hil := (Array.getElem?_eq_some_iff.1 ho).1
    obtain ⟨d, hd⟩ := hp.getD' i hil
    have hL : (fun i => listed.getD i false) i = false := by
     show listed.getD i false = false
     rw [← hread i hil]; exact h0
    have hL1 : (fun k => (listed.setIfInBounds i true).getD k false) i = true := by
     simp [Array.getD, hsz, hil]
    have hL2 : ∀ j, j ≠ i → (fun k => (listed.setIfInBounds i true).getD k false) j = (fun k => listed.getD k false) j := fun j hj => getD_set_ne false (Ne.symm hj)
    have hok := hp.ok i d o hd ho
    obtain ⟨wd, v, Y, Y', D', hwant, hE, hrun, hidle, hm, hD, hz, hwy⟩ := (hp.tr.stp i d hd).ex
    have hk := hp.shown hI hc hd ho hL hrd hm hD hz hwy
    have hrel := hI.rel_shown hs hr0 hil hm.ny hk
    have hden : ∀ y ∈ d.x.ros, y.den (maskE (fun t => memN t (d.x.reads S)) S (E i)) = y.den (E i) := fun y hy => by
     have h1 := hp.one i d o hd ho
     unfold dOne at h1
     simp only [Bool.and_eq_true, List.all_eq_true] at h1
     have hyo := h1.1.2 y hy
     cases hsl : y.slot S with
     | none => exact den_const hyo hsl _ _
     | some t =>
      have htm : t ∈ d.x.reads S := List.mem_filterMap.2 ⟨y, hy, hsl⟩
      rw [maskE_den _ _ hsl, if_pos ((memN_iff t _).2 htm)]
    have harel : ARel S n (DF.any D.ds) (e.cut (Hf i).nxt) (maskE (fun t => memN t (d.x.reads S)) S (E i)) a := arel_slot (D := DF.any D.ds) hV.size hV.defers trivial fun x t hx => by
     rw [maskE_den _ _ hx]
     by_cases ht : memN t (d.x.reads S) = true
     · rw [if_pos ht]
       exact VInv.read hp hV hI hr0 hc hd ho hL hrd hx ((memN_iff t _).1 ht)
     · rw [if_neg ht]; exact .bad _
    have hw := KE.want_spec hok hrel harel (by rw [KE.want_congr hden]; exact hwant)
    have next : pn i = none → ∀ v' w' e2, VRel e2 v v' → Evo P.globals.size (e.cut (Hf i).nxt) Y w e2 Y' w' →
      wpAny P .any ops (Fits P S n D e0 (Hf 0) w0 (postD (Hf 0) R)) fuel (listed.setIfInBounds i true) (a.put o.dst v') w' := by
     intro hpi v' w' e2 hv hev
     obtain ⟨e', hI', hext, h2⟩ := hI.step hs hr0 hil hL hL1 hL2 hm hk (fun j b h1 h2 h3 => hp.later hc hd hL j b h1 h2 h3) (fun hkk b k hb => hp.kAll hI hc hd hil hL hkk b k hb) hev
     refine ih _ _ w' e' (by simp [hsz]) ?_ (fun k hk => by
      have hki : k ≠ i := fun he => hk (by rw [he]; exact hpi)
      exact (hL2 k hki).trans (hpn k hk)) ?_ hI' (VInv.step hp hV hd ho hL1 hL2 hext h2 hE hv)
     · have := cnt_set hL hL1 hL2 ops.size
       rw [if_pos hil] at this; omega
     · intro k ok hLk hok' e1 he1 hb1
       by_cases hki : k = i
       · subst hki
         rw [ho] at hok'; cases hok'
         exact getD_set_true (hrd e1 he1 hb1)
       · have hLk' : listed.getD k false = true := by
           have := hL2 k hki
           dsimp only at this hLk
           rw [← this]; exact hLk
         exact getD_set_true (hc k ok hLk' hok' e1 he1 hb1)
    unfold wpOp
    simp only [ho]
    rw [hw]
    cases wd with
    | true =>
     rw [if_pos rfl]
     refine .inl ?_
     have hsnd := KOp.ok_snd hF (KE.ok_op hok) (maskE (fun t => memN t (d.x.reads S)) S (E i)) Y
     have hrun1 := hrun rfl
     rw [KOp.den_congr Y d.x.op fun y hy => hden y (by unfold KE.ros; exact List.mem_append_right _ hy)] at hsnd
     cases hpi : pn i with
     | none =>
      rw [hpi] at hrun1
      have hrun2 : d.x.op.den F (E i) Y = .v v Y' := hrun1
      rw [hrun2] at hsnd
      refine Oper.wp_mono2 ?_ ?_ (hsnd n (DF.any D.ds) (e.cut (Hf i).nxt) w a hrel harel)
      · rintro a' w' ⟨e2, v', rfl, hv, hev⟩
        exact next hpi v' w' e2 hv hev
      · intro _ _ _ h; exact h.elim
     | some pv =>
      rw [hpi] at hrun1
      obtain ⟨hrun2, hv0⟩ := hrun1
      rw [hrun2] at hsnd
      refine Oper.wp_mono2 ?_ ?_ (hsnd n (DF.any D.ds) (e.cut (Hf i).nxt) w a hrel harel)
      · intro _ _ h; exact h.elim
      · rintro X a' w' ⟨e2, v', rfl, rfl, hv, hev⟩
        obtain ⟨e', hI', hext, h2⟩ := hI.step hs hr0 hil hL hL1 hL2 hm hk (fun j b h1 h2 h3 => hp.later hc hd hL j b h1 h2 h3) (fun hkk b k hb => hp.kAll hI hc hd hil hL hkk b k hb) hev
        rcases hR with ⟨q1, _⟩ | ⟨i', pv', q0, q1, q2, rfl⟩
        · rw [q1 i] at hpi; cases hpi
        · have hii : i = i' := Classical.byContradiction fun h => by rw [q2 i h] at hpi; cases hpi
          subst hii
          rw [q1] at hpi; cases hpi
          refine ⟨e', v', rfl, ⟨badE l (E 0), ?_⟩, hv.mono fun b k hb => (h2 b k hb).2, hI'.cut hs hr0⟩
          refine arel_slot hV.size hV.defers hK0 fun x t hx => ?_
          have hb := badE_den (P := P) (n := n) hp.ok hp.len hx (E 0) l.length (Nat.le_refl _)
          rw [List.take_length] at hb
          rcases hb with q | ⟨g1, g2⟩
          · exact q _ _
          · rw [g1]
            exact (hV.old x t hx fun j hj _ => g2 j (by rw [hp.len]; exact hj)).mono hI'.ext
    | false =>
     obtain ⟨rfl, rfl, hpi⟩ := hidle rfl
     rw [if_neg (by simp)]
     exact next hpi undef w (e.cut (Hf i).nxt) (vrel_undef _) (Evo.refl hrel)
theorem ARel.clear {n : Nat} {D : DF} {e : Emb} {en : Env} {a : Act} (r : ARel S n D e en a) : ARel S n D e ⟨.nil, en.B⟩ a :=
 ⟨r.size, fun _ _ => .bad _, r.vars, r.defers, r.kept⟩
theorem KE.put_K {D : DF} {x : KE} (h : ∀ q, x.wr q → D.free q) {en : Env} (hK : D.K en.B) (v : AV) : D.K (x.put v en).B := by
 cases x with
 | p d k => exact h d rfl en.B v hK
 | gp c b d k => exact h d rfl en.B v hK
 | _ => exact hK
theorem badE_K {D : DF} : ∀ (l : List KD) (en : Env), (∀ d ∈ l, ∀ q, d.x.wr q → D.free q) → D.K en.B → D.K (badE l en).B
 | [], _, _, h => h
 | d :: l, en, hf, h => badE_K l (d.x.put (.x .bad) en) (fun d hd => hf d (List.mem_cons_of_mem _ hd)) (KE.put_K (hf d (by simp)) h _)
theorem region_any (hF : FsOk P F) (hmix : P.follows .mixedOrders = true) {id : Nat} (hck : dchk S ops l = true) (hsame : sameL (KE.ok P S n ops) (l.map (·.x)) ops.toList = true) (gf : Env → AHeap → List (List Nat)) :
  CSnd P S n (fun q => ∃ d ∈ l, d.x.wr q) (.region id ops true) (fun en H => runDG F l (gf ⟨.nil, en.B⟩ H) ⟨.nil, en.B⟩ H) := by
 intro D hfr en H hne e w a hr ha
 dsimp only at hne ⊢
 generalize gf ⟨.nil, en.B⟩ H = gs at hne ⊢
 have hne : runD F gs l gs ⟨.nil, en.B⟩ H ≠ .fail := fun h => hne (by unfold runDG; rw [h]; rfl)
 show (Code.region id ops true).wp P (Fits P S n D e H w (postD H (runD F gs l gs ⟨.nil, en.B⟩ H))) a w
 have hz : ∀ d ∈ l, d.cls = .z → d.x.op.isZ = true := fun d hd hcz => by
  obtain ⟨i, hi, rfl⟩ := List.getElem_of_mem hd
  have hlen := (sameL_get hsame).1
  simp only [List.length_map, Array.length_toList] at hlen
  unfold dchk at hck
  rw [List.all_eq_true] at hck
  have := hck i (by simpa using hi)
  rw [show l[i]? = some l[i] by simp [hi], show ops.toList[i]? = some ops[i] by simp [hlen ▸ hi]] at this
  simp only [Bool.and_eq_true] at this
  have h1 := this.1
  unfold dOne at h1
  simp only [Bool.and_eq_true] at h1
  have h2 := h1.2
  rw [hcz] at h2
  exact h2
 obtain ⟨E, Hf, Te, pn, hE0, hH0, hres, htr⟩ := runD_trace l gs ⟨.nil, en.B⟩ H hz hne
 have hp : Plan P S n F ops l gs pn E Hf Te := Plan.of (h1 := hck) hsame htr
 rw [hp.len] at hres
 generalize runD F gs l gs ⟨.nil, en.B⟩ H = R at hres ⊢
 have hK : ∀ k, k ≤ ops.size → D.K (E k).B := by
  intro k
  induction k with
  | zero => intro _; rw [hE0]; exact ha.kept
  | succ k ih =>
   intro hk
   obtain ⟨d, hd⟩ := hp.getD' k (by omega)
   obtain ⟨wd, v, Y, Y', D', _, hE, _⟩ := (hp.tr.stp k d hd).ex
   rw [hE]
   exact KE.put_K (fun q hq => hfr q ⟨d, List.mem_of_getElem? hd, hq⟩) (ih (by omega)) v
 have hr1 : Rel P.globals.size e (Hf 0) { w with drawn := w.drawn + 1 } := by rw [hH0]; exact hr.heap_eq rfl
 have hrep : ∀ i, (Array.replicate ops.size false).getD i false = false := fun i => by
  simp [Array.getD]
 have hw : ∀ X a' w', Fits P S n D e (Hf 0) { w with drawn := w.drawn + 1 } (postD (Hf 0) R) X a' w' → Fits P S n D e H w (postD H R) X a' w' := by
  intro X a' w' h
  rw [hH0] at h
  exact h.trans (Evo.drew hr _)
 have hK0 : D.K (badE l (E 0)).B := badE_K l (E 0) (fun d hd q hq => hfr q ⟨d, hd, hq⟩) (hK 0 (Nat.zero_le _))
 have := any_wp (D := D) hF hp (hK _ (Nat.le_refl _)) hK0 hr1 hres ops.size (Array.replicate ops.size false) a { w with drawn := w.drawn + 1 } e (by simp) (cnt_all _ _) (fun i _ => hrep i)
  (fun i o h => by
   have h1 : (Array.replicate ops.size false).getD i false = true := h
   rw [hrep i] at h1; cases h1) (Inv.start hr1 hrep)
  ⟨ha.size, ha.defers, fun x t hx i _ h => (by
   have h1 : (Array.replicate ops.size false).getD i false = true := h
   rw [hrep i] at h1; cases h1), fun x t hx _ => (by rw [hE0]; exact slot_arel ha.clear hx)⟩
 exact wp_mono (wp_region_any hmix this) fun X a' w' h => hw X a' w' h
end
end
end Go.Ab
namespace Go.Ab
open Go
inductive KCode where
 | skip
 | reg (l : List KE)
 | dreg (l : List KD)
 | seq (a b : KCode)
 | cond (c : KO) (a b : KCode)
 | block (id : Nat) (a : KCode)
 | loop (a : KCode)
 | exit (id : Nat)
 | ret
 | unk
def sq (l : List KE) (x : KCode) : KCode := .seq (.reg l) x
def sc (l : List KE) (c : KO) (x y : KCode) : KCode := .seq (.reg l) (.cond c x y)
def ss (x y : KCode) : KCode := .seq x y
noncomputable section
variable {S : BT Nat}
def rSeq (r : Res) (f : Env → AHeap → Res) : Res := Res.rec (motive := fun _ => Res) f .ext .ret .pan .fail r
def rBlock (id : Nat) (r : Res) : Res := Res.rec (motive := fun _ => Res) .nrm (fun id' en H => Bool.rec (motive := fun _ => Res) (.ext id' en H) (.nrm en H) (Nat.beq id' id)) .ret .pan .fail r
def loopN (φ : Env → AHeap → Res) (n : Nat) : Env → AHeap → Res := Nat.rec (motive := fun _ => Env → AHeap → Res) (fun _ _ => .fail) (fun _ ih en H => rSeq (φ en H) ih) n
def KCode.den (F : Fs) (c : KCode) : Env → AHeap → Res :=
 KCode.rec (motive := fun _ => Env → AHeap → Res) .nrm (fun l en H => runE F l ⟨.nil, en.B⟩ H) (fun l en H => runDG F l (guessD F l ⟨.nil, en.B⟩ H) ⟨.nil, en.B⟩ H)
  (fun _ _ x y en H => rSeq (x en H) y) (fun c _ _ x y en H => avB .fail (fun t => Bool.rec (motive := fun _ => Res) (y en H) (x en H) t) (c.den en))
  (fun id _ x en H => rBlock id (x en H)) (fun _ x => loopN x 1000000) (fun id => .ext id) .ret (fun _ _ => .fail) c
def KCode.wr (c : KCode) (q : VP) : Prop :=
 match c with
 | .reg l => ∃ x ∈ l, x.wr q
 | .dreg l => ∃ d ∈ l, d.x.wr q
 | .seq a b | .cond _ a b => a.wr q ∨ b.wr q
 | .block _ a | .loop a => a.wr q
 | _ => False
abbrev DCheck := BT Nat → Array Oper → List KD → Bool
def KCode.ok (P : Program) (S : BT Nat) (n : Nat) (dc : DCheck) : KCode → Code → Bool
 | .skip, .skip => true
 | .reg l, .region _ ops false => sameL (KE.ok P S n ops) l ops.toList
 | .dreg l, .region _ ops true => dc S ops l && sameL (KE.ok P S n ops) (l.map (·.x)) ops.toList
 | .seq a b, .seq x y => KCode.ok P S n dc a x && KCode.ok P S n dc b y
 | .cond c a b, .cond c' x y => c.ok P S c' && (KCode.ok P S n dc a x && KCode.ok P S n dc b y)
 | .block id a, .block id' x => Nat.beq id id' && KCode.ok P S n dc a x
 | .loop a, .loop x => KCode.ok P S n dc a x
 | .exit id, .exit id' => Nat.beq id id'
 | .ret, .ret => true
 | .unk, _ => true
 | _, _ => false
def DOk (P : Program) (S : BT Nat) (n : Nat) (F : Fs) (dc : DCheck) : Prop :=
 ∀ id ops l, dc S ops l = true → sameL (KE.ok P S n ops) (l.map (·.x)) ops.toList = true → CSnd P S n (fun q => ∃ d ∈ l, d.x.wr q) (.region id ops true) (fun en H => runDG F l (guessD F l ⟨.nil, en.B⟩ H) ⟨.nil, en.B⟩ H)
theorem dok {P : Program} {F : Fs} (hF : FsOk P F) (hmix : P.follows .mixedOrders = true) (S : BT Nat) (n : Nat) : DOk P S n F dchk :=
 fun id _ l h1 h2 => region_any (id := id) hF hmix h1 h2 (fun en H => guessD F l en H)
theorem csnd_reg {P : Program} {F : Fs} (hF : FsOk P F) {n id : Nat} {ops : Array Oper} {l : List KE} (h : sameL (KE.ok P S n ops) l ops.toList = true) : CSnd P S n (fun q => ∃ x ∈ l, x.wr q) (.region id ops false) (fun en H => runE F l ⟨.nil, en.B⟩ H) := by
 intro D hfr en H hne e w a hr ha
 refine wp_region ?_
 have := reg_wp hF (D := D) l ops.toList 0 (fun j _ => by simp) h (fun x hx q hq => hfr q ⟨x, hx, hq⟩) ⟨.nil, en.B⟩ H e w a hne hr ha.clear (Evo.refl hr)
 rw [List.range_eq_range']
 simpa using this
theorem csnd_seq {P : Program} {n : Nat} {x y : Code} {φ ψ : Env → AHeap → Res} {W V : VP → Prop} (hx : CSnd P S n W x φ) (hy : CSnd P S n V y ψ) : CSnd P S n (fun q => W q ∨ V q) (.seq x y) (fun en H => rSeq (φ en H) ψ) := by
 intro D hfr en H hne e w a hr ha
 dsimp only at hne ⊢
 have h1 := hx D (fun q hq => hfr q (.inl hq)) en H
 refine wp_seq ?_
 cases hφ : φ en H with
 | nrm en1 H1 =>
  rw [hφ] at h1 hne
  refine wp_mono (h1 (by simp) e w a hr ha) ?_
  rintro X a1 w1 ⟨rfl, e1, ha1, hv1⟩
  exact wp_mono (hy D (fun q hq => hfr q (.inr hq)) en1 H1 hne e1 w1 a1 hv1.rel ha1) fun X a' w' hf => hf.trans hv1
 | ext id en1 H1 =>
  rw [hφ] at h1
  refine wp_mono (h1 (by simp) e w a hr ha) ?_
  rintro X a1 w1 ⟨rfl, h⟩
  exact ⟨rfl, h⟩
 | ret en1 H1 =>
  rw [hφ] at h1
  refine wp_mono (h1 (by simp) e w a hr ha) ?_
  rintro X a1 w1 ⟨rfl, h⟩
  exact ⟨rfl, h⟩
 | pan v H1 =>
  rw [hφ] at h1
  refine wp_mono (h1 (by simp) e w a hr ha) ?_
  rintro X a1 w1 ⟨e', v', rfl, h⟩
  exact ⟨e', v', rfl, h⟩
 | fail => rw [hφ] at hne; exact absurd rfl hne
theorem csnd_cond {P : Program} {n : Nat} {c : Operand} {c' : KO} {x y : Code} {φ ψ : Env → AHeap → Res} {W V : VP → Prop} (hc : c'.ok P S c = true) (hx : CSnd P S n W x φ) (hy : CSnd P S n V y ψ) :
  CSnd P S n (fun q => W q ∨ V q) (.cond c x y) (fun en H => avB .fail (fun t => Bool.rec (motive := fun _ => Res) (ψ en H) (φ en H) t) (c'.den en)) := by
 intro D hfr en H hne e w a hr ha
 have h1 := KO.ok_spec hc n D e en a H w hr ha
 cases hv : c'.den en with
 | b t =>
  rw [hv] at h1
  generalize hcv : a.eval c = cv at h1
  cases h1
  simp only [hv] at hne ⊢
  cases t with
  | true => exact wp_cond_true hcv (hx D (fun q hq => hfr q (.inl hq)) en H hne e w a hr ha)
  | false => exact wp_cond_false hcv (hy D (fun q hq => hfr q (.inr hq)) en H hne e w a hr ha)
 | _ => simp only [hv] at hne; exact absurd rfl hne
theorem csnd_block {P : Program} {n id : Nat} {x : Code} {φ : Env → AHeap → Res} {W : VP → Prop} (hx : CSnd P S n W x φ) : CSnd P S n W (.block id x) (fun en H => rBlock id (φ en H)) := by
 intro D hfr en H hne e w a hr ha
 dsimp only at hne ⊢
 have h1 := hx D hfr en H
 refine wp_block ?_
 cases hφ : φ en H with
 | nrm en1 H1 =>
  rw [hφ] at h1
  refine wp_mono (h1 (by simp) e w a hr ha) ?_
  rintro X a1 w1 ⟨rfl, h⟩
  exact ⟨rfl, h⟩
 | ext id' en1 H1 =>
  rw [hφ] at h1 hne
  refine wp_mono (h1 (by simp) e w a hr ha) ?_
  rintro X a1 w1 ⟨rfl, h⟩
  show if id' = id then Fits P S n D e H w (rBlock id (.ext id' en1 H1)) .normal a1 w1 else Fits P S n D e H w (rBlock id (.ext id' en1 H1)) (.exit id') a1 w1
  have hb : rBlock id (.ext id' en1 H1) = Bool.rec (motive := fun _ => Res) (.ext id' en1 H1) (.nrm en1 H1) (Nat.beq id' id) := rfl
  rw [hb, brec]
  by_cases hid : id' = id
  · subst hid; simp only [Nat.beq_refl, if_true]; exact ⟨rfl, h⟩
  · rw [if_neg hid, if_neg (by rw [beq_tt]; exact hid)]; exact ⟨rfl, h⟩
 | ret en1 H1 =>
  rw [hφ] at h1
  refine wp_mono (h1 (by simp) e w a hr ha) ?_
  rintro X a1 w1 ⟨rfl, h⟩
  exact ⟨rfl, h⟩
 | pan v H1 =>
  rw [hφ] at h1
  refine wp_mono (h1 (by simp) e w a hr ha) ?_
  rintro X a1 w1 ⟨e', v', rfl, h⟩
  exact ⟨e', v', rfl, h⟩
 | fail => rw [hφ] at hne; exact absurd rfl hne
def LoopWp (P : Program) (c : Code) (Q : Exit → Act → World → Prop) (a : Act) (w : World) : Prop :=
 ∀ (b : Frame) (k : List Item) (cs : List Frame), ∃ e a' w', Q e a' w' ∧ Arrives P (lone (b.at a (.code c :: .inLoop c :: k)) cs w) b k cs e a' w'
theorem loopWp_step {P : Program} {c : Code} {Q : Exit → Act → World → Prop} {a : Act} {w : World} (h : c.wp P (Exit.then (LoopWp P c Q) Q) a w) : LoopWp P c Q a w := by
 intro b k cs
 obtain ⟨e, a₁, w₁, hq, harr⟩ := h b (.inLoop c :: k) cs
 cases e with
 | normal =>
  obtain ⟨e₂, a₂, w₂, hq₂, harr₂⟩ := hq b k cs
  exact ⟨e₂, a₂, w₂, hq₂, .of_steps (Steps.trans harr (.one step_inLoop)) harr₂⟩
 | exit id => exact ⟨_, a₁, w₁, hq, .pass (x := .inLoop c) rfl (fun _ _ => .inl (by simp)) harr⟩
 | goto l => exact ⟨_, a₁, w₁, hq, .pass (x := .inLoop c) rfl (fun _ _ => .inl (by simp)) harr⟩
 | ret => exact ⟨_, a₁, w₁, hq, .pass (x := .inLoop c) rfl (fun _ _ => .inl (by simp)) harr⟩
 | panic ch => exact ⟨_, a₁, w₁, hq, .pass (x := .inLoop c) rfl (fun _ _ => .inl (by simp)) harr⟩
 | outgrown => exact ⟨_, a₁, w₁, hq, .pass (x := .inLoop c) rfl (fun _ _ => .inl (by simp)) harr⟩
theorem loopWp_wp {P : Program} {c : Code} {Q : Exit → Act → World → Prop} {a : Act} {w : World} (h : LoopWp P c Q a w) : (Code.loop c).wp P Q a w := by
 intro b k cs
 obtain ⟨e, a', w', hq, harr⟩ := h b k cs
 exact ⟨e, a', w', hq, .of_steps (.one step_loop) harr⟩
theorem LoopWp.mono {P : Program} {c : Code} {Q Q' : Exit → Act → World → Prop} {a : Act} {w : World} (h : LoopWp P c Q a w) (hq : ∀ e a w, Q e a w → Q' e a w) : LoopWp P c Q' a w :=
 fun b k cs => let ⟨e, a', w', q, r⟩ := h b k cs; ⟨e, a', w', hq _ _ _ q, r⟩
theorem loopN_succ (φ : Env → AHeap → Res) (N : Nat) (en : Env) (H : AHeap) : loopN φ (N + 1) en H = rSeq (φ en H) (loopN φ N) := rfl
theorem csnd_rounds {P : Program} {n : Nat} {x : Code} {φ : Env → AHeap → Res} {W : VP → Prop} (hx : CSnd P S n W x φ) : ∀ (N : Nat) (D : DF), (∀ q, W q → D.free q) → ∀ (en : Env) (H : AHeap), loopN φ N en H ≠ .fail → ∀ e w a, Rel P.globals.size e H w → ARel S n D e en a →
  LoopWp P x (Fits P S n D e H w (loopN φ N en H)) a w
 | 0, D, _, en, H, hne, e, w, a, hr, ha => absurd rfl hne
 | N + 1, D, hfr, en, H, hne, e, w, a, hr, ha => by
  have h1 := hx D hfr en H
  rw [loopN_succ] at hne ⊢
  refine loopWp_step ?_
  cases hφ : φ en H with
  | nrm en1 H1 =>
   rw [hφ] at h1 hne
   refine wp_mono (h1 (by simp) e w a hr ha) ?_
   rintro X a1 w1 ⟨rfl, e1, ha1, hv1⟩
   exact (csnd_rounds hx N D hfr en1 H1 hne e1 w1 a1 hv1.rel ha1).mono fun X a' w' hf => hf.trans hv1
  | ext id en1 H1 =>
   rw [hφ] at h1
   refine wp_mono (h1 (by simp) e w a hr ha) ?_
   rintro X a1 w1 ⟨rfl, h⟩
   exact ⟨rfl, h⟩
  | ret en1 H1 =>
   rw [hφ] at h1
   refine wp_mono (h1 (by simp) e w a hr ha) ?_
   rintro X a1 w1 ⟨rfl, h⟩
   exact ⟨rfl, h⟩
  | pan v H1 =>
   rw [hφ] at h1
   refine wp_mono (h1 (by simp) e w a hr ha) ?_
   rintro X a1 w1 ⟨e', v', rfl, h⟩
   exact ⟨e', v', rfl, h⟩
  | fail => rw [hφ] at hne; exact absurd rfl hne
theorem csnd_loop {P : Program} {n : Nat} {x : Code} {φ : Env → AHeap → Res} {W : VP → Prop} (hx : CSnd P S n W x φ) (N : Nat) : CSnd P S n W (.loop x) (loopN φ N) :=
 fun D hfr en H hne e w a hr ha => loopWp_wp (csnd_rounds hx N D hfr en H hne e w a hr ha)
theorem code_snd {P : Program} {F : Fs} (hF : FsOk P F) {n : Nat} {dc : DCheck} (hD : DOk P S n F dc) : ∀ (k : KCode) (c : Code), k.ok P S n dc c = true → CSnd P S n k.wr c (k.den F)
 | .skip, c, h => by
  cases c <;> first | (cases h; done) | skip
  exact fun D _ en H _ e w a hr ha => wp_skip ⟨rfl, e, ha, Evo.refl hr⟩
 | .reg l, c, h => by
  cases c with
  | region id ops d =>
   cases d with
   | false => exact csnd_reg hF h
   | true => cases h
  | _ => cases h
 | .dreg l, c, h => by
  cases c with
  | region id ops d =>
   cases d with
   | false => cases h
   | true =>
    simp only [KCode.ok, Bool.and_eq_true] at h
    exact hD id ops l h.1 h.2
  | _ => cases h
 | .seq a b, c, h => by
  cases c <;> first | (cases h; done) | skip
  simp only [KCode.ok, Bool.and_eq_true] at h
  exact csnd_seq (code_snd hF hD a _ h.1) (code_snd hF hD b _ h.2)
 | .cond c' a b, c, h => by
  cases c <;> first | (cases h; done) | skip
  simp only [KCode.ok, Bool.and_eq_true] at h
  exact csnd_cond h.1 (code_snd hF hD a _ h.2.1) (code_snd hF hD b _ h.2.2)
 | .block id a, c, h => by
  cases c <;> first | (cases h; done) | skip
  simp only [KCode.ok, Bool.and_eq_true] at h
  have := Nat.eq_of_beq_eq_true h.1
  subst this
  exact csnd_block (code_snd hF hD a _ h.2)
 | .loop a, c, h => by
  cases c <;> first | (cases h; done) | skip
  exact csnd_loop (code_snd hF hD a _ h) 1000000
 | .unk, c, h => fun D _ en H hne => absurd rfl hne
 | .exit id, c, h => by
  cases c <;> first | (cases h; done) | skip
  have := Nat.eq_of_beq_eq_true h
  subst this
  exact fun D _ en H _ e w a hr ha => wp_exit ⟨rfl, e, ha, Evo.refl hr⟩
 | .ret, c, h => by
  cases c <;> first | (cases h; done) | skip
  exact fun D _ en H _ e w a hr ha => wp_ret ⟨rfl, e, ha, Evo.refl hr⟩
end
end Go.Ab
namespace Go.Ab
open Go
noncomputable section
def leftL (es : List MapEntry) (seen : Array Nat) : List MapEntry := es.filter fun e => !seen.contains e.born
theorem leftL_none (es : List MapEntry) : leftL es #[] = es := by simp [leftL]
theorem run_rangeM {P : Program} (w : World) {t k e : TypeId} {bm : Nat} {es : Array MapEntry} {clock : Nat} (ht : P.underlying t = some (.map k e)) (hb : w.heap[bm]? = some (.map es clock)) :
  (Instr.range t (.map (some bm))).run P w = .ok (.pointer (some ⟨w.heap.size, 0, none⟩)) (w.alloc (.mapIter (some bm) clock #[] clock)) := run_range_map w t k e bm es clock ht hb
theorem run_nextM {P : Program} (w : World) (ty : TypeId) (r bm since c0 : Nat) (seen : Array Nat) (es : Array MapEntry) (clock : Nat) (hr : w.heap[r]? = some (.mapIter (some bm) since seen c0)) (hb : w.heap[bm]? = some (.map es clock))
  (hold : ∀ x ∈ es.toList, x.born < since) (hsc : since ≤ c0) :
  (leftL es.toList seen = [] ∧ (Instr.next (.pointer (some ⟨r, 0, none⟩)) false ty).run P w = .ok (.tuple #[.bool false]) w) ∨
  ∃ (j : Nat) (e : MapEntry) (m : Nat), (leftL es.toList seen)[j]? = some e ∧ (Instr.next (.pointer (some ⟨r, 0, none⟩)) false ty).run P w = .ok (.tuple #[.bool true, e.key, e.val]) { w with drawn := m, heap := w.heap.setIfInBounds r (.mapIter (some bm) since (seen.push e.born) clock) } := by
 have hgr : (getObj r).run P w = .ok (.mapIter (some bm) since seen c0) w := by simp [getObj, Sem.run, hr]
 have hgb : (getObj bm).run P w = .ok (.map es clock) w := by simp [getObj, Sem.run, hb]
 have hL : leftL es.toList seen = (Array.filter (fun e => !seen.contains e.born) es).toList := by rw [Array.toList_filter]; rfl
 rw [hL]
 simp only [Instr.next, Sem.run_bind, hgr, hgb, Result.andThen_ok, next_test_false seen es since c0 hold hsc, Bool.false_eq_true, if_false]
 have hmem : ∀ x ∈ (Array.filter (fun e => !seen.contains e.born) es).toList, x.born < since := fun x hx => hold x (by simp at hx ⊢; exact hx.1)
 generalize Array.filter (fun e => !seen.contains e.born) es = L at hmem ⊢
 have e1 : L.filter (fun x => decide (x.born < since)) = L := Array.filter_eq_self.2 (fun x hx => by simpa using hmem x (by simpa using hx))
 have e2 : L.filter (fun x => decide (x.born ≥ since)) = #[] := by
  rw [Array.filter_eq_empty_iff]
  intro x hx
  have := hmem x (by simpa using hx)
  simp
  omega
 simp only [e1, e2, Array.append_empty]
 by_cases h0 : L.size = 0
 · left
   have : L = #[] := Array.eq_empty_of_size_eq_zero h0
   subst this
   refine ⟨rfl, ?_⟩
   simp [choose, Sem.run, Question.forced]
 · right
   have hne : L.isEmpty = false := by simp [Array.isEmpty, h0]
   simp only [hne, Bool.false_eq_true, if_false, Array.empty_append, Array.size_map]
   have hch : ∃ (j m : Nat), j < L.size ∧ (choose (Question.mapNext L.size)).run P w = .ok j { w with drawn := m } := by
    by_cases hf : L.size ≤ 1
    · exact ⟨0, w.drawn, by omega, by simp [choose, Sem.run, Question.forced, hf]⟩
    · exact ⟨_, w.drawn + 1, Nat.mod_lt _ (by omega), by
        simp only [choose, Sem.run, Question.forced, decide_eq_true_eq, hf, if_false, Question.cut]
        rfl⟩
   obtain ⟨j, m, hj, hrun⟩ := hch
   refine ⟨j, L[j], m, by simp [hj], ?_⟩
   have hset : ∀ (o' : Obj), (setObj r o').run P { w with drawn := m } = .ok () { w with drawn := m, heap := w.heap.setIfInBounds r o' } := fun o' => by
    simp only [setObj, Sem.run, hr]
   simp only [hrun, Array.getElem?_map, Array.getElem?_eq_getElem hj, Option.map_some, Sem.run_bind, hset, Result.andThen_ok, Sem.run_pure]
theorem run_nextN {P : Program} (w : World) (ty : TypeId) (r a b : Nat) (s : Array Nat) (hr : w.heap[r]? = some (.mapIter none a s b)) :
  (Instr.next (.pointer (some ⟨r, 0, none⟩)) false ty).run P w = .ok (.tuple #[.bool false]) w := by
 have hgr : (getObj r).run P w = .ok (.mapIter none a s b) w := by simp [getObj, Sem.run, hr]
 simp only [Instr.next, Sem.run_bind, hgr, Result.andThen_ok, Sem.run_pure]
theorem run_entryM {P : Program} (w : World) (r bm since : Nat) (seen : Array Nat) (es : Array MapEntry) (clock : Nat) (e : MapEntry) (hr : w.heap[r]? = some (.mapIter (some bm) since (seen.push e.born) clock)) (hb : w.heap[bm]? = some (.map es clock))
  (he : e ∈ es.toList) (hn : (es.toList.map (·.born)).Nodup) : (Instr.entry (.pointer (some ⟨r, 0, none⟩))).run P w = .ok (.tuple #[e.key, e.val]) w := by
 have hgr : (getObj r).run P w = .ok (.mapIter (some bm) since (seen.push e.born) clock) w := by simp [getObj, Sem.run, hr]
 have hgb : (getObj bm).run P w = .ok (.map es clock) w := by simp [getObj, Sem.run, hb]
 have hf : es.find? (·.born == e.born) = some e := by rw [← Array.find?_toList]; exact find_born e es.toList hn he
 simp only [Instr.entry, Sem.run_bind, hgr, Result.andThen_ok, Array.back?_push, hgb, bne_self_eq_false, Bool.false_eq_true, if_false, hf, Sem.run_pure]
theorem filter_born {e : MapEntry} : ∀ {l : List MapEntry} {j : Nat}, (l.map (·.born)).Nodup → l[j]? = some e → l.filter (fun x => !(x.born == e.born)) = l.eraseIdx j
 | [], j, _, h => by simp at h
 | x :: l, 0, hn, h => by
  simp at h
  subst h
  rw [List.map_cons, List.nodup_cons] at hn
  rw [List.filter_cons, List.eraseIdx_cons_zero]
  simp only [beq_self_eq_true, Bool.not_true, Bool.false_eq_true, if_false]
  rw [List.filter_eq_self]
  intro y hy
  have : y.born ≠ x.born := fun he => hn.1 (List.mem_map.2 ⟨y, hy, he⟩)
  simp [this]
 | x :: l, j + 1, hn, h => by
  rw [List.map_cons, List.nodup_cons] at hn
  have h' : l[j]? = some e := by simpa using h
  have hx : x.born ≠ e.born := fun he => hn.1 (List.mem_map.2 ⟨e, List.mem_of_getElem? h', he.symm⟩)
  rw [List.filter_cons, List.eraseIdx_cons_succ, filter_born hn.2 h']
  simp [hx]
theorem leftL_push {es : List MapEntry} (hn : (es.map (·.born)).Nodup) {seen : Array Nat} {e : MapEntry} {j : Nat} (h : (leftL es seen)[j]? = some e) : leftL es (seen.push e.born) = (leftL es seen).eraseIdx j := by
 have hn' : ((leftL es seen).map (·.born)).Nodup := List.Nodup.sublist (List.Sublist.map _ List.filter_sublist) hn
 rw [← filter_born hn' h]
 unfold leftL
 rw [List.filter_filter]
 congr 1
 funext x
 rw [contains_push]
 cases seen.contains x.born <;> simp
theorem MRel.erase {e : Emb} : ∀ {l : List (AV × AV)} {l' : List MapEntry}, MRel e l l' → ∀ (j : Nat), MRel e (l.eraseIdx j) (l'.eraseIdx j)
 | _, _, .nil, j => by simpa using MRel.nil
 | _, _, .cons hk hv t, 0 => t
 | _, _, .cons hk hv t, j + 1 => .cons hk hv (MRel.erase t j)
theorem MRel.get' {e : Emb} : ∀ {l : List (AV × AV)} {l' : List MapEntry}, MRel e l l' → ∀ {j : Nat} {m : MapEntry}, l'[j]? = some m → ∃ p, l[j]? = some p ∧ VRel e p.1 m.key ∧ VRel e p.2 m.val
 | _, _, .nil, _, _, h => by simp at h
 | _, _, .cons (k := k) (v := v) hk hv t, 0, m, h => by simp at h; subst h; exact ⟨(k, v), by simp, hk, hv⟩
 | _, _, .cons hk hv t, j + 1, m, h => by
  obtain ⟨p, a, b⟩ := MRel.get' t (j := j) (m := m) (by simpa using h)
  exact ⟨p, by simpa using a, b⟩
theorem MRel.nil_of {e : Emb} {l : List (AV × AV)} (h : MRel e l []) : l = [] := by cases h; rfl
def sel {α : Type} (l : List α) : List (α × List α) := List.rec (motive := fun _ => List (α × List α)) [] (fun a l ih => (a, l) :: List.rec (motive := fun _ => List (α × List α)) [] (fun q _ ih2 => (q.1, a :: q.2) :: ih2) ih) l
theorem sel_cons {α : Type} (a : α) (l : List α) : sel (a :: l) = (a, l) :: (sel l).map (fun q => (q.1, a :: q.2)) := by
 have h : sel (a :: l) = (a, l) :: List.rec (motive := fun _ => List (α × List α)) [] (fun q _ ih2 => (q.1, a :: q.2) :: ih2) (sel l) := rfl
 rw [h]
 congr 1
 generalize sel l = m
 induction m with
 | nil => rfl
 | cons q m ih => rw [List.map_cons, ← ih]
theorem sel_mem {α : Type} : ∀ {l : List α} {j : Nat} {a : α}, l[j]? = some a → (a, l.eraseIdx j) ∈ sel l
 | [], _, _, h => by simp at h
 | x :: l, 0, a, h => by simp at h; subst h; rw [sel_cons]; simp
 | x :: l, j + 1, a, h => by
  rw [sel_cons]
  refine List.mem_cons_of_mem _ (List.mem_map.2 ⟨(a, l.eraseIdx j), sel_mem (by simpa using h), ?_⟩)
  simp
theorem Evo.hid {G : Nat} {e0 e : Emb} {H0 H : AHeap} {w0 w : World} (h : Evo G e0 H0 w0 e H w) {B : Nat} (hB : w0.heap.size ≤ B) (hd : ∀ b i, e b = some i → i.blk = B → H.get b = some .dead) (o : Obj) (m : Nat) :
  Evo G e0 H0 w0 e H { w with drawn := m, heap := w.heap.setIfInBounds B o } where
 rel := {
  lt := h.rel.lt
  bnd := fun b i hb => by have := h.rel.bnd b i hb; simpa using this
  glob := h.rel.glob
  obj := fun b i x hb hx => by
   by_cases hBe : i.blk = B
   · rw [hd b i hb hBe] at hx; cases hx; trivial
   · have : ({ w with drawn := m, heap := w.heap.setIfInBounds B o } : World).heap[i.blk]? = w.heap[i.blk]? := by
       show (w.heap.setIfInBounds B o)[i.blk]? = _
       rw [Array.getElem?_setIfInBounds, if_neg (Ne.symm hBe)]
     rw [this]; exact h.rel.obj b i x hb hx
  sep := h.rel.sep }
 ext := h.ext
 size := by simpa using h.size
 tape := h.tape
 os := h.os
 out := h.out
 nxt := h.nxt
 low := h.low
 same := h.same
 dead := h.dead
 fresh := h.fresh
 frame := fun C hC hc => by
  show (w.heap.setIfInBounds B o)[C]? = _
  rw [Array.getElem?_setIfInBounds, if_neg (by omega)]
  exact h.frame C hC hc
end
end Go.Ab
namespace Go.Ab
open Go
inductive NCode where
 | det (k : KCode)
 | seq (a b : NCode)
  | rng (x : KO) (t5 : Nat) (p6 : VP) (t7 t8 t9 id0 id1 : Nat) (l : List KE) (D : KCode)
  | srng (x : KO) (t5 : Nat) (p6 p7 : VP) (t8 id0 id1 : Nat) (D : KCode)
noncomputable section
variable {S : BT Nat}
def minN (a b : Nat) : Nat := Bool.rec (motive := fun _ => Nat) b a (Nat.ble a b)
theorem minN_eq (a b : Nat) : minN a b = min a b := by
 unfold minN; rw [brec]; simp only [ble_tt]; split <;> omega
def itAt (p6 : VP) (it : Nat) (B : BT AV) : Bool := avP false (fun b o => bif' false (Nat.beq o 0) (Nat.beq b it)) (p6.get B)
theorem itAt_spec {p6 : VP} {it : Nat} {B : BT AV} (h : itAt p6 it B = true) : p6.get B = .p it 0 := by
 unfold itAt at h
 cases hp : p6.get B with
 | p b o =>
  rw [hp] at h
  have h' : bif' false (Nat.beq o 0) (Nat.beq b it) = true := h
  cases c : Nat.beq b it with
  | false => rw [c] at h'; cases h'
  | true =>
   rw [c] at h'
   rw [Nat.eq_of_beq_eq_true c, Nat.eq_of_beq_eq_true h']
 | _ => rw [hp] at h; cases h
def roundA (F : Fs) (t9 id1 : Nat) (l : List KE) (D : KCode) (p : AV × AV) (en : Env) (H : AHeap) : Res :=
 rBlock id1 (rSeq (runE F l ⟨.cons t9 (.x (.tup [p.1, p.2])) .nil, en.B⟩ H) (D.den F))
def stepN (ih : List (AV × AV) → Env → AHeap → List Res) (ok : Env → AHeap → Bool) (left : List (AV × AV)) (r : Res) : List Res :=
 Res.rec (motive := fun _ => List Res) (fun en' H' => Bool.rec (motive := fun _ => List Res) [.fail] (ih left en' H') (ok en' H')) (fun _ _ _ => [.fail]) (fun _ _ => [.fail]) (fun _ _ => [.fail]) [.fail] r
def catN {α : Type} (l : List α) (f : α → List Res) : List Res := List.rec (motive := fun _ => List Res) [] (fun q _ acc => f q ++ acc) l
theorem catN_mem {α : Type} {f : α → List Res} {r : Res} : ∀ {l : List α} {q : α}, q ∈ l → r ∈ f q → r ∈ catN l f
 | a :: l, q, hq, hr => by
  show r ∈ f a ++ catN l f
  rcases List.mem_cons.1 hq with rfl | hq
  · exact List.mem_append_left _ hr
  · exact List.mem_append_right _ (catN_mem hq hr)
def roundsN (φ : AV × AV → Env → AHeap → Res) (ok : Env → AHeap → Bool) (n : Nat) : List (AV × AV) → Env → AHeap → List Res :=
 Nat.rec (motive := fun _ => List (AV × AV) → Env → AHeap → List Res) (fun left en H => List.rec (motive := fun _ => List Res) [.nrm en H] (fun _ _ _ => [.fail]) left)
  (fun _ ih left en H => List.rec (motive := fun _ => List Res) [.nrm en H] (fun _ _ _ => catN (sel left) (fun q => stepN ih ok q.2 (φ q.1 en H))) left) n
theorem roundsN_nil (φ : AV × AV → Env → AHeap → Res) (ok : Env → AHeap → Bool) (n : Nat) (en : Env) (H : AHeap) : roundsN φ ok n [] en H = [.nrm en H] := by cases n <;> rfl
theorem roundsN_one {φ : AV × AV → Env → AHeap → Res} {ok : Env → AHeap → Bool} {n : Nat} {left : List (AV × AV)} {en : Env} {H : AHeap} (h : ∀ r ∈ roundsN φ ok n left en H, r ≠ .fail) {j : Nat} {p : AV × AV} (hj : left[j]? = some p) :
  ∃ k en' H', n = k + 1 ∧ φ p en H = .nrm en' H' ∧ ok en' H' = true ∧ ∀ r ∈ roundsN φ ok k (left.eraseIdx j) en' H', r ∈ roundsN φ ok n left en H := by
 cases left with
 | nil => simp at hj
 | cons a l =>
  cases n with
  | zero => exact absurd rfl (h .fail (by show Res.fail ∈ [Res.fail]; simp))
  | succ k =>
   have hd : roundsN φ ok (k + 1) (a :: l) en H = catN (sel (a :: l)) (fun q => stepN (roundsN φ ok k) ok q.2 (φ q.1 en H)) := rfl
   have hm := sel_mem hj
   have hin : ∀ r ∈ stepN (roundsN φ ok k) ok ((a :: l).eraseIdx j) (φ p en H), r ∈ roundsN φ ok (k + 1) (a :: l) en H := fun r hr => by
    rw [hd]; exact catN_mem hm hr
   cases hφ : φ p en H with
   | nrm en' H' =>
    rw [hφ] at hin
    have hs : stepN (roundsN φ ok k) ok ((a :: l).eraseIdx j) (.nrm en' H') = Bool.rec (motive := fun _ => List Res) [.fail] (roundsN φ ok k ((a :: l).eraseIdx j) en' H') (ok en' H') := rfl
    rw [hs] at hin
    cases hok : ok en' H' with
    | false => rw [hok] at hin; exact absurd rfl (h _ (hin .fail (by simp)))
    | true => rw [hok] at hin; exact ⟨k, en', H', rfl, rfl, hok, hin⟩
   | _ => rw [hφ] at hin; exact absurd rfl (h _ (hin .fail (by show Res.fail ∈ [Res.fail]; simp)))
def backL (H0 : AHeap) (l : List Res) : List Res := List.rec (motive := fun _ => List Res) [] (fun r _ ih => Res.rec (motive := fun _ => Res) (fun en H => .nrm ⟨.nil, en.B⟩ (H.withLow (minN H0.low H.low))) (fun _ _ _ => .fail) (fun _ _ => .fail) (fun _ _ => .fail) .fail r :: ih) l
theorem backL_mem {H0 : AHeap} {en : Env} {H : AHeap} : ∀ {l : List Res}, Res.nrm en H ∈ l → Res.nrm ⟨.nil, en.B⟩ (H.withLow (minN H0.low H.low)) ∈ backL H0 l
 | r :: l, h => by
  rcases List.mem_cons.1 h with rfl | h
  · exact List.mem_cons_self
  · exact List.mem_cons_of_mem _ (backL_mem h)
theorem backL_ok {H0 : AHeap} : ∀ {l : List Res}, (∀ r ∈ backL H0 l, r ≠ .fail) → ∀ r ∈ l, r ≠ .fail
 | r :: l, h, q, hq => by
  rcases List.mem_cons.1 hq with rfl | hq
  · rintro rfl
    exact h .fail (List.mem_cons_self) rfl
  · exact backL_ok (fun s hs => h s (List.mem_cons_of_mem _ hs)) q hq
def rngDen (F : Fs) (x : KO) (p6 : VP) (t9 id1 : Nat) (l : List KE) (D : KCode) (en : Env) (H : AHeap) : List Res :=
 Option.rec (motive := fun _ => List Res) [.fail] (fun es => backL H (roundsN (roundA F t9 id1 l D) (fun en' H' => bif' false (Nat.ble H.nxt H'.low) (itAt p6 H.nxt en'.B)) es.length es ⟨.nil, p6.put (.p H.nxt 0) en.B⟩ ((H.withLow H.nxt).alloc .dead)))
  (Bool.rec (motive := fun _ => Option (List (AV × AV))) none (mapEs H (x.den ⟨.nil, en.B⟩)) (itAt p6 H.nxt (p6.put (.p H.nxt 0) en.B)))
def roundS (F : Fs) (p7 : VP) (id1 : Nat) (D : KCode) (pos c : Nat) (en : Env) (H : AHeap) : Res := rBlock id1 (D.den F ⟨.nil, p7.put (.x (.tup [.b true, .i 3 pos, .i 2 c])) en.B⟩ H)
def stepS (ok : Env → AHeap → Bool) (next : Env → AHeap → Res) (r : Res) : Res := Res.rec (motive := fun _ => Res) (fun en H => Bool.rec (motive := fun _ => Res) .fail (next en H) (ok en H)) (fun _ _ _ => .fail) .ret (fun _ _ => .fail) .fail r
def roundsS (φ : Nat → Nat → Env → AHeap → Res) (ok : Env → AHeap → Bool) (p7 : VP) (k : Nat) : Nat → Nat → Env → AHeap → Res :=
 Nat.rec (motive := fun _ => Nat → Nat → Env → AHeap → Res) (fun _ _ en H => .nrm ⟨.nil, p7.put (.x .bad) en.B⟩ H)
  (fun _ ih pos code en H => Bool.rec (motive := fun _ => Res) .fail (stepS ok (ih (Nat.add pos 1) (Nat.div code 256)) (φ pos (Nat.mod code 256) en H)) (Nat.ble (Nat.add (Nat.mod code 256) 1) 128)) k
def backS (H0 : AHeap) (r : Res) : Res := Res.rec (motive := fun _ => Res) (fun en H => .nrm ⟨.nil, en.B⟩ (H.withLow (minN H0.low H.low))) (fun _ _ _ => .fail) (fun en H => .ret en (H.withLow (minN H0.low H.low))) (fun _ _ => .fail) .fail r
def srngDen (F : Fs) (x : KO) (p6 p7 : VP) (id1 : Nat) (D : KCode) (en : Env) (H : AHeap) : List Res :=
 [avS .fail (fun len code => bif' .fail (bif' .fail (backS H (roundsS (roundS F p7 id1 D) (fun en' H' => bif' false (Nat.ble H.nxt H'.low) (itAt p6 H.nxt en'.B)) p7 len 0 code ⟨.nil, p6.put (.p H.nxt 0) en.B⟩ ((H.withLow H.nxt).alloc .dead)))
  (Nat.ble (Nat.add len 1) 9223372036854775808)) (itAt p6 H.nxt (p6.put (.p H.nxt 0) en.B))) (x.den ⟨.nil, en.B⟩)]
def lSeq (l : List Res) (f : Env → AHeap → List Res) : List Res := catN l (fun r => Res.rec (motive := fun _ => List Res) f (fun _ _ _ => [r]) (fun _ _ => [r]) (fun _ _ => [r]) [r] r)
def NCode.den (F : Fs) (c : NCode) : Env → AHeap → List Res :=
 NCode.rec (motive := fun _ => Env → AHeap → List Res) (fun k en H => [k.den F en H]) (fun _ _ x y en H => lSeq (x en H) y) (fun x _ p6 _ _ t9 _ id1 l D => rngDen F x p6 t9 id1 l D) (fun x _ p6 p7 _ _ id1 D => srngDen F x p6 p7 id1 D) c
def dstT (S : BT Nat) (n t : Nat) (o : Oper) : Bool := (match o.dst with | some d => Nat.beq d t | none => false) && o.guard.isNone && Nat.ble (t + 1) n && Nat.beq (countB t S) 0
theorem dstT_spec {S : BT Nat} {n t : Nat} {o : Oper} (h : dstT S n t o = true) : o.dst = some t ∧ o.guard.isNone = true ∧ t < n ∧ countB t S = 0 := by
 simp only [dstT, Bool.and_eq_true, ble_tt, beq_tt] at h
 obtain ⟨⟨⟨h1, h2⟩, h3⟩, h4⟩ := h
 refine ⟨?_, h2, by omega, h4⟩
 cases hd : o.dst with
 | none => rw [hd] at h1; cases h1
 | some d => rw [hd] at h1; rw [Nat.eq_of_beq_eq_true h1]
def dstV (S : BT Nat) (n t : Nat) (o : Oper) : Bool := (match o.dst with | some d => Nat.beq d t | none => false) && o.guard.isNone && Nat.ble (t + 1) n && Nat.ble (countB t S) 1
theorem dstV_spec {S : BT Nat} {n t : Nat} {o : Oper} (h : dstV S n t o = true) : o.dst = some t ∧ o.guard.isNone = true ∧ t < n ∧ countB t S ≤ 1 := by
 simp only [dstV, Bool.and_eq_true, ble_tt] at h
 obtain ⟨⟨⟨h1, h2⟩, h3⟩, h4⟩ := h
 refine ⟨?_, h2, by omega, h4⟩
 cases hd : o.dst with
 | none => rw [hd] at h1; cases h1
 | some d => rw [hd] at h1; rw [Nat.eq_of_beq_eq_true h1]
def strT (P : Program) (t : TypeId) : Bool := match P.underlying t with | some .string => true | _ => false
theorem strT_spec {P : Program} {t : TypeId} (h : strT P t = true) : P.underlying t = some .string := by
 unfold strT at h
 split at h
 · assumption
 · cases h
def NCode.ok (P : Program) (S : BT Nat) (n : Nat) (dc : DCheck) : NCode → Code → Bool
 | .det k, c => k.ok P S n dc c
 | .seq a b, .seq x y => NCode.ok P S n dc a x && NCode.ok P S n dc b y
 | .rng x t5 p6 t7 t8 t9 id0 id1 l D, .seq (.region _ ⟨[o5, o6]⟩ false) (.block i0 (.loop (.seq (.region _ ⟨[o7, o8]⟩ false) (.seq (.cond (.tmp c8) .skip (.exit e0)) (.block i1 (.seq (.region _ ⟨o9 :: os⟩ false) d)))))) =>
  dstT S n t5 o5 && dstT S n t7 o7 && dstT S n t8 o8 && dstT S n t9 o9 && Nat.beq i0 id0 && Nat.beq e0 id0 && Nat.beq i1 id1 && Nat.beq c8 t8 &&
  (match o5.op with | .move y => x.ok P S y | _ => false) && (match o6.op with | .range ty (.tmp u) => Nat.beq u t5 && (mapOf P ty).isSome | _ => false) &&
  (match p6.at S with
   | some t6 => (match o6.dst with | some d => Nat.beq d t6 | none => false) && o6.guard.isNone && Nat.ble (t6 + 1) n && Nat.ble (countB t6 S) 1 && !(Nat.beq t5 t6) &&
    (match o7.op with | .next (.tmp u) false => Nat.beq u t6 | _ => false) && (match o9.op with | .entry (.tmp u) => Nat.beq u t6 | _ => false)
   | none => false) &&
  (match o8.op with | .extract (.tmp u) 0 => Nat.beq u t7 | _ => false) && sameL (KE.ok P S n ⟨o9 :: os⟩) l os && D.ok P S n dc d
 | .srng x t5 p6 p7 t8 id0 id1 D, .seq (.region _ ⟨[o5, o6]⟩ false) (.block i0 (.loop (.seq (.region _ ⟨[o7, o8]⟩ false) (.seq (.cond (.tmp c8) .skip (.exit e0)) (.block i1 d))))) =>
  dstT S n t5 o5 && dstT S n t8 o8 && Nat.beq i0 id0 && Nat.beq e0 id0 && Nat.beq i1 id1 && Nat.beq c8 t8 &&
  (match o5.op with | .move y => x.ok P S y | _ => false) && (match o6.op with | .range ty (.tmp u) => Nat.beq u t5 && strT P ty | _ => false) &&
  (match p6.at S with
   | some t6 => dstV S n t6 o6 && (match p7.at S with
    | some t7 => dstV S n t7 o7 && (match o7.op with | .next (.tmp u) true => Nat.beq u t6 | _ => false) && (match o8.op with | .extract (.tmp u) 0 => Nat.beq u t7 | _ => false)
    | none => false)
   | none => false) && D.ok P S n dc d
 | _, _ => false
def NSnd (P : Program) (S : BT Nat) (n : Nat) (c : Code) (φ : Env → AHeap → List Res) : Prop :=
 ∀ (D : DF), (∀ p, D.free p) → ∀ (en : Env) (H : AHeap), (∀ r ∈ φ en H, r ≠ .fail) → ∀ e w a, Rel P.globals.size e H w → ARel S n D e en a → c.wp P (fun X a' w' => ∃ r ∈ φ en H, Fits P S n D e H w r X a' w') a w
theorem nsnd_det {P : Program} {n : Nat} {c : Code} {φ : Env → AHeap → Res} {W : VP → Prop} (h : CSnd P S n W c φ) : NSnd P S n c (fun en H => [φ en H]) :=
 fun D hfree en H hne e w a hr ha => wp_mono (h D (fun q _ => hfree q) en H (hne _ (by simp)) e w a hr ha) fun _ _ _ hf => ⟨_, by simp, hf⟩
theorem nsnd_seq {P : Program} {n : Nat} {x y : Code} {φ ψ : Env → AHeap → List Res} (hx : NSnd P S n x φ) (hy : NSnd P S n y ψ) : NSnd P S n (.seq x y) (fun en H => lSeq (φ en H) ψ) := by
 intro D hfree en H hne e w a hr ha
 have hsub : ∀ r ∈ φ en H, ∀ q ∈ (Res.rec (motive := fun _ => List Res) ψ (fun _ _ _ => [r]) (fun _ _ => [r]) (fun _ _ => [r]) [r] r : List Res), q ∈ lSeq (φ en H) ψ := fun r hr q hq => catN_mem hr hq
 have hφ : ∀ r ∈ φ en H, r ≠ .fail := by
  rintro r hr rfl
  exact hne .fail (hsub _ hr .fail (by show Res.fail ∈ [Res.fail]; simp)) rfl
 refine wp_seq (wp_mono (hx D hfree en H hφ e w a hr ha) ?_)
 rintro X a1 w1 ⟨r, hr1, hf⟩
 cases r with
 | nrm en1 H1 =>
  obtain ⟨rfl, e1, ha1, hv1⟩ := hf
  refine wp_mono (hy D hfree en1 H1 (fun q hq => hne q (hsub _ hr1 q hq)) e1 w1 a1 hv1.rel ha1) ?_
  rintro X a2 w2 ⟨q, hq, hf⟩
  exact ⟨q, hsub _ hr1 q hq, hf.trans hv1⟩
 | ext id en1 H1 =>
  obtain ⟨rfl, h⟩ := hf
  exact ⟨.ext id en1 H1, hsub _ hr1 _ (by show _ ∈ [_]; simp), rfl, h⟩
 | ret en1 H1 =>
  obtain ⟨rfl, h⟩ := hf
  exact ⟨.ret en1 H1, hsub _ hr1 _ (by show _ ∈ [_]; simp), rfl, h⟩
 | pan v H1 =>
  obtain ⟨e', v', rfl, h⟩ := hf
  exact ⟨.pan v H1, hsub _ hr1 _ (by show _ ∈ [_]; simp), e', v', rfl, h⟩
 | fail => exact hf.elim
structure RShape (S : BT Nat) (n t6 t7 t8 t9 : Nat) (p6 : VP) (o7 o8 o9 : Oper) : Prop where
 op7 : o7.op = .next (.tmp t6) false
 op8 : o8.op = .extract (.tmp t7) 0
 op9 : o9.op = .entry (.tmp t6)
 d7 : o7.dst = some t7 ∧ o7.guard.isNone = true ∧ t7 < n ∧ countB t7 S = 0
 d8 : o8.dst = some t8 ∧ o8.guard.isNone = true ∧ t8 < n ∧ countB t8 S = 0
 d9 : o9.dst = some t9 ∧ o9.guard.isNone = true ∧ t9 < n ∧ countB t9 S = 0
 p6 : p6.at S = some t6
structure RInv (P : Program) (S : BT Nat) (n : Nat) (D : DF) (e0 : Emb) (H0 : AHeap) (w0 : World) (B : Nat) (p6 : VP) (e : Emb) (en : Env) (H : AHeap) (w : World) (a : Act) : Prop where
 ev : Evo P.globals.size e0 (H0.withLow H0.nxt) w0 e H w
 ar : ARel S n D e en a
 hit : e H0.nxt = some ⟨B, 0, 0, 0, 0⟩
 hdead : H.get H0.nxt = some .dead
 hB : w0.heap.size ≤ B
 hun : ∀ b i, e b = some i → i.blk = B → b = H0.nxt
 itv : p6.get en.B = .p H0.nxt 0
 low : H0.nxt ≤ H.low
section
variable {P : Program} {F : Fs} {n t6 t7 t8 t9 id0 id1 ia ib : Nat} {p6 : VP} {o7 o8 o9 : Oper} {os : List Oper} {d : Code} {Wd : VP → Prop} {D : DF} {e0 : Emb} {H0 : AHeap} {w0 : World} {B : Nat}
theorem RInv.ptr {e : Emb} {en : Env} {H : AHeap} {w : World} {a : Act} (h : RInv P S n D e0 H0 w0 B p6 e en H w a) (hp : p6.at S = some t6) : a.eval (.tmp t6) = .pointer (some ⟨B, 0, none⟩) := by
 have h1 := h.ar.vars p6 t6 hp
 rw [h.itv] at h1
 show a.tmps.getD t6 undef = _
 generalize a.tmps.getD t6 undef = v at h1
 cases h1
 rename_i i hi
 rw [h.hit] at hi
 cases hi
 rfl
theorem RInv.old {e : Emb} {en : Env} {H : AHeap} {w : World} {a : Act} (h : RInv P S n D e0 H0 w0 B p6 e en H w a) (hr0 : Rel P.globals.size e0 H0 w0) {M : Nat} (hM : M < w0.heap.size) : w.heap[M]? = w0.heap[M]? :=
 h.ev.frame M hM fun b i hb _ => .inr (Nat.lt_of_lt_of_le (hr0.lt b i hb) h.low)
theorem head_wp (hs : RShape S n t6 t7 t8 t9 p6 o7 o8 o9) {e : Emb} {en : Env} {H : AHeap} {w w1 : World} {a : Act} (h : RInv P S n D e0 H0 w0 B p6 e en H w a) {t : Bool} {l : List Value}
  (hrun : ∀ ty, (Instr.next (.pointer (some ⟨B, 0, none⟩)) false ty).run P w = .ok (.tuple (.bool t :: l).toArray) w1) {Q : Exit → Act → World → Prop} {x : Code}
  (hQ : ∀ a2, ARel S n D e ⟨.nil, en.B⟩ a2 → a2.eval (.tmp t6) = .pointer (some ⟨B, 0, none⟩) → a2.eval (.tmp t8) = .bool t → x.wp P Q a2 w1) : (Code.seq (.region ia #[o7, o8] false) x).wp P Q a w := by
 refine wp_seq (wp_region ?_)
 show wpOps P #[o7, o8] _ [0, 1] a w
 rw [wpOps_some (o := o7) rfl, wanted_none hs.d7.2.1, if_pos rfl]
 refine .inl ?_
 have hp := h.ptr hs.p6
 have hrun7 : (execOp a.eval o7).run P w = .ok (.value (.tuple (.bool t :: l).toArray)) w1 := by
  simp only [execOp, hs.op7, hp, Sem.run_bind, hrun, Result.andThen_ok, Sem.run_pure]
 unfold Oper.wp
 rw [hrun7, Oper.upon_value, hs.d7.1]
 have ha1 := h.ar.put (v := .x .bad) hs.d7.2.2.1 hs.d7.2.2.2 (.bad (.tuple (.bool t :: l).toArray))
 have hv1 : (a.put (some t7) (.tuple (.bool t :: l).toArray)).eval (.tmp t7) = .tuple (.bool t :: l).toArray := getD_put_self h.ar.size hs.d7.2.2.1 _
 rw [wpOps_some (o := o8) rfl, wanted_none hs.d8.2.1, if_pos rfl]
 refine .inl ?_
 have hrun8 : (execOp (a.put (some t7) (.tuple (.bool t :: l).toArray)).eval o8).run P w1 = .ok (.value (.bool t)) w1 := by
  simp [execOp, hs.op8, hv1, Instr.extract]
 unfold Oper.wp
 rw [hrun8, Oper.upon_value, hs.d8.1]
 have ha2 := ha1.put (v := .x .bad) hs.d8.2.2.1 hs.d8.2.2.2 (.bad (.bool t))
 have hv2 : ((a.put (some t7) (.tuple (.bool t :: l).toArray)).put (some t8) (.bool t)).eval (.tmp t8) = .bool t := getD_put_self ha1.size hs.d8.2.2.1 _
 have h6 : ∀ k v (a' : Act), countB k S = 0 → (a'.put (some k) v).eval (.tmp t6) = a'.eval (.tmp t6) := fun k v a' hk => getD_put_ne (by rintro rfl; have := countB_pos hs.p6; omega) v
 exact hQ _ ha2.clear (by rw [h6 t8 _ _ hs.d8.2.2.2, h6 t7 _ _ hs.d7.2.2.2, hp]) hv2
theorem rounds_wp (hF : FsOk P F) (hs : RShape S n t6 t7 t8 t9 p6 o7 o8 o9) (hr0 : Rel P.globals.size e0 H0 w0) {l : List KE} {Dk : KCode} (hl : sameL (KE.ok P S n ⟨o9 :: os⟩) l os = true) (hDk : CSnd P S n Wd d (Dk.den F)) (hfree : ∀ p, D.free p)
  {M ck : Nat} {es' : Array MapEntry} (hM : w0.heap[M]? = some (.map es' ck)) (hb : BornOk es'.toList ck) {RS : List Res} :
  ∀ (k : Nat) (left : List (AV × AV)) (seen : Array Nat) (c0 : Nat) (en : Env) (H : AHeap) (e : Emb) (w : World) (a : Act), RInv P S n D e0 H0 w0 B p6 e en H w a → w.heap[B]? = some (.mapIter (some M) ck seen c0) → ck ≤ c0 →
   MRel e left (leftL es'.toList seen) →
   (∀ r ∈ roundsN (roundA F t9 id1 l Dk) (fun en' H' => bif' false (Nat.ble H0.nxt H'.low) (itAt p6 H0.nxt en'.B)) k left en H, r ≠ .fail ∧ r ∈ RS) →
   LoopWp P (.seq (.region ia #[o7, o8] false) (.seq (.cond (.tmp t8) .skip (.exit id0)) (.block id1 (.seq (.region ib ⟨o9 :: os⟩ false) d))))
    (fun X a' w' => X = .exit id0 ∧ ∃ en' H', Res.nrm en' H' ∈ RS ∧ ∃ e', ARel S n D e' ⟨.nil, en'.B⟩ a' ∧ Evo P.globals.size e0 (H0.withLow H0.nxt) w0 e' H' w') a w := by
 have hMs : M < w0.heap.size := by
  rcases Nat.lt_or_ge M w0.heap.size with h | h
  · exact h
  · rw [Array.getElem?_eq_none h] at hM; cases hM
 intro k
 induction k with
 | zero =>
  intro left seen c0 en H e w a h hit hsc hm hres
  have hMw : w.heap[M]? = some (.map es' ck) := by rw [h.old hr0 hMs, hM]
  have hln : left = [] := by
   cases left with
   | nil => rfl
   | cons p left => exact absurd rfl (hres .fail (by show Res.fail ∈ [Res.fail]; simp)).1
  subst hln
  rw [roundsN_nil] at hres
  refine loopWp_step ?_
  rcases run_nextM (P := P) w 0 B M ck c0 seen es' ck hit hMw hb.lt hsc with ⟨_, _⟩ | ⟨j, m, dr, hj, _⟩
  · refine head_wp hs h (t := false) (l := []) (w1 := w) (fun ty => ?_) fun a2 ha2 _ ht => wp_seq (wp_cond_false ht (wp_exit ⟨rfl, en, H, (hres _ (by simp)).2, e, ha2, h.ev⟩))
    rcases run_nextM (P := P) w ty B M ck c0 seen es' ck hit hMw hb.lt hsc with ⟨_, q⟩ | ⟨j, m, dr, hj, _⟩
    · exact q
    · obtain ⟨p, hp, _⟩ := hm.get' hj
      simp at hp
  · obtain ⟨p, hp, _⟩ := hm.get' hj
    simp at hp
 | succ k ih =>
  intro left seen c0 en H e w a h hit hsc hm hres
  have hMw : w.heap[M]? = some (.map es' ck) := by rw [h.old hr0 hMs, hM]
  refine loopWp_step ?_
  by_cases hL : leftL es'.toList seen = []
  · have hln : left = [] := by rw [hL] at hm; exact hm.nil_of
    subst hln
    rw [roundsN_nil] at hres
    refine head_wp hs h (t := false) (l := []) (w1 := w) (fun ty => ?_) fun a2 ha2 _ ht => wp_seq (wp_cond_false ht (wp_exit ⟨rfl, en, H, (hres _ (by simp)).2, e, ha2, h.ev⟩))
    rcases run_nextM (P := P) w ty B M ck c0 seen es' ck hit hMw hb.lt hsc with ⟨_, q⟩ | ⟨j, m, dr, hj, _⟩
    · exact q
    · rw [hL] at hj; simp at hj
  · -- which one it is does not hang on the type
    have hty : ∀ ty ty', (Instr.next (.pointer (some ⟨B, 0, none⟩)) false ty).run P w = (Instr.next (.pointer (some ⟨B, 0, none⟩)) false ty').run P w := fun _ _ => rfl
    rcases run_nextM (P := P) w 0 B M ck c0 seen es' ck hit hMw hb.lt hsc with ⟨q, _⟩ | ⟨j, m, dr, hj, hrun⟩
    · exact absurd q hL
    · obtain ⟨p, hp, hpk, hpv⟩ := hm.get' hj
      obtain ⟨k', en', H', hkk, hφ, hok, hsub⟩ := roundsN_one (fun r hr => (hres r hr).1) hp
      cases hkk
      have hme : m ∈ es'.toList := by
       have := List.mem_of_getElem? hj
       exact (List.mem_filter.1 this).1
      have hBw : B < w.heap.size := by
       rcases Nat.lt_or_ge B w.heap.size with g | g
       · exact g
       · rw [Array.getElem?_eq_none g] at hit; cases hit
      have hdb : ∀ b i, e b = some i → i.blk = B → H.get b = some .dead := fun b i hb hi => by rw [h.hun b i hb hi]; exact h.hdead
      have hev1 := h.ev.hid h.hB hdb (.mapIter (some M) ck (seen.push m.born) ck) dr
      have hw1B : ({ w with drawn := dr, heap := w.heap.setIfInBounds B (.mapIter (some M) ck (seen.push m.born) ck) } : World).heap[B]? = some (.mapIter (some M) ck (seen.push m.born) ck) := by
       show (w.heap.setIfInBounds B _)[B]? = _
       rw [Array.getElem?_setIfInBounds, if_pos rfl, if_pos hBw]
      have hMB : B ≠ M := by have := h.hB; omega
      have hw1M : ({ w with drawn := dr, heap := w.heap.setIfInBounds B (.mapIter (some M) ck (seen.push m.born) ck) } : World).heap[M]? = some (.map es' ck) := by
       show (w.heap.setIfInBounds B _)[M]? = _
       rw [Array.getElem?_setIfInBounds, if_neg hMB, hMw]
      generalize hw1 : ({ w with drawn := dr, heap := w.heap.setIfInBounds B (.mapIter (some M) ck (seen.push m.born) ck) } : World) = w1 at hev1 hw1B hw1M hrun
      refine head_wp hs h (t := true) (l := [m.key, m.val]) (w1 := w1) (fun ty => (hty ty 0).trans hrun) fun a2 ha2 h6 ht => ?_
      refine wp_seq (wp_cond_true ht (wp_skip ?_))
      have hent : (execOp a2.eval o9).run P w1 = .ok (.value (.tuple #[m.key, m.val])) w1 := by
       simp only [execOp, hs.op9, h6, Sem.run_bind, run_entryM w1 B M ck seen es' ck m hw1B hw1M hme hb.nodup, Result.andThen_ok, Sem.run_pure]
      have ha3 := ha2.put (v := .x (.tup [p.1, p.2])) hs.d9.2.2.1 hs.d9.2.2.2 (.tup [p.1, p.2] [m.key, m.val] (.cons hpk (.cons hpv .nil)))
      have hrB : roundA F t9 id1 l Dk p en H = rBlock id1 (rSeq (runE F l ⟨.cons t9 (.x (.tup [p.1, p.2])) .nil, en.B⟩ H) (Dk.den F)) := rfl
      rw [hrB] at hφ
      generalize hen3 : (⟨.cons t9 (.x (.tup [p.1, p.2])) .nil, en.B⟩ : Env) = en3 at hφ ha3
      have hRne : rSeq (runE F l en3 H) (Dk.den F) ≠ .fail := by intro hf; rw [hf] at hφ; cases hφ
      have hlne : runE F l en3 H ≠ .fail := by intro hf; rw [hf] at hRne; exact hRne rfl
      have hR4 : (Code.region ib ⟨o9 :: os⟩ false).wp P (Fits P S n D e H w1 (runE F l en3 H)) a2 w1 := by
       refine wp_region ?_
       have hrange : List.range (⟨o9 :: os⟩ : Array Oper).size = 0 :: List.range' 1 os.length := by
        rw [List.range_eq_range']; show List.range' 0 (os.length + 1) = _; rw [List.range'_succ]
       rw [hrange, wpOps_some (o := o9) rfl, wanted_none hs.d9.2.1, if_pos rfl]
       refine .inl ?_
       unfold Oper.wp
       rw [hent, Oper.upon_value, hs.d9.1]
       exact reg_wp hF (D := D) l os 1 (fun j _ => by rw [show 1 + j = j + 1 by omega]; simp) hl (fun _ _ q _ => hfree q) en3 H e w1 _ hlne hev1.rel ha3 (Evo.refl hev1.rel)
      have hseq : (Code.seq (.region ib ⟨o9 :: os⟩ false) d).wp P (Fits P S n D e H w1 (rSeq (runE F l en3 H) (Dk.den F))) a2 w1 := by
       refine wp_seq (wp_mono hR4 ?_)
       intro X a4 w4 hf
       cases hφ' : runE F l en3 H with
       | nrm en4 H4 =>
        rw [hφ'] at hf hRne
        obtain ⟨rfl, e4, ha4, hv4⟩ := hf
        exact wp_mono (hDk D (fun q _ => hfree q) en4 H4 hRne e4 w4 a4 hv4.rel ha4) fun X a' w' hf => hf.trans hv4
       | ext id en4 H4 => rw [hφ'] at hf; obtain ⟨rfl, h⟩ := hf; exact ⟨rfl, h⟩
       | ret en4 H4 => rw [hφ'] at hf; obtain ⟨rfl, h⟩ := hf; exact ⟨rfl, h⟩
       | pan v H4 => rw [hφ'] at hf; obtain ⟨e', v', rfl, h⟩ := hf; exact ⟨e', v', rfl, h⟩
       | fail => exact absurd hφ' hlne
      have next : ∀ a4 w4, (∃ e', ARel S n D e' en' a4 ∧ Evo P.globals.size e H w1 e' H' w4) → LoopWp P (.seq (.region ia #[o7, o8] false) (.seq (.cond (.tmp t8) .skip (.exit id0)) (.block id1 (.seq (.region ib ⟨o9 :: os⟩ false) d))))
        (fun X a' w' => X = .exit id0 ∧ ∃ en' H', Res.nrm en' H' ∈ RS ∧ ∃ e', ARel S n D e' ⟨.nil, en'.B⟩ a' ∧ Evo P.globals.size e0 (H0.withLow H0.nxt) w0 e' H' w') a4 w4 := by
       rintro a4 w4 ⟨e4, ha4, hv4⟩
       have hok1 : itAt p6 H0.nxt en'.B = true ∧ Nat.ble H0.nxt H'.low = true := by
        have hok' : bif' false (Nat.ble H0.nxt H'.low) (itAt p6 H0.nxt en'.B) = true := hok
        cases hi : itAt p6 H0.nxt en'.B with
        | false => rw [hi] at hok'; cases hok'
        | true => rw [hi] at hok'; exact ⟨rfl, hok'⟩
       have hBw1 : B < w1.heap.size := by rw [← hw1]; simpa using hBw
       have hfr : w4.heap[B]? = w1.heap[B]? := hv4.frame B hBw1 fun b i hb hi => .inl (hdb b i hb hi)
       refine ih (left.eraseIdx j) (seen.push m.born) ck en' H' e4 w4 a4 ⟨hev1.trans hv4, ha4, hv4.ext _ _ h.hit, hv4.dead _ h.hdead, h.hB, ?_, itAt_spec hok1.1, Nat.le_of_ble_eq_true hok1.2⟩ (by rw [hfr, hw1B]) (Nat.le_refl _) ?_ fun r hr => ⟨(hres r (hsub r hr)).1, (hres r (hsub r hr)).2⟩
       · intro b i hb' hi
         cases h0 : e b with
         | some i0 =>
          have := hv4.ext b i0 h0
          rw [hb'] at this
          cases this
          exact h.hun b i h0 hi
         | none =>
          obtain ⟨_, hc⟩ := hv4.fresh b i h0 hb'
          rcases hc with hc | ⟨b0, i0, q1, q2, q3, _⟩
          · omega
          · exact absurd (hdb b0 i0 q1 (q2.trans hi)) q3
       · rw [leftL_push hb.nodup hj]
         exact (hm.erase j).mono hv4.ext
      refine wp_block (wp_mono hseq ?_)
      intro X a4 w4 hf
      cases hr : rSeq (runE F l en3 H) (Dk.den F) with
      | nrm en4 H4 =>
       rw [hr] at hf hφ
       cases hφ
       obtain ⟨rfl, hx⟩ := hf
       exact next a4 w4 hx
      | ext id en4 H4 =>
       rw [hr] at hf hφ
       have hbk : rBlock id1 (.ext id en4 H4) = Bool.rec (motive := fun _ => Res) (.ext id en4 H4) (.nrm en4 H4) (Nat.beq id id1) := rfl
       rw [hbk] at hφ
       cases hid : Nat.beq id id1 with
       | false => rw [hid] at hφ; cases hφ
       | true =>
        rw [hid] at hφ
        cases hφ
        obtain ⟨rfl, hx⟩ := hf
        have hidd := Nat.eq_of_beq_eq_true hid
        subst hidd
        simp only [Exit.inBlock, if_true]
        exact next a4 w4 hx
      | _ => rw [hr] at hφ; cases hφ
theorem none_wp (hs : RShape S n t6 t7 t8 t9 p6 o7 o8 o9) {en : Env} {H : AHeap} {e : Emb} {w : World} {a : Act} (h : RInv P S n D e0 H0 w0 B p6 e en H w a) (hit : w.heap[B]? = some (.mapIter none 0 #[] 0)) {RS : List Res} (hin : Res.nrm en H ∈ RS) {z : Code} :
  LoopWp P (.seq (.region ia #[o7, o8] false) (.seq (.cond (.tmp t8) .skip (.exit id0)) z))
   (fun X a' w' => X = .exit id0 ∧ ∃ en' H', Res.nrm en' H' ∈ RS ∧ ∃ e', ARel S n D e' ⟨.nil, en'.B⟩ a' ∧ Evo P.globals.size e0 (H0.withLow H0.nxt) w0 e' H' w') a w :=
 loopWp_step (head_wp hs h (t := false) (l := []) (w1 := w) (fun ty => run_nextN w ty B 0 0 #[] hit) fun _ ha2 _ ht => wp_seq (wp_cond_false ht (wp_exit ⟨rfl, en, H, hin, e, ha2, h.ev⟩)))
theorem rng_snd (hF : FsOk P F) (hs : RShape S n t6 t7 t8 t9 p6 o7 o8 o9) {l : List KE} {Dk : KCode} (hl : sameL (KE.ok P S n ⟨o9 :: os⟩) l os = true) (hDk : CSnd P S n Wd d (Dk.den F)) {o5 o6 : Oper} {x : KO} {y : Operand} {t5 : Nat} {ty : TypeId} {ic : Nat}
  (h5 : o5.op = .move y) (hx : x.ok P S y = true) (d5 : o5.dst = some t5 ∧ o5.guard.isNone = true ∧ t5 < n ∧ countB t5 S = 0) (h6 : o6.op = .range ty (.tmp t5)) (d6 : o6.dst = some t6 ∧ o6.guard.isNone = true ∧ t6 < n ∧ countB t6 S ≤ 1)
  (hty : ∃ kt el, P.underlying ty = some (.map kt el)) :
  NSnd P S n (.seq (.region ic #[o5, o6] false) (.block id0 (.loop (.seq (.region ia #[o7, o8] false) (.seq (.cond (.tmp t8) .skip (.exit id0)) (.block id1 (.seq (.region ib ⟨o9 :: os⟩ false) d))))))) (rngDen F x p6 t9 id1 l Dk) := by
 intro D hfree en H hne e w a hr ha
 unfold rngDen at hne ⊢
 obtain ⟨kt, el, hty⟩ := hty
 cases hia : itAt p6 H.nxt (p6.put (.p H.nxt 0) en.B) with
 | false => rw [hia] at hne; exact absurd rfl (hne .fail (by show Res.fail ∈ [Res.fail]; simp))
 | true =>
 rw [hia] at hne
 simp only at hne ⊢
 cases hes : mapEs H (x.den ⟨.nil, en.B⟩) with
 | none => rw [hes] at hne; exact absurd rfl (hne .fail (by show Res.fail ∈ [Res.fail]; simp))
 | some es =>
 rw [hes] at hne
 simp only at hne ⊢
 generalize hRS : roundsN (roundA F t9 id1 l Dk) (fun en' H' => bif' false (Nat.ble H.nxt H'.low) (itAt p6 H.nxt en'.B)) es.length es ⟨.nil, p6.put (.p H.nxt 0) en.B⟩ ((H.withLow H.nxt).alloc .dead) = RS at hne ⊢
 have hv := KO.ok_spec hx n D e ⟨.nil, en.B⟩ a H w hr ha.clear
 have hv5 : ∀ v, (a.put (some t5) v).eval (.tmp t5) = v := fun v => getD_put_self ha.size d5.2.2.1 v
 have ha1 : ∀ v, ARel S n D e ⟨.nil, en.B⟩ (a.put (some t5) v) := fun v => (ha.clear.put (v := .x .bad) d5.2.2.1 d5.2.2.2 (.bad v)).clear
 have main : ∀ (it : Obj), (Instr.range ty (a.eval y)).run P w = .ok (.pointer (some ⟨w.heap.size, 0, none⟩)) (w.alloc it) →
   (∀ (e1 : Emb) (a1 : Act), RInv P S n D e H w w.heap.size p6 e1 ⟨.nil, p6.put (.p H.nxt 0) en.B⟩ ((H.withLow H.nxt).alloc .dead) (w.alloc it) a1 → (∀ b i, e b = some i → e1 b = some i) →
    LoopWp P (.seq (.region ia #[o7, o8] false) (.seq (.cond (.tmp t8) .skip (.exit id0)) (.block id1 (.seq (.region ib ⟨o9 :: os⟩ false) d))))
     (fun X a' w' => X = .exit id0 ∧ ∃ en' H', Res.nrm en' H' ∈ RS ∧ ∃ e', ARel S n D e' ⟨.nil, en'.B⟩ a' ∧ Evo P.globals.size e (H.withLow H.nxt) w e' H' w') a1 (w.alloc it)) →
   (Code.seq (.region ic #[o5, o6] false) (.block id0 (.loop (.seq (.region ia #[o7, o8] false) (.seq (.cond (.tmp t8) .skip (.exit id0)) (.block id1 (.seq (.region ib ⟨o9 :: os⟩ false) d))))))).wp P
    (fun X a' w' => ∃ r ∈ backL H RS, Fits P S n D e H w r X a' w') a w := by
  intro it hrange hloop
  refine wp_seq (wp_region ?_)
  show wpOps P #[o5, o6] _ [0, 1] a w
  rw [wpOps_some (o := o5) rfl, wanted_none d5.2.1, if_pos rfl]
  refine .inl ?_
  have hrun5 : (execOp a.eval o5).run P w = .ok (.value (a.eval y)) w := by simp only [execOp, h5, Sem.run_pure]
  unfold Oper.wp
  rw [hrun5, Oper.upon_value, d5.1, wpOps_some (o := o6) rfl, wanted_none d6.2.1, if_pos rfl]
  refine .inl ?_
  have hrun6 : (execOp (a.put (some t5) (a.eval y)).eval o6).run P w = .ok (.value (.pointer (some ⟨w.heap.size, 0, none⟩))) (w.alloc it) := by
   simp only [execOp, h6, hv5, Sem.run_bind, hrange, Result.andThen_ok, Sem.run_pure]
  unfold Oper.wp
  rw [hrun6, Oper.upon_value, d6.1]
  have hev := Evo.alloc (hr.withLow H.nxt) .dead it ⟨w.heap.size, 0, 0, 0, 0⟩ rfl trivial
  have hit : (e.put H.nxt ⟨w.heap.size, 0, 0, 0, 0⟩) H.nxt = some ⟨w.heap.size, 0, 0, 0, 0⟩ := Emb.put_self _ _ _
  have hptr : VRel (e.put H.nxt ⟨w.heap.size, 0, 0, 0, 0⟩) (.p H.nxt 0) (.pointer (some ⟨w.heap.size, 0, none⟩)) := .p H.nxt 0 _ hit
  have ha2 := ((ha1 (a.eval y)).mono hev.ext).putV d6.2.2.1 hs.p6 d6.2.2.2 (hfree _) hptr
  have hinv : RInv P S n D e H w w.heap.size p6 (e.put H.nxt ⟨w.heap.size, 0, 0, 0, 0⟩) ⟨.nil, p6.put (.p H.nxt 0) en.B⟩ ((H.withLow H.nxt).alloc .dead) (w.alloc it) ((a.put (some t5) (a.eval y)).put (some t6) (.pointer (some ⟨w.heap.size, 0, none⟩))) :=
   ⟨hev, ha2, hit, by rw [AHeap.get_alloc]; exact if_pos rfl, Nat.le_refl _, fun b i hb hi => by
    rcases Emb.put_cases hb with ⟨rfl, _⟩ | ⟨_, hb⟩
    · rfl
    · have := hr.bnd b i hb; omega, itAt_spec hia, Nat.le_refl _⟩
  refine wp_block (loopWp_wp ((hloop _ _ hinv hev.ext).mono ?_))
  rintro X a' w' ⟨rfl, en', H', hin, e', ha', hev'⟩
  simp only [Exit.inBlock, if_true]
  refine ⟨_, backL_mem hin, rfl, e', ha', ?_⟩
  rw [minN_eq]; exact hev'.withLow
 unfold mapEs at hes
 cases hxe : x.den ⟨.nil, en.B⟩ with
 | x u =>
  rw [hxe] at hes hv
  cases u with
  | nilm =>
   cases hes
   generalize hyv : a.eval y = yv at hv
   cases hv
   refine main (.mapIter none 0 #[] 0) (by rw [hyv]; exact run_range_nilMap w ty kt el hty) fun e1 a1 hinv _ => ?_
   refine none_wp hs hinv (heap_alloc_new w _) ?_
   rw [← hRS, roundsN_nil]
   exact List.mem_singleton.2 rfl
  | m r0 =>
   have h' : blkM none (fun es => some es) (H.get r0) = some es := hes
   cases hb : H.get r0 with
   | none => rw [hb] at h'; cases h'
   | some yy =>
    rw [hb] at h'
    cases yy with
    | m es0 =>
     cases h'
     generalize hyv : a.eval y = yv at hv
     cases hv
     rename_i i hi
     obtain ⟨es', ck, q1, q2, q3⟩ := hr.obj r0 i _ hi hb
     refine main (.mapIter (some i.blk) ck #[] ck) (by rw [hyv]; exact run_rangeM w hty q1) fun e1 a1 hinv hext => ?_
     refine rounds_wp hF hs hr hl hDk hfree q1 q3 es.length es #[] ck _ _ e1 _ a1 hinv (heap_alloc_new w _) (Nat.le_refl _) ?_ fun r hr' => ?_
     · rw [leftL_none]; exact q2.mono hext
     · rw [hRS] at hr'
       exact ⟨backL_ok hne r hr', hr'⟩
    | _ => cases h'
  | _ => cases hes
 | _ => rw [hxe] at hes; cases hes
end
theorem run_nextS {P : Program} (w : World) (ty : TypeId) (r pos len code : Nat) (hr : w.heap[r]? = some (.stringIter ⟨(bytesOf len code).toArray⟩ pos)) (hp : pos < len) (hc : code / 256 ^ pos % 256 < 128) :
  (Instr.next (.pointer (some ⟨r, 0, none⟩)) true ty).run P w = .ok (.tuple #[.bool true, goInt pos, .int .i32 ((code / 256 ^ pos % 256 : Nat) : Int)]) { w with drawn := w.drawn, heap := w.heap.setIfInBounds r (.stringIter ⟨(bytesOf len code).toArray⟩ (pos + 1)) } := by
 have hsz : (⟨(bytesOf len code).toArray⟩ : ByteArray).size = len := strV_size len code
 have hlt : pos < (⟨(bytesOf len code).toArray⟩ : ByteArray).size := by rw [hsz]; exact hp
 have hget : ((⟨(bytesOf len code).toArray⟩ : ByteArray)[pos]'hlt).toNat = code / 256 ^ pos % 256 := by
  have h1 := bytesOf_get len code pos hp
  have h2 : ((⟨(bytesOf len code).toArray⟩ : ByteArray)[pos]'hlt) = (bytesOf len code)[pos]'(by rw [bytesOf_length]; exact hp) := rfl
  rw [h2]
  rw [List.getElem?_eq_getElem (by rw [bytesOf_length]; exact hp)] at h1
  rw [Option.some.inj h1, UInt8.toNat_ofNat']
  omega
 have hd := decode_ascii (⟨(bytesOf len code).toArray⟩ : ByteArray) pos hlt (by rw [hget]; exact hc)
 rw [hget] at hd
 have hgr : (getObj r).run P w = .ok (.stringIter ⟨(bytesOf len code).toArray⟩ pos) w := by simp [getObj, Sem.run, hr]
 have hset : ∀ (o' : Obj), (setObj r o').run P w = .ok () { w with drawn := w.drawn, heap := w.heap.setIfInBounds r o' } := fun o' => by
  simp only [setObj, Sem.run, hr]
 simp only [Instr.next, Sem.run_bind, hgr, Result.andThen_ok, hlt, if_true, hd, hset, Sem.run_pure]
theorem run_nextSE {P : Program} (w : World) (ty : TypeId) (r len code : Nat) (hr : w.heap[r]? = some (.stringIter ⟨(bytesOf len code).toArray⟩ len)) :
  (Instr.next (.pointer (some ⟨r, 0, none⟩)) true ty).run P w = .ok (.tuple #[.bool false]) w := by
 have hsz : (⟨(bytesOf len code).toArray⟩ : ByteArray).size = len := strV_size len code
 have hgr : (getObj r).run P w = .ok (.stringIter ⟨(bytesOf len code).toArray⟩ len) w := by simp [getObj, Sem.run, hr]
 have hlt : ¬ len < (⟨(bytesOf len code).toArray⟩ : ByteArray).size := by rw [hsz]; omega
 simp only [Instr.next, Sem.run_bind, hgr, Result.andThen_ok, hlt, if_false, Sem.run_pure]
structure SShape (S : BT Nat) (n t6 t7 t8 : Nat) (p6 p7 : VP) (o7 o8 : Oper) : Prop where
 op7 : o7.op = .next (.tmp t6) true
 op8 : o8.op = .extract (.tmp t7) 0
 d7 : o7.dst = some t7 ∧ o7.guard.isNone = true ∧ t7 < n ∧ countB t7 S ≤ 1
 d8 : o8.dst = some t8 ∧ o8.guard.isNone = true ∧ t8 < n ∧ countB t8 S = 0
 p6 : p6.at S = some t6
 p7 : p7.at S = some t7
section
variable {P : Program} {F : Fs} {n t6 t7 t8 id0 id1 ia : Nat} {p6 p7 : VP} {o7 o8 : Oper} {d : Code} {Wd : VP → Prop} {D : DF} {e0 : Emb} {H0 : AHeap} {w0 : World} {B : Nat}
theorem sHead_wp (hs : SShape S n t6 t7 t8 p6 p7 o7 o8) (hfree : ∀ p, D.free p) {e : Emb} {en : Env} {H : AHeap} {w w1 : World} {a : Act} (h : RInv P S n D e0 H0 w0 B p6 e en H w a) {t : Bool} {l : List Value} {u : AV} (hu : VRel e u (.tuple (.bool t :: l).toArray))
  (hrun : ∀ ty, (Instr.next (.pointer (some ⟨B, 0, none⟩)) true ty).run P w = .ok (.tuple (.bool t :: l).toArray) w1) {Q : Exit → Act → World → Prop} {x : Code}
  (hQ : ∀ a2, ARel S n D e ⟨.nil, p7.put u en.B⟩ a2 → a2.eval (.tmp t8) = .bool t → x.wp P Q a2 w1) : (Code.seq (.region ia #[o7, o8] false) x).wp P Q a w := by
 refine wp_seq (wp_region ?_)
 show wpOps P #[o7, o8] _ [0, 1] a w
 rw [wpOps_some (o := o7) rfl, wanted_none hs.d7.2.1, if_pos rfl]
 refine .inl ?_
 have hp := h.ptr hs.p6
 have hrun7 : (execOp a.eval o7).run P w = .ok (.value (.tuple (.bool t :: l).toArray)) w1 := by
  simp only [execOp, hs.op7, hp, Sem.run_bind, hrun, Result.andThen_ok, Sem.run_pure]
 unfold Oper.wp
 rw [hrun7, Oper.upon_value, hs.d7.1]
 have ha1 := h.ar.putV hs.d7.2.2.1 hs.p7 hs.d7.2.2.2 (hfree _) hu
 have hv1 : (a.put (some t7) (.tuple (.bool t :: l).toArray)).eval (.tmp t7) = .tuple (.bool t :: l).toArray := getD_put_self h.ar.size hs.d7.2.2.1 _
 rw [wpOps_some (o := o8) rfl, wanted_none hs.d8.2.1, if_pos rfl]
 refine .inl ?_
 have hrun8 : (execOp (a.put (some t7) (.tuple (.bool t :: l).toArray)).eval o8).run P w1 = .ok (.value (.bool t)) w1 := by
  simp [execOp, hs.op8, hv1, Instr.extract]
 unfold Oper.wp
 rw [hrun8, Oper.upon_value, hs.d8.1]
 have ha2 := ha1.put (v := .x .bad) hs.d8.2.2.1 hs.d8.2.2.2 (.bad (.bool t))
 have hv2 : ((a.put (some t7) (.tuple (.bool t :: l).toArray)).put (some t8) (.bool t)).eval (.tmp t8) = .bool t := getD_put_self ha1.size hs.d8.2.2.1 _
 exact hQ _ ha2.clear hv2
def SQ (P : Program) (S : BT Nat) (n : Nat) (D : DF) (e0 : Emb) (H0 : AHeap) (w0 : World) (id0 : Nat) (R : Res) (X : Exit) (a' : Act) (w' : World) : Prop :=
 (∃ en' H', R = .nrm en' H' ∧ X = .exit id0 ∧ ∃ e', ARel S n D e' ⟨.nil, en'.B⟩ a' ∧ Evo P.globals.size e0 (H0.withLow H0.nxt) w0 e' H' w') ∨
 ∃ en' H', R = .ret en' H' ∧ X = .ret ∧ ∃ e', ARel S n D e' en' a' ∧ Evo P.globals.size e0 (H0.withLow H0.nxt) w0 e' H' w'
theorem srounds_wp (hs : SShape S n t6 t7 t8 p6 p7 o7 o8) {Dk : KCode} (hDk : CSnd P S n Wd d (Dk.den F)) (hfree : ∀ p, D.free p) {len code0 : Nat} (hlen : len < 9223372036854775808) {R : Res} (hR : R ≠ .fail) :
  ∀ (k pos : Nat), pos + k = len → ∀ (en : Env) (H : AHeap) (e : Emb) (w : World) (a : Act), RInv P S n D e0 H0 w0 B p6 e en H w a → w.heap[B]? = some (.stringIter ⟨(bytesOf len code0).toArray⟩ pos) →
   roundsS (roundS F p7 id1 Dk) (fun en' H' => bif' false (Nat.ble H0.nxt H'.low) (itAt p6 H0.nxt en'.B)) p7 k pos (code0 / 256 ^ pos) en H = R →
   LoopWp P (.seq (.region ia #[o7, o8] false) (.seq (.cond (.tmp t8) .skip (.exit id0)) (.block id1 d))) (SQ P S n D e0 H0 w0 id0 R) a w := by
 intro k
 induction k with
 | zero =>
  intro pos hpk en H e w a h hit hr
  have hpl : pos = len := by omega
  subst hpl
  have hr' : Res.nrm ⟨.nil, p7.put (.x .bad) en.B⟩ H = R := hr
  refine loopWp_step (sHead_wp hs hfree h (t := false) (l := []) (u := .x .bad) (w1 := w) (.bad _) (fun ty => run_nextSE w ty B pos code0 hit) fun a2 ha2 ht => wp_seq (wp_cond_false ht (wp_exit (.inl ⟨_, _, hr'.symm, rfl, e, ha2, h.ev⟩))))
 | succ k ih =>
  intro pos hpk en H e w a h hit hr
  have hpl : pos < len := by omega
  have hr' : Bool.rec (motive := fun _ => Res) .fail (stepS (fun en' H' => bif' false (Nat.ble H0.nxt H'.low) (itAt p6 H0.nxt en'.B)) (roundsS (roundS F p7 id1 Dk) (fun en' H' => bif' false (Nat.ble H0.nxt H'.low) (itAt p6 H0.nxt en'.B)) p7 k (pos + 1) (code0 / 256 ^ pos / 256)) (roundS F p7 id1 Dk pos (code0 / 256 ^ pos % 256) en H)) (Nat.ble (code0 / 256 ^ pos % 256 + 1) 128) = R := hr
  cases hc : Nat.ble (code0 / 256 ^ pos % 256 + 1) 128 with
  | false => rw [hc] at hr'; exact absurd hr'.symm hR
  | true =>
  rw [hc] at hr'
  simp only at hr'
  have hc' : code0 / 256 ^ pos % 256 < 128 := Nat.le_of_ble_eq_true hc
  have hBw : B < w.heap.size := by
   rcases Nat.lt_or_ge B w.heap.size with g | g
   · exact g
   · rw [Array.getElem?_eq_none g] at hit; cases hit
  have hdb : ∀ b i, e b = some i → i.blk = B → H.get b = some .dead := fun b i hb hi => by rw [h.hun b i hb hi]; exact h.hdead
  have hev1 := h.ev.hid h.hB hdb (.stringIter ⟨(bytesOf len code0).toArray⟩ (pos + 1)) w.drawn
  have hrun := fun ty => run_nextS (P := P) w ty B pos len code0 hit hpl hc'
  have hw1B : ({ w with drawn := w.drawn, heap := w.heap.setIfInBounds B (.stringIter ⟨(bytesOf len code0).toArray⟩ (pos + 1)) } : World).heap[B]? = some (.stringIter ⟨(bytesOf len code0).toArray⟩ (pos + 1)) := by
   show (w.heap.setIfInBounds B _)[B]? = _
   rw [Array.getElem?_setIfInBounds, if_pos rfl, if_pos hBw]
  have hw1s : ({ w with drawn := w.drawn, heap := w.heap.setIfInBounds B (.stringIter ⟨(bytesOf len code0).toArray⟩ (pos + 1)) } : World).heap.size = w.heap.size := by simp
  generalize ({ w with drawn := w.drawn, heap := w.heap.setIfInBounds B (.stringIter ⟨(bytesOf len code0).toArray⟩ (pos + 1)) } : World) = w1 at hev1 hrun hw1B hw1s
  have hu : VRel e (.x (.tup [.b true, .i 3 pos, .i 2 (code0 / 256 ^ pos % 256)])) (.tuple (.bool true :: [goInt pos, .int .i32 ((code0 / 256 ^ pos % 256 : Nat) : Int)]).toArray) := by
   have h3 : VRel e (.i 2 (code0 / 256 ^ pos % 256)) (.int .i32 ((code0 / 256 ^ pos % 256 : Nat) : Int)) := by
    have := VRel.i (e := e) 2 (code0 / 256 ^ pos % 256) (by omega) (by simp [kindOf, IntKind.bits]; omega)
    have hw : (kindOf 2).wrap ((code0 / 256 ^ pos % 256 : Nat) : Int) = ((code0 / 256 ^ pos % 256 : Nat) : Int) := by
     simp only [kindOf, IntKind.wrap, IntKind.signed, IntKind.bits]; simp; omega
    rw [hw] at this
    exact this
   exact .tup _ _ (.cons (.b true) (.cons (vrel_int64 e pos (by omega)) (.cons h3 .nil)))
  refine loopWp_step (sHead_wp hs hfree h (t := true) (l := [goInt pos, .int .i32 ((code0 / 256 ^ pos % 256 : Nat) : Int)]) (w1 := w1) hu hrun fun a2 ha2 ht => wp_seq (wp_cond_true ht (wp_skip ?_)))
  have hrS : roundS F p7 id1 Dk pos (code0 / 256 ^ pos % 256) en H = rBlock id1 (Dk.den F ⟨.nil, p7.put (.x (.tup [.b true, .i 3 pos, .i 2 (code0 / 256 ^ pos % 256)])) en.B⟩ H) := rfl
  rw [hrS] at hr'
  generalize hen3 : (⟨.nil, p7.put (.x (.tup [.b true, .i 3 pos, .i 2 (code0 / 256 ^ pos % 256)])) en.B⟩ : Env) = en3 at hr' ha2
  have hDne : Dk.den F en3 H ≠ .fail := by
   intro hf; rw [hf] at hr'; exact hR hr'.symm
  have next : ∀ en' H' a4 w4, Bool.rec (motive := fun _ => Res) .fail (roundsS (roundS F p7 id1 Dk) (fun en' H' => bif' false (Nat.ble H0.nxt H'.low) (itAt p6 H0.nxt en'.B)) p7 k (pos + 1) (code0 / 256 ^ pos / 256) en' H') (bif' false (Nat.ble H0.nxt H'.low) (itAt p6 H0.nxt en'.B)) = R → (∃ e', ARel S n D e' en' a4 ∧ Evo P.globals.size e H w1 e' H' w4) →
    LoopWp P (.seq (.region ia #[o7, o8] false) (.seq (.cond (.tmp t8) .skip (.exit id0)) (.block id1 d))) (SQ P S n D e0 H0 w0 id0 R) a4 w4 := by
   rintro en' H' a4 w4 hq ⟨e4, ha4, hv4⟩
   cases hok : bif' false (Nat.ble H0.nxt H'.low) (itAt p6 H0.nxt en'.B) with
   | false => rw [hok] at hq; exact absurd hq.symm hR
   | true =>
    rw [hok] at hq
    simp only at hq
    have hok1 : itAt p6 H0.nxt en'.B = true ∧ Nat.ble H0.nxt H'.low = true := by
     cases hi : itAt p6 H0.nxt en'.B with
     | false => rw [hi] at hok; cases hok
     | true => rw [hi] at hok; exact ⟨rfl, hok⟩
    have hfr : w4.heap[B]? = w1.heap[B]? := hv4.frame B (by rw [hw1s]; exact hBw) fun b i hb hi => .inl (hdb b i hb hi)
    refine ih (pos + 1) (by omega) en' H' e4 w4 a4 ⟨hev1.trans hv4, ha4, hv4.ext _ _ h.hit, hv4.dead _ h.hdead, h.hB, ?_, itAt_spec hok1.1, Nat.le_of_ble_eq_true hok1.2⟩ (by rw [hfr, hw1B]) (by rw [Nat.pow_succ, ← Nat.div_div_eq_div_mul]; exact hq)
    intro b i hb' hi
    cases h0 : e b with
    | some i0 =>
     have := hv4.ext b i0 h0
     rw [hb'] at this
     cases this
     exact h.hun b i h0 hi
    | none =>
     obtain ⟨_, hcc⟩ := hv4.fresh b i h0 hb'
     rcases hcc with hcc | ⟨b0, i0, q1, q2, q3, _⟩
     · rw [hw1s] at hcc; omega
     · exact absurd (hdb b0 i0 q1 (q2.trans hi)) q3
  refine wp_block (wp_mono (hDk D (fun q _ => hfree q) en3 H hDne e w1 a2 hev1.rel ha2) ?_)
  intro X a4 w4 hf
  cases hx : Dk.den F en3 H with
  | nrm en4 H4 =>
   rw [hx] at hf hr'
   obtain ⟨rfl, hy⟩ := hf
   exact next en4 H4 a4 w4 hr' hy
  | ext id en4 H4 =>
   rw [hx] at hf hr'
   have hbk : rBlock id1 (.ext id en4 H4) = Bool.rec (motive := fun _ => Res) (.ext id en4 H4) (.nrm en4 H4) (Nat.beq id id1) := rfl
   rw [hbk] at hr'
   cases hid : Nat.beq id id1 with
   | false => rw [hid] at hr'; exact absurd hr'.symm hR
   | true =>
    rw [hid] at hr'
    obtain ⟨rfl, hy⟩ := hf
    have hidd := Nat.eq_of_beq_eq_true hid
    subst hidd
    simp only [Exit.inBlock, if_true]
    exact next en4 H4 a4 w4 hr' hy
  | ret en4 H4 =>
   rw [hx] at hf hr'
   obtain ⟨rfl, e4, ha4, hv4⟩ := hf
   exact .inr ⟨en4, H4, hr'.symm, rfl, e4, ha4, hev1.trans hv4⟩
  | pan v H4 => rw [hx] at hr'; exact absurd hr'.symm hR
  | fail => exact absurd hx hDne
theorem srng_snd (hs : SShape S n t6 t7 t8 p6 p7 o7 o8) {Dk : KCode} (hDk : CSnd P S n Wd d (Dk.den F)) {o5 o6 : Oper} {x : KO} {y : Operand} {t5 : Nat} {ty : TypeId} {ic : Nat}
  (h5 : o5.op = .move y) (hx : x.ok P S y = true) (d5 : o5.dst = some t5 ∧ o5.guard.isNone = true ∧ t5 < n ∧ countB t5 S = 0) (h6 : o6.op = .range ty (.tmp t5)) (d6 : o6.dst = some t6 ∧ o6.guard.isNone = true ∧ t6 < n ∧ countB t6 S ≤ 1)
  (hty : P.underlying ty = some .string) :
  NSnd P S n (.seq (.region ic #[o5, o6] false) (.block id0 (.loop (.seq (.region ia #[o7, o8] false) (.seq (.cond (.tmp t8) .skip (.exit id0)) (.block id1 d)))))) (srngDen F x p6 p7 id1 Dk) := by
 intro D hfree en H hne e w a hr ha
 have hne := hne _ (List.mem_singleton.2 rfl)
 unfold srngDen
 generalize hZ : avS Res.fail (fun len code => bif' .fail (bif' .fail (backS H (roundsS (roundS F p7 id1 Dk) (fun en' H' => bif' false (Nat.ble H.nxt H'.low) (itAt p6 H.nxt en'.B)) p7 len 0 code ⟨.nil, p6.put (.p H.nxt 0) en.B⟩ ((H.withLow H.nxt).alloc .dead)))
  (Nat.ble (Nat.add len 1) 9223372036854775808)) (itAt p6 H.nxt (p6.put (.p H.nxt 0) en.B))) (x.den ⟨.nil, en.B⟩) = Z at hne ⊢
 have hv := KO.ok_spec hx n D e ⟨.nil, en.B⟩ a H w hr ha.clear
 cases hxe : x.den ⟨.nil, en.B⟩ with
 | s len code =>
  rw [hxe] at hZ hv
  simp only [avS] at hZ
  cases hia : itAt p6 H.nxt (p6.put (.p H.nxt 0) en.B) with
  | false => rw [hia] at hZ; exact absurd hZ.symm hne
  | true =>
  rw [hia] at hZ
  cases hle : Nat.ble (Nat.add len 1) 9223372036854775808 with
  | false => rw [hle] at hZ; exact absurd hZ.symm hne
  | true =>
  rw [hle] at hZ
  simp only [bif'] at hZ
  have hlen : len < 9223372036854775808 := Nat.le_of_ble_eq_true hle
  generalize hR : roundsS (roundS F p7 id1 Dk) (fun en' H' => bif' false (Nat.ble H.nxt H'.low) (itAt p6 H.nxt en'.B)) p7 len 0 code ⟨.nil, p6.put (.p H.nxt 0) en.B⟩ ((H.withLow H.nxt).alloc .dead) = R at hZ
  simp only [bif'] at hR
  rw [hR] at hZ
  have hRne : R ≠ .fail := by rintro rfl; exact hne hZ.symm
  generalize hyv : a.eval y = yv at hv
  cases hv with
  | s _ _ hcode =>
  have hv5 : ∀ v, (a.put (some t5) v).eval (.tmp t5) = v := fun v => getD_put_self ha.size d5.2.2.1 v
  have ha1 : ∀ v, ARel S n D e ⟨.nil, en.B⟩ (a.put (some t5) v) := fun v => (ha.clear.put (v := .x .bad) d5.2.2.1 d5.2.2.2 (.bad v)).clear
  have hrange : (Instr.range ty (a.eval y)).run P w = .ok (.pointer (some ⟨w.heap.size, 0, none⟩)) (w.alloc (.stringIter ⟨(bytesOf len code).toArray⟩ 0)) := by
   rw [hyv]; exact run_range_string w ty _ hty
  refine wp_seq (wp_region ?_)
  show wpOps P #[o5, o6] _ [0, 1] a w
  rw [wpOps_some (o := o5) rfl, wanted_none d5.2.1, if_pos rfl]
  refine .inl ?_
  have hrun5 : (execOp a.eval o5).run P w = .ok (.value (a.eval y)) w := by simp only [execOp, h5, Sem.run_pure]
  unfold Oper.wp
  rw [hrun5, Oper.upon_value, d5.1, wpOps_some (o := o6) rfl, wanted_none d6.2.1, if_pos rfl]
  refine .inl ?_
  have hrun6 : (execOp (a.put (some t5) (a.eval y)).eval o6).run P w = .ok (.value (.pointer (some ⟨w.heap.size, 0, none⟩))) (w.alloc (.stringIter ⟨(bytesOf len code).toArray⟩ 0)) := by
   simp only [execOp, h6, hv5, Sem.run_bind, hrange, Result.andThen_ok, Sem.run_pure]
  unfold Oper.wp
  rw [hrun6, Oper.upon_value, d6.1]
  have hev := Evo.alloc (hr.withLow H.nxt) .dead (.stringIter ⟨(bytesOf len code).toArray⟩ 0) ⟨w.heap.size, 0, 0, 0, 0⟩ rfl trivial
  have hit : (e.put H.nxt ⟨w.heap.size, 0, 0, 0, 0⟩) H.nxt = some ⟨w.heap.size, 0, 0, 0, 0⟩ := Emb.put_self _ _ _
  have hptr : VRel (e.put H.nxt ⟨w.heap.size, 0, 0, 0, 0⟩) (.p H.nxt 0) (.pointer (some ⟨w.heap.size, 0, none⟩)) := .p H.nxt 0 _ hit
  have ha2 := ((ha1 (a.eval y)).mono hev.ext).putV d6.2.2.1 hs.p6 d6.2.2.2 (hfree _) hptr
  have hinv : RInv P S n D e H w w.heap.size p6 (e.put H.nxt ⟨w.heap.size, 0, 0, 0, 0⟩) ⟨.nil, p6.put (.p H.nxt 0) en.B⟩ ((H.withLow H.nxt).alloc .dead) (w.alloc (.stringIter ⟨(bytesOf len code).toArray⟩ 0)) ((a.put (some t5) (a.eval y)).put (some t6) (.pointer (some ⟨w.heap.size, 0, none⟩))) :=
   ⟨hev, ha2, hit, by rw [AHeap.get_alloc]; exact if_pos rfl, Nat.le_refl _, fun b i hb hi => by
    rcases Emb.put_cases hb with ⟨rfl, _⟩ | ⟨_, hb⟩
    · rfl
    · have := hr.bnd b i hb; omega, itAt_spec hia, Nat.le_refl _⟩
  refine wp_block (loopWp_wp ((srounds_wp hs hDk hfree hlen hRne len 0 (by omega) _ _ _ _ _ hinv (heap_alloc_new w _) (by rw [Nat.pow_zero, Nat.div_one]; exact hR)).mono ?_))
  rintro X a' w' (⟨en', H', rfl, rfl, e', ha', hev'⟩ | ⟨en', H', rfl, rfl, e', ha', hev'⟩)
  · simp only [Exit.inBlock, if_true]
    refine ⟨Z, List.mem_singleton.2 rfl, ?_⟩
    rw [← hZ]
    refine ⟨rfl, e', ha', ?_⟩
    rw [minN_eq]; exact hev'.withLow
  · refine ⟨Z, List.mem_singleton.2 rfl, ?_⟩
    rw [← hZ]
    refine ⟨rfl, e', ha', ?_⟩
    rw [minN_eq]; exact hev'.withLow
 | _ => rw [hxe] at hZ; exact absurd hZ.symm hne
end
theorem ncode_snd {P : Program} {F : Fs} (hF : FsOk P F) {n : Nat} {dc : DCheck} (hD : DOk P S n F dc) : ∀ (k : NCode) (c : Code), k.ok P S n dc c = true → NSnd P S n c (k.den F)
 | .det k, c, h => nsnd_det (code_snd hF hD k c (by simpa [NCode.ok] using h))
 | .seq a b, c, h => by
  cases c <;> first | (cases h; done) | skip
  simp only [NCode.ok, Bool.and_eq_true] at h
  exact nsnd_seq (ncode_snd hF hD a _ h.1) (ncode_snd hF hD b _ h.2)
 | .rng x t5 p6 t7 t8 t9 id0 id1 l Dk, c, h => by
  unfold NCode.ok at h
  split at h
  · rename_i heq; cases heq
  · rename_i heq; cases heq
  · rename_i x1 t51 p61 t71 t81 t91 id01 id11 l1 Dk1 ic o5 o6 i0 ia o7 o8 c8 ee i1 ib o9 os d heq
    cases heq
    simp only [Bool.and_eq_true, beq_tt] at h
    obtain ⟨⟨⟨⟨⟨⟨⟨⟨⟨⟨⟨⟨⟨h1, h2⟩, h3⟩, h4⟩, h5⟩, h6⟩, h7⟩, h8⟩, h9⟩, h10⟩, h11⟩, h12⟩, h13⟩, h14⟩ := h
    subst h5; subst h6; subst h7; subst h8
    split at h11
    · rename_i t6 hp6
      simp only [Bool.and_eq_true, ble_tt] at h11
      obtain ⟨⟨⟨⟨⟨⟨k1, k2⟩, k3⟩, k4⟩, k5⟩, k6⟩, k7⟩ := h11
      have e7 : o7.op = .next (.tmp t6) false := by
       split at k6
       · rename_i u hu; rw [hu, Nat.eq_of_beq_eq_true k6]
       · cases k6
      have e9 : o9.op = .entry (.tmp t6) := by
       split at k7
       · rename_i u hu; rw [hu, Nat.eq_of_beq_eq_true k7]
       · cases k7
      have e8 : o8.op = .extract (.tmp t7) 0 := by
       split at h12
       · rename_i u hu; rw [hu, Nat.eq_of_beq_eq_true h12]
       · cases h12
      have d6 : o6.dst = some t6 := by
       split at k1
       · rename_i u hu; rw [hu, Nat.eq_of_beq_eq_true k1]
       · cases k1
      obtain ⟨y, hy, hyx⟩ : ∃ y, o5.op = .move y ∧ x.ok P S y = true := by
       split at h9
       · rename_i y hy; exact ⟨y, hy, h9⟩
       · cases h9
      obtain ⟨ty, hty1, hty2⟩ : ∃ ty, o6.op = .range ty (.tmp t5) ∧ (mapOf P ty).isSome = true := by
       split at h10
       · rename_i ty u hu
         simp only [Bool.and_eq_true] at h10
         exact ⟨ty, by rw [hu, Nat.eq_of_beq_eq_true h10.1], h10.2⟩
       · cases h10
      obtain ⟨⟨kt, el⟩, hm⟩ := Option.isSome_iff_exists.1 hty2
      exact rng_snd hF ⟨e7, e8, e9, dstT_spec h2, dstT_spec h3, dstT_spec h4, hp6⟩ h13 (code_snd hF hD Dk d h14) hy hyx (dstT_spec h1) hty1 ⟨d6, k2, by omega, k4⟩ ⟨kt, el, mapOf_spec hm⟩
    · cases h11
  · rename_i heq; cases heq
  · cases h
 | .srng x t5 p6 p7 t8 id0 id1 Dk, c, h => by
  unfold NCode.ok at h
  split at h
  · rename_i heq; cases heq
  · rename_i heq; cases heq
  · rename_i heq; cases heq
  · rename_i x1 t51 p61 p71 t81 id01 id11 Dk1 ic o5 o6 i0 ia o7 o8 c8 ee i1 d heq
    cases heq
    simp only [Bool.and_eq_true, beq_tt] at h
    obtain ⟨⟨⟨⟨⟨⟨⟨⟨⟨h1, h2⟩, h3⟩, h4⟩, h5⟩, h6⟩, h7⟩, h8⟩, h9⟩, h10⟩ := h
    subst h3; subst h4; subst h5; subst h6
    split at h9
    · rename_i t6 hp6
      rw [Bool.and_eq_true] at h9
      obtain ⟨k1, k2⟩ := h9
      split at k2
      · rename_i t7 hp7
        simp only [Bool.and_eq_true] at k2
        obtain ⟨⟨k3, k4⟩, k5⟩ := k2
        have e7 : o7.op = .next (.tmp t6) true := by
         split at k4
         · rename_i u hu; rw [hu, Nat.eq_of_beq_eq_true k4]
         · cases k4
        have e8 : o8.op = .extract (.tmp t7) 0 := by
         split at k5
         · rename_i u hu; rw [hu, Nat.eq_of_beq_eq_true k5]
         · cases k5
        obtain ⟨y, hy, hyx⟩ : ∃ y, o5.op = .move y ∧ x.ok P S y = true := by
         split at h7
         · rename_i y hy; exact ⟨y, hy, h7⟩
         · cases h7
        obtain ⟨ty, hty1, hty2⟩ : ∃ ty, o6.op = .range ty (.tmp t5) ∧ strT P ty = true := by
         split at h8
         · rename_i ty u hu
           simp only [Bool.and_eq_true] at h8
           exact ⟨ty, by rw [hu, Nat.eq_of_beq_eq_true h8.1], h8.2⟩
         · cases h8
        exact srng_snd ⟨e7, e8, dstV_spec k3, dstT_spec h2, hp6, hp7⟩ (code_snd hF hD Dk d h10) hy hyx (dstT_spec h1) hty1 (dstV_spec k1) (strT_spec hty2)
      · cases k2
    · cases h9
  · cases h
end
end Go.Ab
