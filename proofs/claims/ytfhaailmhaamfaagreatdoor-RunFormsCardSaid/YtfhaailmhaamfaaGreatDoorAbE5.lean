/- Regions that draw their order (7): the check, and that the order does not matter. -/
import Derived.Test.YtfhaailmhaamfaaGreatDoorAbE4
namespace Go.Ab
open Go
noncomputable section

def dOne (S : BT Nat) (l : List KD) (d : KD) (o : Oper) (i : Nat) : Bool :=
  (o.after.toList.all fun e => !Region.binds .any e || Nat.ble (e.on + 1) i) &&
  (d.cl.all fun j => o.after.toList.any fun e => Region.binds .any e && (Nat.beq e.on j || (match l[e.on]? with | some d' => memN j d'.cl | none => false))) &&
  d.x.ros.all (KO.slotOk S) && (match d.cls with | .z => d.x.op.isZ | _ => true)
def dConf (i : Nat) (di : KD) (j : Nat) (dj : KD) : Bool :=
  match di.cls, dj.cls with
  | .z, _ => true
  | _, .z => true
  | .r, .r => true
  | .r, .w => memN i dj.cl || memN j di.us
  | .w, .r => memN i dj.cl || memN i dj.us
  | _, _ => memN i dj.cl
def dTmp (S : BT Nat) (i : Nat) (di : KD) (oi : Oper) (dj : KD) (oj : Oper) : Bool :=
  (match oi.dst with | some t => !memN t (dj.x.reads S) || memN i dj.cl | none => true) &&
  (match oj.dst with | some t => (!memN t (di.x.reads S) || memN i dj.cl) && (match oi.dst with | some t' => !Nat.beq t' t | none => true) | none => true)
def dchk (S : BT Nat) (ops : Array Oper) (l : List KD) : Bool :=
  (List.range l.length).all fun j => match l[j]?, ops.toList[j]? with
    | some dj, some oj => dOne S l dj oj j && (List.range j).all fun i => (match l[i]?, ops.toList[i]? with
      | some di, some oi => dConf i di j dj && dTmp S i di oi dj oj
      | _, _ => true)
    | _, _ => true

structure Plan (P : Program) (S : BT Nat) (n : Nat) (F : Fs) (ops : Array Oper) (l : List KD) (gs : List (List Nat)) (E : Nat → Env) (Hf : Nat → AHeap) (Te : Nat → Nat → Prop) : Prop where
  len : l.length = ops.size
  tr : Trace F gs l gs E Hf Te
  ok : ∀ (i : Nat) (d : KD) (o : Oper), l[i]? = some d → ops[i]? = some o → d.x.ok P S n ops o = true
  one : ∀ (i : Nat) (d : KD) (o : Oper), l[i]? = some d → ops[i]? = some o → dOne S l d o i = true
  conf : ∀ (i j : Nat) (di dj : KD), i < j → l[i]? = some di → l[j]? = some dj → dConf i di j dj = true
  tmp : ∀ (i j : Nat) (di dj : KD) (oi oj : Oper), i < j → l[i]? = some di → l[j]? = some dj → ops[i]? = some oi → ops[j]? = some oj → dTmp S i di oi dj oj = true

theorem sameL_get {α β : Type} {f : α → β → Bool} : ∀ {l : List α} {m : List β}, sameL f l m = true → l.length = m.length ∧ ∀ (i : Nat) (a : α) (b : β), l[i]? = some a → m[i]? = some b → f a b = true
  | [], [], _ => ⟨rfl, fun i a b h => by simp at h⟩
  | a :: l, b :: m, h => by
    simp only [sameL, Bool.and_eq_true] at h
    obtain ⟨h1, h2⟩ := sameL_get h.2
    refine ⟨by simp [h1], fun i x y hx hy => ?_⟩
    cases i with
    | zero =>
      simp only [List.getElem?_cons_zero, Option.some.injEq] at hx hy
      subst hx; subst hy; exact h.1
    | succ i =>
      simp only [List.getElem?_cons_succ] at hx hy
      exact h2 i x y hx hy
  | [], _ :: _, h => by simp [sameL] at h
  | _ :: _, [], h => by simp [sameL] at h

section
variable {P : Program} {S : BT Nat} {n : Nat} {F : Fs} {ops : Array Oper} {l : List KD} {gs : List (List Nat)} {E : Nat → Env} {Hf : Nat → AHeap} {Te : Nat → Nat → Prop}

theorem Plan.of {h1 : dchk S ops l = true} (h2 : sameL (KE.ok P S n ops) (l.map (·.x)) ops.toList = true) (ht : Trace F gs l gs E Hf Te) : Plan P S n F ops l gs E Hf Te := by
  obtain ⟨a, b⟩ := sameL_get h2
  have hlen : l.length = ops.size := by simpa using a
  have h1' : ∀ (j : Nat) (dj : KD) (oj : Oper), l[j]? = some dj → ops[j]? = some oj → dOne S l dj oj j = true ∧ ∀ (i : Nat) (di : KD) (oi : Oper), i < j → l[i]? = some di → ops[i]? = some oi → dConf i di j dj = true ∧ dTmp S i di oi dj oj = true := by
    intro j dj oj hj ho
    unfold dchk at h1
    rw [List.all_eq_true] at h1
    have hjl : j < l.length := by
      rcases Nat.lt_or_ge j l.length with h | h
      · exact h
      · rw [List.getElem?_eq_none h] at hj; cases hj
    have := h1 j (by simpa using hjl)
    rw [hj, show ops.toList[j]? = some oj by simpa using ho] at this
    simp only [Bool.and_eq_true, List.all_eq_true] at this
    refine ⟨this.1, fun i di oi hij hi hoi => ?_⟩
    have q := this.2 i (by simpa using hij)
    rw [hi, show ops.toList[i]? = some oi by simpa using hoi] at q
    simpa using q
  have hget : ∀ (i : Nat) (d : KD), l[i]? = some d → ∃ o, ops[i]? = some o := fun i d h => by
    have : i < l.length := by
      rcases Nat.lt_or_ge i l.length with h' | h'
      · exact h'
      · rw [List.getElem?_eq_none h'] at h; cases h
    exact ⟨ops[i], by simp [hlen ▸ this]⟩
  refine ⟨hlen, ht, fun i d o hd ho => b i d.x o (by simp [hd]) (by simpa using ho), fun i d o hd ho => (h1' i d o hd ho).1, fun i j di dj hij hi hj => ?_, fun i j di dj oi oj hij hi hj hoi hoj => ((h1' j dj oj hj hoj).2 i di oi hij hi hoi).2⟩
  obtain ⟨oi, hoi⟩ := hget i di hi
  obtain ⟨oj, hoj⟩ := hget j dj hj
  exact ((h1' j dj oj hj hoj).2 i di oi hij hi hoi).1


theorem Plan.getO (hp : Plan P S n F ops l gs E Hf Te) (i : Nat) (d : KD) (h : l[i]? = some d) : ∃ o, ops[i]? = some o := by
  have : i < l.length := by
    rcases Nat.lt_or_ge i l.length with h' | h'
    · exact h'
    · rw [List.getElem?_eq_none h'] at h; cases h
  exact ⟨ops[i]'(hp.len ▸ this), by simp [hp.len ▸ this]⟩
theorem Plan.getD' (hp : Plan P S n F ops l gs E Hf Te) (i : Nat) (h : i < ops.size) : ∃ d, l[i]? = some d := ⟨l[i]'(hp.len ▸ h), by simp [hp.len ▸ h]⟩

theorem Plan.stages (hp : Plan P S n F ops l gs E Hf Te) : Stages ops.size Hf Te := by
  have hm : ∀ j, j < ops.size → ∃ kk D Y Y', Mem kk D (Hf j) (Hf (j + 1)) (Te j) Y Y' := fun j hj => by
    obtain ⟨d, hd⟩ := hp.getD' j hj
    obtain ⟨wd, v, Y, Y', D', _, _, _, _, h, _⟩ := (hp.tr.stp j d hd).ex
    exact ⟨_, _, Y, Y', h⟩
  refine ⟨fun j hj => ?_, fun j hj => ?_, fun j b hj hT => ?_⟩ <;> obtain ⟨kk, D, Y, Y', h⟩ := hm j hj
  · have := h.n'; omega
  · exact h.l0
  · have hn := h.n'
    rcases Nat.lt_or_ge b (Hf j).nxt with hb | hb
    · exact h.g0 b hb fun q => hT (.inr q)
    · have hb2 : (Hf (j + 1)).nxt ≤ b := by
        rcases Nat.lt_or_ge b (Hf (j + 1)).nxt with q | q
        · exact absurd (.inl ⟨hb, q⟩) hT
        · exact q
      rw [AHeap.get_eq, AHeap.get_eq, if_neg (by omega), if_neg (by omega)]

/-- What is done holds what is ahead of it. -/
def Closed (ops : Array Oper) (L : Nat → Bool) : Prop := ∀ (i : Nat) (o : Oper), L i = true → ops[i]? = some o → ∀ e ∈ o.after, Region.binds .any e = true → L e.on = true

theorem Plan.back (hp : Plan P S n F ops l gs E Hf Te) (i : Nat) (o : Oper) (ho : ops[i]? = some o) (e : Edge) (he : e ∈ o.after) (hb : Region.binds .any e = true) : e.on < i := by
  have hi : i < ops.size := (Array.getElem?_eq_some_iff.1 ho).1
  obtain ⟨d, hd⟩ := hp.getD' i hi
  have := hp.one i d o hd ho
  unfold dOne at this
  simp only [Bool.and_eq_true, List.all_eq_true] at this
  have h1 := this.1.1.1 e (by simpa using he)
  simp only [hb, Bool.not_true, Bool.false_or, ble_tt] at h1
  omega

theorem Plan.ahead (hp : Plan P S n F ops l gs E Hf Te) {L : Nat → Bool} (hc : Closed ops L) : ∀ (k i : Nat), i < k → ∀ (d : KD) (o : Oper), l[i]? = some d → ops[i]? = some o → (∀ e ∈ o.after, Region.binds .any e = true → L e.on = true) → ∀ j ∈ d.cl, L j = true
  | 0, i, h, _, _, _, _, _, _, _ => by omega
  | k + 1, i, hik, d, o, hd, ho, hr, j, hj => by
    have := hp.one i d o hd ho
    unfold dOne at this
    simp only [Bool.and_eq_true, List.all_eq_true, List.any_eq_true] at this
    obtain ⟨e, he, hb, hor⟩ := this.1.1.2 j hj
    have he' : e ∈ o.after := by simpa using he
    have hle := hr e he' hb
    rw [Bool.or_eq_true] at hor
    rcases hor with h | h
    · have := Nat.eq_of_beq_eq_true h
      rw [← this]; exact hle
    · cases hl : l[e.on]? with
      | none => rw [hl] at h; cases h
      | some d' =>
        rw [hl] at h
        dsimp only at h
        rw [memN_iff] at h
        obtain ⟨o', ho'⟩ := hp.getO e.on d' hl
        have := hp.back i o ho e he' hb
        exact Plan.ahead hp hc k e.on (by omega) d' o' hl ho' (fun e2 h2 hb2 => hc e.on o' hle ho' e2 h2 hb2) j h
theorem Plan.aheadL (hp : Plan P S n F ops l gs E Hf Te) {L : Nat → Bool} (hc : Closed ops L) {i : Nat} {d : KD} (hd : l[i]? = some d) (hL : L i = true) {j : Nat} (hj : j ∈ d.cl) : L j = true := by
  obtain ⟨o, ho⟩ := hp.getO i d hd
  exact hp.ahead hc (i + 1) i (by omega) d o hd ho (fun e he hb => hc i o hL ho e he hb) j hj

theorem Plan.z_none (hp : Plan P S n F ops l gs E Hf Te) {j : Nat} {d : KD} (hd : l[j]? = some d) (hz : d.cls = .z) (b : Nat) : ¬ Tou Hf Te j b := by
  obtain ⟨h1, h2⟩ := (hp.tr.stp j d hd).cz hz
  rintro (⟨q1, q2⟩ | q)
  · omega
  · exact h1 b q

theorem gs_mem {j b : Nat} (h : b ∈ (gs[j]?).getD []) {us : List Nat} (hj : j ∈ us) : b ∈ deadsOf gs us := by
  cases hg : gs[j]? with
  | none => rw [hg] at h; cases h
  | some g => rw [hg] at h; exact mem_deadsOf hg h hj

variable {L : Nat → Bool} {e0 e : Emb} {w0 w : World} {G : Nat}

theorem Plan.shown (hp : Plan P S n F ops l gs E Hf Te) (hI : Inv G ops.size Hf Te e0 w0 L e w) (hc : Closed ops L) {i : Nat} {d : KD} {o : Oper} (hd : l[i]? = some d) (ho : ops[i]? = some o) (hL : L i = false) (hr : ∀ e ∈ o.after, Region.binds .any e = true → L e.on = true)
    {D : List Nat} {kk : Prop} {Y Y' : AHeap} (hm : Mem kk D (Hf i) (Hf (i + 1)) (Te i) Y Y') (hD : d.cls = .r → D = deadsOf gs d.us ∨ ∀ b, b < (Hf i).nxt → Y.get b = some .dead) (hz : d.cls = .z → ∀ b, b < (Hf i).nxt → Y.get b = some .dead) :
    Shown ops.size Hf Te L e i Y := by
  have hs := hp.stages
  have hi : i < ops.size := (Array.getElem?_eq_some_iff.1 ho).1
  have hcl : ∀ j ∈ d.cl, L j = true := hp.ahead hc (i + 1) i (by omega) d o hd ho hr
  intro b hb hor hdead
  have hYb : Y.get b = (Hf i).get b ∧ b ∉ D := by
    rcases hdead with h | h
    · exact (hm.yb b hb).resolve_left h
    · exact (hm.te b h).2
  have hnz : d.cls ≠ .z := fun hcz => by
    rcases hdead with h | h
    · exact h (hz hcz b hb)
    · exact ((hp.tr.stp i d hd).cz hcz).1 b h
  have hDr : d.cls = .r → b ∉ deadsOf gs d.us := fun hcr => by
    rcases hD hcr with h | h
    · rw [← h]; exact hYb.2
    · rcases hdead with q | q
      · exact absurd (h b hb) q
      · exact absurd q (((hp.tr.stp i d hd).cr hcr).1 b)
  have h1 : ∀ j, i ≤ j → j < ops.size → ¬ (L j = true ∧ Tou Hf Te j b) := by
    rintro j hij hj ⟨hLj, hT⟩
    have hne : i ≠ j := by rintro rfl; rw [hL] at hLj; cases hLj
    obtain ⟨dj, hdj⟩ := hp.getD' j hj
    have hnn := hs.nxt hij (Nat.le_of_lt hj)
    have hTe : Te j b := by
      rcases hT with ⟨q, _⟩ | q
      · omega
      · exact q
    have hno : i ∉ dj.cl := fun h => by
      have := hp.aheadL hc hdj hLj h
      rw [hL] at this; cases this
    have hcf := hp.conf i j d dj (by omega) hd hdj
    unfold dConf at hcf
    cases hcj : dj.cls with
    | z => exact hp.z_none hdj hcj b hT
    | r => exact ((hp.tr.stp j dj hdj).cr hcj).1 b hTe
    | w =>
      have hg := (hp.tr.stp j dj hdj).cw hcj b hTe
      cases hci : d.cls with
      | z => exact hnz hci
      | r =>
        rw [hci, hcj] at hcf
        simp only [Bool.or_eq_true, memN_iff] at hcf
        rcases hcf with q | q
        · exact hno q
        · exact hDr hci (gs_mem hg q)
      | w => rw [hci, hcj] at hcf; rw [memN_iff] at hcf; exact hno hcf
      | k => rw [hci, hcj] at hcf; rw [memN_iff] at hcf; exact hno hcf
    | k =>
      cases hci : d.cls with
      | z => exact hnz hci
      | r => rw [hci, hcj] at hcf; rw [memN_iff] at hcf; exact hno hcf
      | w => rw [hci, hcj] at hcf; rw [memN_iff] at hcf; exact hno hcf
      | k => rw [hci, hcj] at hcf; rw [memN_iff] at hcf; exact hno hcf
  have h2 : ∀ j, j < i → Tou Hf Te j b → L j = true := by
    intro j hji hT
    obtain ⟨dj, hdj⟩ := hp.getD' j (by omega)
    rcases hT with ⟨q1, q2⟩ | hTe
    · rcases hor with h | ⟨k, hk⟩
      · have := hs.nxt (Nat.zero_le j) (by omega : j ≤ ops.size); omega
      · rcases hI.own b k hk with ⟨h, _⟩ | ⟨j', hj', hLj', p1, p2⟩
        · have := hs.nxt (Nat.zero_le j) (by omega : j ≤ ops.size); omega
        · have : j' = j := by
            rcases Nat.lt_trichotomy j' j with h | h | h
            · have := hs.nxt (i := j' + 1) (k := j) (by omega) (by omega); omega
            · exact h
            · have := hs.nxt (i := j + 1) (k := j') (by omega) (by omega); omega
          subst this; exact hLj'
    · have hcf := hp.conf j i dj d hji hdj hd
      unfold dConf at hcf
      cases hcj : dj.cls with
      | z => exact absurd (.inr hTe) (hp.z_none hdj hcj b)
      | r => exact absurd hTe (((hp.tr.stp j dj hdj).cr hcj).1 b)
      | w =>
        have hg := (hp.tr.stp j dj hdj).cw hcj b hTe
        cases hci : d.cls with
        | z => exact absurd hci hnz
        | r =>
          rw [hci, hcj] at hcf
          simp only [Bool.or_eq_true, memN_iff] at hcf
          rcases hcf with q | q
          · exact hcl j q
          · exact absurd (gs_mem hg q) (hDr hci)
        | w => rw [hci, hcj] at hcf; rw [memN_iff] at hcf; exact hcl j hcf
        | k => rw [hci, hcj] at hcf; rw [memN_iff] at hcf; exact hcl j hcf
      | k =>
        cases hci : d.cls with
        | z => exact absurd hci hnz
        | r => rw [hci, hcj] at hcf; rw [memN_iff] at hcf; exact hcl j hcf
        | w => rw [hci, hcj] at hcf; rw [memN_iff] at hcf; exact hcl j hcf
        | k => rw [hci, hcj] at hcf; rw [memN_iff] at hcf; exact hcl j hcf
  have hx := ix_cut (Nat.le_of_lt hi) h1
  rw [hx, hYb.1]
  exact ⟨ix_all (fun j hj => hs.same j b hj) (Nat.le_of_lt hi) h2, hs.nxt (ix_le i b) (Nat.le_of_lt hi)⟩

theorem Plan.later (hp : Plan P S n F ops l gs E Hf Te) (hc : Closed ops L) {i : Nat} {d : KD} (hd : l[i]? = some d) (hL : L i = false) (j b : Nat) (hij : i < j) (hj : j < ops.size) (hTi : Tou Hf Te i b) : ¬ (L j = true ∧ Tou Hf Te j b) := by
  rintro ⟨hLj, hT⟩
  have hs := hp.stages
  obtain ⟨dj, hdj⟩ := hp.getD' j hj
  obtain ⟨wd, v, Y, Y', D', _, _, _, _, hm, _⟩ := (hp.tr.stp i d hd).ex
  have hbi : b < (Hf (i + 1)).nxt := by
    rcases hTi with q | q
    · exact q.2
    · have := (hm.te b q).1
      have := hs.mono i (by omega)
      omega
  have hnn := hs.nxt (i := i + 1) (k := j) (by omega) (Nat.le_of_lt hj)
  have hTe : Te j b := by
    rcases hT with ⟨q, _⟩ | q
    · omega
    · exact q
  have hno : i ∉ dj.cl := fun h => by
    have := hp.aheadL hc hdj hLj h
    rw [hL] at this; cases this
  have hnz : d.cls ≠ .z := fun h => hp.z_none hd h b hTi
  have hcf := hp.conf i j d dj hij hd hdj
  unfold dConf at hcf
  cases hcj : dj.cls with
  | z => exact hp.z_none hdj hcj b hT
  | r => exact ((hp.tr.stp j dj hdj).cr hcj).1 b hTe
  | w =>
    have hg := (hp.tr.stp j dj hdj).cw hcj b hTe
    cases hci : d.cls with
    | z => exact hnz hci
    | r =>
      rw [hci, hcj] at hcf
      simp only [Bool.or_eq_true, memN_iff] at hcf
      rcases hcf with q | q
      · exact hno q
      · obtain ⟨r1, r2⟩ := (hp.tr.stp i d hd).cr hci
        rcases hTi with ⟨p1, p2⟩ | p
        · rcases r2 b (gs_mem hg q) with r | r <;> omega
        · exact r1 b p
    | w => rw [hci, hcj] at hcf; rw [memN_iff] at hcf; exact hno hcf
    | k => rw [hci, hcj] at hcf; rw [memN_iff] at hcf; exact hno hcf
  | k =>
    cases hci : d.cls with
    | z => exact hnz hci
    | r => rw [hci, hcj] at hcf; rw [memN_iff] at hcf; exact hno hcf
    | w => rw [hci, hcj] at hcf; rw [memN_iff] at hcf; exact hno hcf
    | k => rw [hci, hcj] at hcf; rw [memN_iff] at hcf; exact hno hcf

theorem Plan.kAll (hp : Plan P S n F ops l gs E Hf Te) (hI : Inv G ops.size Hf Te e0 w0 L e w) (hc : Closed ops L) {i : Nat} {d : KD} (hd : l[i]? = some d) (hi : i < ops.size) (hL : L i = false) (hk : d.cls = .k) (b : Nat) (k : Info) (hb : e b = some k) : b < (Hf i).nxt := by
  have hs := hp.stages
  rcases hI.own b k hb with ⟨h, _⟩ | ⟨j, hj, hLj, h1, h2⟩
  · have := hs.nxt (Nat.zero_le i) (Nat.le_of_lt hi); omega
  · rcases Nat.lt_trichotomy j i with h | h | h
    · have := hs.nxt (i := j + 1) (k := i) (by omega) (by omega); omega
    · subst h; rw [hL] at hLj; cases hLj
    · exfalso
      obtain ⟨dj, hdj⟩ := hp.getD' j hj
      have hno : i ∉ dj.cl := fun h => by
        have := hp.aheadL hc hdj hLj h
        rw [hL] at this; cases this
      have hcf := hp.conf i j d dj h hd hdj
      unfold dConf at hcf
      rw [hk] at hcf
      cases hcj : dj.cls with
      | z => exact hp.z_none hdj hcj b (.inl ⟨h1, h2⟩)
      | r => rw [hcj] at hcf; rw [memN_iff] at hcf; exact hno hcf
      | w => rw [hcj] at hcf; rw [memN_iff] at hcf; exact hno hcf
      | k => rw [hcj] at hcf; rw [memN_iff] at hcf; exact hno hcf
end
end
end Go.Ab
