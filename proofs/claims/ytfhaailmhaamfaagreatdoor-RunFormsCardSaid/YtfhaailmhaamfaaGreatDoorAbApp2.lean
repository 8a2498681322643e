/- Rows that grow in their place: the new cells are put behind, the tree is not built anew. -/
import Derived.Test.YtfhaailmhaamfaaGreatDoorAbApp
namespace Go.Ab
open Go
noncomputable section
variable {S : BT Nat}

/-- Put at a place, or just behind the last one. -/
def BT.ins {α : Type} (a : α) (t : BT α) : Nat → BT α :=
  BT.rec (motive := fun _ => Nat → BT α) (fun _ => .nd .lf a .lf)
    (fun l v r il ir i => Bool.rec (motive := fun _ => BT α)
      (Bool.rec (motive := fun _ => BT α) (.nd l v (ir (Nat.sub (Nat.div i 2) 1))) (.nd (il (Nat.div i 2)) v r) (Nat.beq (Nat.mod i 2) 1)) (.nd l a r) (Nat.beq i 0)) t
theorem BT.ins_nd {α : Type} (l r : BT α) (v a : α) (i : Nat) : (BT.nd l v r).ins a i =
    if i = 0 then .nd l a r else if i % 2 = 1 then .nd (l.ins a (i / 2)) v r else .nd l v (r.ins a (i / 2 - 1)) := by
  have h : (BT.nd l v r).ins a i = Bool.rec (motive := fun _ => BT α)
      (Bool.rec (motive := fun _ => BT α) (.nd l v (r.ins a (Nat.sub (Nat.div i 2) 1))) (.nd (l.ins a (Nat.div i 2)) v r) (Nat.beq (Nat.mod i 2) 1)) (.nd l a r) (Nat.beq i 0) := rfl
  rw [h, brec, brec]
  simp only [beq_tt]
  rfl
theorem BT.get_ins {α : Type} (a : α) (t : BT α) : ∀ (i : Nat), (∀ j, j < i → t.get j ≠ none) → ∀ j, j ≤ i → (t.ins a i).get j = if j = i then some a else t.get j := by
  induction t with
  | lf =>
    intro i h j hj
    have hi : i = 0 := by
      rcases Nat.eq_zero_or_pos i with h0 | h0
      · exact h0
      · exact absurd rfl (h 0 h0)
    subst hi
    have hj0 : j = 0 := by omega
    subst hj0
    show (BT.nd BT.lf a BT.lf).get 0 = _
    rw [BT.get_nd]; simp
  | nd l v r il ir =>
    intro i h j hj
    rw [BT.ins_nd]
    by_cases hi : i = 0
    · subst hi
      have hj0 : j = 0 := by omega
      subst hj0
      rw [if_pos rfl, BT.get_nd]; simp
    · rw [if_neg hi]
      by_cases hm : i % 2 = 1
      · rw [if_pos hm, BT.get_nd, BT.get_nd]
        by_cases hj0 : j = 0
        · subst hj0; simp [Ne.symm hi]
        · by_cases hjm : j % 2 = 1
          · simp only [if_neg hj0, if_pos hjm]
            have := il (i / 2) (fun k hk => by
              have := h (2 * k + 1) (by omega)
              rw [BT.get_nd, if_neg (by omega), if_pos (by omega)] at this
              rwa [show (2 * k + 1) / 2 = k by omega] at this) (j / 2) (by omega)
            rw [this]
            by_cases he : j = i
            · subst he; simp
            · rw [if_neg he, if_neg (by omega)]
          · simp only [if_neg hj0, if_neg hjm]
            rw [if_neg (by intro h; subst h; exact hjm hm)]
      · rw [if_neg hm, BT.get_nd, BT.get_nd]
        by_cases hj0 : j = 0
        · subst hj0; simp [Ne.symm hi]
        · by_cases hjm : j % 2 = 1
          · simp only [if_neg hj0, if_pos hjm]
            rw [if_neg (by intro h; subst h; exact hm hjm)]
          · simp only [if_neg hj0, if_neg hjm]
            have := ir (i / 2 - 1) (fun k hk => by
              have := h (2 * k + 2) (by omega)
              rw [BT.get_nd, if_neg (by omega), if_neg (by omega)] at this
              rwa [show (2 * k + 2) / 2 - 1 = k by omega] at this) (j / 2 - 1) (by omega)
            rw [this]
            by_cases he : j = i
            · subst he; simp
            · rw [if_neg he, if_neg (by omega)]

def insN (t : BT AV) (o : Nat) (l : List AV) : BT AV :=
  List.rec (motive := fun _ => BT AV → Nat → BT AV) (fun t _ => t) (fun v _ ih t o => ih (t.ins v o) (Nat.add o 1)) l t o
theorem insN_cons (t : BT AV) (o : Nat) (v : AV) (l : List AV) : insN t o (v :: l) = insN (t.ins v o) (o + 1) l := rfl
theorem insN_get : ∀ (l : List AV) (t : BT AV) (o : Nat), (∀ j, j < o → t.get j ≠ none) → ∀ k, k < o + l.length → (insN t o l).get k = if k < o then t.get k else l[k - o]?
  | [], t, o, h, k, hk => by
    show t.get k = _
    rw [if_pos (by simpa using hk)]
  | v :: l, t, o, h, k, hk => by
    rw [insN_cons]
    have hg := BT.get_ins v t o h
    simp only [List.length_cons] at hk
    rw [insN_get l (t.ins v o) (o + 1) (fun j hj => by
      rw [hg j (by omega)]
      split
      · simp
      · exact h j (by omega)) k (by omega)]
    by_cases h1 : k < o + 1
    · rw [if_pos h1, hg k (by omega)]
      by_cases h2 : k = o
      · subst h2; simp
      · rw [if_neg h2, if_pos (by omega)]
    · rw [if_neg h1, if_neg (by omega), show k - o = (k - (o + 1)) + 1 by omega]
      simp

theorem Evo.swap {G : Nat} {e e' : Emb} {H H1 : AHeap} {w w' : World} {n sp : Nat} {T1 T2 : BT AV} {wr : Bool} (h : Evo G e H w e' (H1.alloc (.c n T1 wr sp)) w') (hT : ∀ k, k < n → T1.get k = T2.get k) (hn : H.nxt ≤ H1.nxt) :
    Evo G e H w e' (H1.alloc (.c n T2 wr sp)) w' := by
  have hg : ∀ c, c ≠ H1.nxt → (H1.alloc (.c n T2 wr sp)).get c = (H1.alloc (.c n T1 wr sp)).get c := fun c hc => by rw [AHeap.get_alloc, AHeap.get_alloc, if_neg hc, if_neg hc]
  have g1 : (H1.alloc (.c n T1 wr sp)).get H1.nxt = some (.c n T1 wr sp) := by rw [AHeap.get_alloc, if_pos rfl]
  have g2 : (H1.alloc (.c n T2 wr sp)).get H1.nxt = some (.c n T2 wr sp) := by rw [AHeap.get_alloc, if_pos rfl]
  have own : ∀ c, (H1.alloc (.c n T2 wr sp)).owned c → (H1.alloc (.c n T1 wr sp)).owned c := fun c ho => by
    by_cases hc : c = H1.nxt
    · subst hc
      rcases ho with ⟨m, t, s, q⟩ | ⟨es, q⟩
      · rw [g2] at q; cases q; exact .inl ⟨_, _, _, g1⟩
      · rw [g2] at q; cases q
    · unfold AHeap.owned at *; rwa [hg c hc] at ho
  have al : ∀ c, (H1.alloc (.c n T2 wr sp)).alive c → (H1.alloc (.c n T1 wr sp)).alive c := fun c ho => by
    by_cases hc : c = H1.nxt
    · subst hc; exact ⟨_, g1, by simp⟩
    · unfold AHeap.alive at *; rwa [hg c hc] at ho
  refine { h with rel := { h.rel with obj := ?_, sep := ?_ }, same := ?_, dead := ?_ }
  · intro b i x hb hx
    by_cases hc : b = H1.nxt
    · subst hc
      rw [g2] at hx; cases hx
      obtain ⟨e1, e2, e3, C, ty, z, c1, c2, c3, c4⟩ := h.rel.obj _ i _ hb g1
      refine ⟨e1, e2, e3, C, ty, z, c1, c2, c3, fun k hk => ?_⟩
      obtain ⟨v, v', q1, q2, q3⟩ := c4 k hk
      exact ⟨v, v', by rw [← hT k hk]; exact q1, q2, q3⟩
    · rw [hg b hc] at hx; exact h.rel.obj b i x hb hx
  · intro b1 i1 b2 i2 h1 h2 hne ho ha
    exact h.rel.sep b1 i1 b2 i2 h1 h2 hne (own b1 ho) (al b2 ha)
  · intro b hb hl
    rw [hg b (by omega)]; exact h.same b hb hl
  · intro b hb
    have := h.dead b hb
    by_cases hc : b = H1.nxt
    · subst hc; rw [g1] at this; cases this
    · rw [hg b hc]; exact this

theorem OSnd.swap {P : Program} {o : Oper} {en : Env} {H H1 : AHeap} {v : AV} {n sp : Nat} {T1 T2 : BT AV} {wr : Bool} (h : OSnd P S o en H (.v v (H1.alloc (.c n T1 wr sp)))) (hT : ∀ k, k < n → T1.get k = T2.get k) (hn : H.nxt ≤ H1.nxt) :
    OSnd P S o en H (.v v (H1.alloc (.c n T2 wr sp))) := by
  intro N D e w a hr ha
  have := h N D e w a hr ha
  unfold Oper.wp at *
  revert this
  generalize (execOp a.eval o).run P w = R
  intro this
  cases R with
  | ok nx w' =>
    cases nx <;> simp only [Oper.upon] at this ⊢ <;> first
      | (obtain ⟨e', v', q1, q2, q3⟩ := this; exact ⟨e', v', q1, q2, q3.swap hT hn⟩)
      | (refine Calls.mono this fun E w'' hE => ?_
         cases E with
         | returned u => obtain ⟨e', v', q1, q2, q3⟩ := hE; exact ⟨e', v', q1, q2, q3.swap hT hn⟩
         | panicked c => exact hE
         | outgrown => exact hE)
      | exact Rows.mono this fun u w'' hE => by obtain ⟨e', v', q1, q2, q3⟩ := hE; exact ⟨e', v', q1, q2, q3.swap hT hn⟩
  | halt x w' => cases x <;> simp only [Oper.upon] at this

def growF (sz : Nat) (H : AHeap) (b len n : Nat) (l : List AV) : ORes :=
  blkC .fail (fun _ T _ _ => .v (.sl H.nxt 0 (Nat.add len n) (Nat.add len n)) ((H.upd b .dead).alloc (.c (Nat.add (Nat.mul len sz) l.length) (insN T (Nat.mul len sz) l) true sz))) (H.get b)
/-- Append, the quick way where the row grows in its place. -/
def quick (sz : Nat) (H : AHeap) (x : AV) (p : Nat × List AV) : Option ORes :=
  avSl none (fun b o len cap => Bool.rec (motive := fun _ => Option ORes)
    (Option.rec (motive := fun _ => Option ORes) none (fun g => Bool.rec (motive := fun _ => Option ORes) none (Bool.rec (motive := fun _ => Option ORes) none (bif' none (some (growF sz H b len p.1 p.2)) (Nat.ble len cap)) (Nat.beq o 0)) g) (grows H b o cap sz)) none (Nat.ble (Nat.add len p.1) cap)) x
def opAppendF (sz bytes : Nat) (x y : Env → AV) (en : Env) (H : AHeap) : ORes :=
  Option.rec (motive := fun _ => ORes) .fail (fun p =>
    Option.rec (motive := fun _ => ORes) (opAppend sz bytes x y en H) (fun r => bif' (opAppend sz bytes x y en H) (bif' (opAppend sz bytes x y en H) (bif' (opAppend sz bytes x y en H) r (avSl false (fun _ _ len _ => Nat.ble (Nat.mul (Nat.add len p.1) bytes) 140737488355328) (x en))) (allOne p.2)) (Nat.ble 1 p.1)) (quick sz H (x en) p)) (readS sz H (y en))

theorem takeN_some (t : BT AV) : ∀ (n o : Nat), (∀ k, k < n → t.get (o + k) ≠ none) → ∃ l, takeN t n o = some l
  | 0, o, _ => ⟨[], rfl⟩
  | n + 1, o, h => by
    rw [takeN_succ]
    cases hv : t.get o with
    | none => exact absurd (by simpa using hv) (h 0 (by omega))
    | some v =>
      obtain ⟨l, hl⟩ := takeN_some t n (o + 1) (fun k hk => by have := h (k + 1) (by omega); rwa [show o + (k + 1) = o + 1 + k by omega] at this)
      exact ⟨v :: l, by simp [hl]⟩

theorem opAppendF_snd {P : Program} {o : Oper} {t el : TypeId} {x y : Operand} {x' y' : Env → AV} {sz bytes : Nat} {i : TypeInfo} {z : Value} (ho : o.op = .call { callee := .builtin .append, args := #[x, y], argTypes := #[t, t] })
    (ht : P.underlying t = some (.slice el)) (hi : P.info? el = some i) (hsz : i.size = sz) (hby : i.bytes = bytes) (hz : i.zero = some z) (hzs : z.cells.size = sz) (hs0 : 0 < sz) (hb0 : 0 < bytes) (hx : OpndOk P S x x') (hy : OpndOk P S y y') (en : Env) (H : AHeap) :
    OSnd P S o en H (opAppendF sz bytes x' y' en H) := by
  have slow := opAppend_snd ho ht hi hsz hby hz hzs hs0 hb0 hx hy en H
  unfold opAppendF
  cases hrd : readS sz H (y' en) with
  | none => trivial
  | some p =>
  obtain ⟨n, l⟩ := p
  simp only
  cases hq : quick sz H (x' en) (n, l) with
  | none => exact slow
  | some r =>
  simp only [bif']
  cases hn : Nat.ble 1 n with
  | false => exact slow
  | true =>
  cases hone : allOne l with
  | false => exact slow
  | true =>
  cases hbig : avSl false (fun _ _ len _ => Nat.ble (Nat.mul (Nat.add len n) bytes) 140737488355328) (x' en) with
  | false => exact slow
  | true =>
  simp only
  -- the quick way
  unfold quick at hq
  cases hxe : x' en with
  | sl b k len cap =>
    rw [hxe] at hq hbig
    simp only [avSl] at hq hbig
    cases hin : Nat.ble (Nat.add len n) cap with
    | true => rw [hin] at hq; cases hq
    | false =>
    rw [hin] at hq
    cases hgr : grows H b k cap sz with
    | none => rw [hgr] at hq; cases hq
    | some g =>
    rw [hgr] at hq
    cases g with
    | false => cases hq
    | true =>
    simp only at hq
    cases hk : Nat.beq k 0 with
    | false => rw [hk] at hq; cases hq
    | true =>
    rw [hk] at hq
    have hk0 := Nat.eq_of_beq_eq_true hk
    subst hk0
    simp only [bif'] at hq
    cases hlc : Nat.ble len cap with
    | false => rw [hlc] at hq; cases hq
    | true =>
    rw [hlc] at hq
    have hlc' : len ≤ cap := by rw [ble_tt] at hlc; exact hlc
    simp only [Option.some.injEq] at hq
    obtain ⟨m, T, q1, q2, q3⟩ := grows_true hgr
    have hr : r = .v (.sl H.nxt 0 (len + n) (len + n)) ((H.upd b .dead).alloc (.c (len * sz + l.length) (insN T (len * sz) l) true sz)) := by
      rw [← hq]; unfold growF; rw [q1]; rfl
    rw [hr]
    have hn0 : ¬ Nat.beq n 0 = true := by rw [beq_tt]; rw [ble_tt] at hn; omega
    have hn0' : Nat.beq n 0 = false := by cases hh : Nat.beq n 0 <;> simp_all
    -- with a world at hand the elder cells are there
    intro N D e w a hrel ha
    have h1 := hx N D e en a H w hrel ha
    rw [hxe] at h1
    have hT : ∀ j, j < len * sz → T.get j ≠ none := by
      generalize a.eval x = xv at h1
      cases h1 with
      | sl _ _ _ _ cap' jn hj hcap =>
        intro j hj'
        obtain ⟨e1, e2, e3, C, ty, zz, c1, c2, c3, c4⟩ := hrel.obj b jn _ hj q1
        have : len * sz ≤ cap * sz := Nat.mul_le_mul_right _ hlc'
        obtain ⟨v, v', g1, _⟩ := c4 j (by omega)
        rw [g1]; simp
      | slq => intro j hj'; omega
    obtain ⟨old, hold⟩ := takeN_some T (len * sz) 0 (by simpa using hT)
    obtain ⟨ol, og⟩ := takeN_spec T (len * sz) 0 old hold
    have hread : readN H b 0 (Nat.mul len sz) = some old := by
      unfold readN
      rw [q1]
      have hle : Nat.ble (Nat.add 0 (Nat.mul len sz)) m = true := by
        rw [ble_tt]
        have : len * sz ≤ cap * sz := Nat.mul_le_mul_right _ hlc'
        show 0 + len * sz ≤ m
        omega
      simp only [blkC, bif', hle]
      exact hold
    have heq : opAppend sz bytes x' y' en H = .v (.sl H.nxt 0 (len + n) (len + n)) ((H.upd b .dead).alloc (.c (len * sz + l.length) (BT.ofList (old ++ l)) true sz)) := by
      unfold opAppend
      rw [hrd]
      simp only [hn0', hone, bif', hxe, hbig, appSl, hin, hread, optL, hgr]
      unfold newG
      rw [List.length_append, ol]
      rfl
    rw [heq] at slow
    refine (slow.swap (T2 := insN T (len * sz) l) ?_ (Nat.le_refl _)) N D e w a hrel ha
    intro k hk
    rw [BT.get_ofList, insN_get l T (len * sz) hT k hk]
    by_cases hkl : k < len * sz
    · rw [if_pos hkl, List.getElem?_append_left (by omega), og k hkl, Nat.zero_add]
    · rw [if_neg hkl, List.getElem?_append_right (by omega), ol]
  | _ => rw [hxe] at hq; cases hq
end
end Go.Ab
