/- A logic over an abstract memory, and that it is sound (4 of 9). -/
import Derived.Test.YtjleffkdaiaknaaGreatDoorAb3
namespace Go.Ab
open Go
noncomputable section
variable {S : BT Nat}
def BT.ins {α : Type} (a : α) (t : BT α) : Nat → BT α :=
 BT.rec (motive := fun _ => Nat → BT α) (fun _ => .nd .lf a .lf)
  (fun l v r il ir i => Bool.rec (motive := fun _ => BT α)
   (Bool.rec (motive := fun _ => BT α) (.nd l v (ir (Nat.sub (Nat.div i 2) 1))) (.nd (il (Nat.div i 2)) v r) (Nat.beq (Nat.mod i 2) 1)) (.nd l a r) (Nat.beq i 0)) t
theorem BT.ins_nd {α : Type} (l r : BT α) (v a : α) (i : Nat) : (BT.nd l v r).ins a i =
  if i = 0 then .nd l a r else if i % 2 = 1 then .nd (l.ins a (i / 2)) v r else .nd l v (r.ins a (i / 2 - 1)) := by
 have h : (BT.nd l v r).ins a i = Bool.rec (motive := fun _ => BT α)
   (Bool.rec (motive := fun _ => BT α) (.nd l v (r.ins a (Nat.sub (Nat.div i 2) 1))) (.nd (l.ins a (Nat.div i 2)) v r) (Nat.beq (Nat.mod i 2) 1)) (.nd l a r) (Nat.beq i 0) := rfl
 rw [h, brec, brec]
 simp only [beq_tt]
 rfl
theorem BT.get_ins {α : Type} (a : α) (t : BT α) : ∀ (i : Nat), (∀ j, j < i → t.get j ≠ none) → ∀ j, j ≤ i → (t.ins a i).get j = if j = i then some a else t.get j := by
 induction t with
 | lf =>
  intro i h j hj
  have hi : i = 0 := by
   rcases Nat.eq_zero_or_pos i with h0 | h0
   · exact h0
   · exact absurd rfl (h 0 h0)
  subst hi
  have hj0 : j = 0 := by omega
  subst hj0
  show (BT.nd BT.lf a BT.lf).get 0 = _
  rw [BT.get_nd]; simp
 | nd l v r il ir =>
  intro i h j hj
  rw [BT.ins_nd]
  by_cases hi : i = 0
  · subst hi
    have hj0 : j = 0 := by omega
    subst hj0
    rw [if_pos rfl, BT.get_nd]; simp
  · rw [if_neg hi]
    by_cases hm : i % 2 = 1
    · rw [if_pos hm, BT.get_nd, BT.get_nd]
      by_cases hj0 : j = 0
      · subst hj0; simp [Ne.symm hi]
      · by_cases hjm : j % 2 = 1
        · simp only [if_neg hj0, if_pos hjm]
          have := il (i / 2) (fun k hk => by
           have := h (2 * k + 1) (by omega)
           rw [BT.get_nd, if_neg (by omega), if_pos (by omega)] at this
           rwa [show (2 * k + 1) / 2 = k by omega] at this) (j / 2) (by omega)
          rw [this]
          by_cases he : j = i
          · subst he; simp
          · rw [if_neg he, if_neg (by omega)]
        · simp only [if_neg hj0, if_neg hjm]
          rw [if_neg (by intro h; subst h; exact hjm hm)]
    · rw [if_neg hm, BT.get_nd, BT.get_nd]
      by_cases hj0 : j = 0
      · subst hj0; simp [Ne.symm hi]
      · by_cases hjm : j % 2 = 1
        · simp only [if_neg hj0, if_pos hjm]
          rw [if_neg (by intro h; subst h; exact hm hjm)]
        · simp only [if_neg hj0, if_neg hjm]
          have := ir (i / 2 - 1) (fun k hk => by
           have := h (2 * k + 2) (by omega)
           rw [BT.get_nd, if_neg (by omega), if_neg (by omega)] at this
           rwa [show (2 * k + 2) / 2 - 1 = k by omega] at this) (j / 2 - 1) (by omega)
          rw [this]
          by_cases he : j = i
          · subst he; simp
          · rw [if_neg he, if_neg (by omega)]
def insN (t : BT AV) (o : Nat) (l : List AV) : BT AV :=
 List.rec (motive := fun _ => BT AV → Nat → BT AV) (fun t _ => t) (fun v _ ih t o => ih (t.ins v o) (Nat.add o 1)) l t o
theorem insN_cons (t : BT AV) (o : Nat) (v : AV) (l : List AV) : insN t o (v :: l) = insN (t.ins v o) (o + 1) l := rfl
theorem insN_get : ∀ (l : List AV) (t : BT AV) (o : Nat), (∀ j, j < o → t.get j ≠ none) → ∀ k, k < o + l.length → (insN t o l).get k = if k < o then t.get k else l[k - o]?
 | [], t, o, h, k, hk => by
  show t.get k = _
  rw [if_pos (by simpa using hk)]
 | v :: l, t, o, h, k, hk => by
  rw [insN_cons]
  have hg := BT.get_ins v t o h
  simp only [List.length_cons] at hk
  rw [insN_get l (t.ins v o) (o + 1) (fun j hj => by
   rw [hg j (by omega)]
   split
   · simp
   · exact h j (by omega)) k (by omega)]
  by_cases h1 : k < o + 1
  · rw [if_pos h1, hg k (by omega)]
    by_cases h2 : k = o
    · subst h2; simp
    · rw [if_neg h2, if_pos (by omega)]
  · rw [if_neg h1, if_neg (by omega), show k - o = (k - (o + 1)) + 1 by omega]
    simp
theorem Evo.swap {G : Nat} {e e' : Emb} {H H1 : AHeap} {w w' : World} {n sp : Nat} {T1 T2 : BT AV} {wr : Bool} (h : Evo G e H w e' (H1.alloc (.c n T1 wr sp)) w') (hT : ∀ k, k < n → T1.get k = T2.get k) (hn : H.nxt ≤ H1.nxt) :
  Evo G e H w e' (H1.alloc (.c n T2 wr sp)) w' := by
 have hg : ∀ c, c ≠ H1.nxt → (H1.alloc (.c n T2 wr sp)).get c = (H1.alloc (.c n T1 wr sp)).get c := fun c hc => by rw [AHeap.get_alloc, AHeap.get_alloc, if_neg hc, if_neg hc]
 have g1 : (H1.alloc (.c n T1 wr sp)).get H1.nxt = some (.c n T1 wr sp) := by rw [AHeap.get_alloc, if_pos rfl]
 have g2 : (H1.alloc (.c n T2 wr sp)).get H1.nxt = some (.c n T2 wr sp) := by rw [AHeap.get_alloc, if_pos rfl]
 have own : ∀ c, (H1.alloc (.c n T2 wr sp)).owned c → (H1.alloc (.c n T1 wr sp)).owned c := fun c ho => by
  by_cases hc : c = H1.nxt
  · subst hc
    rcases ho with ⟨m, t, s, q⟩ | ⟨es, q⟩
    · rw [g2] at q; cases q; exact .inl ⟨_, _, _, g1⟩
    · rw [g2] at q; cases q
  · unfold AHeap.owned at *; rwa [hg c hc] at ho
 have al : ∀ c, (H1.alloc (.c n T2 wr sp)).alive c → (H1.alloc (.c n T1 wr sp)).alive c := fun c ho => by
  by_cases hc : c = H1.nxt
  · subst hc; exact ⟨_, g1, by simp⟩
  · unfold AHeap.alive at *; rwa [hg c hc] at ho
 refine { h with rel := { h.rel with obj := ?_, sep := ?_ }, same := ?_, dead := ?_ }
 · intro b i x hb hx
   by_cases hc : b = H1.nxt
   · subst hc
     rw [g2] at hx; cases hx
     obtain ⟨e1, e2, e3, C, ty, z, c1, c2, c3, c4⟩ := h.rel.obj _ i _ hb g1
     refine ⟨e1, e2, e3, C, ty, z, c1, c2, c3, fun k hk => ?_⟩
     obtain ⟨v, v', q1, q2, q3⟩ := c4 k hk
     exact ⟨v, v', by rw [← hT k hk]; exact q1, q2, q3⟩
   · rw [hg b hc] at hx; exact h.rel.obj b i x hb hx
 · intro b1 i1 b2 i2 h1 h2 hne ho ha
   exact h.rel.sep b1 i1 b2 i2 h1 h2 hne (own b1 ho) (al b2 ha)
 · intro b hb hl
   rw [hg b (by omega)]; exact h.same b hb hl
 · intro b hb
   have := h.dead b hb
   by_cases hc : b = H1.nxt
   · subst hc; rw [g1] at this; cases this
   · rw [hg b hc]; exact this
theorem OSnd.swap {P : Program} {o : Oper} {en : Env} {H H1 : AHeap} {v : AV} {n sp : Nat} {T1 T2 : BT AV} {wr : Bool} (h : OSnd P S o en H (.v v (H1.alloc (.c n T1 wr sp)))) (hT : ∀ k, k < n → T1.get k = T2.get k) (hn : H.nxt ≤ H1.nxt) :
  OSnd P S o en H (.v v (H1.alloc (.c n T2 wr sp))) := by
 intro N D e w a hr ha
 have := h N D e w a hr ha
 unfold Oper.wp at *
 revert this
 generalize (execOp a.eval o).run P w = R
 intro this
 cases R with
 | ok nx w' =>
  cases nx <;> simp only [Oper.upon] at this ⊢ <;> first
   | (obtain ⟨e', v', q1, q2, q3⟩ := this; exact ⟨e', v', q1, q2, q3.swap hT hn⟩)
   | (refine Calls.mono this fun E w'' hE => ?_
      cases E with
      | returned u => obtain ⟨e', v', q1, q2, q3⟩ := hE; exact ⟨e', v', q1, q2, q3.swap hT hn⟩
      | panicked c => exact hE
      | outgrown => exact hE)
   | exact Rows.mono this fun u w'' hE => by obtain ⟨e', v', q1, q2, q3⟩ := hE; exact ⟨e', v', q1, q2, q3.swap hT hn⟩
 | halt x w' => cases x <;> simp only [Oper.upon] at this
def growF (sz : Nat) (H : AHeap) (b len n : Nat) (l : List AV) : ORes :=
 blkC .fail (fun _ T _ _ => .v (.sl H.nxt 0 (Nat.add len n) (Nat.add len n)) ((H.upd b .dead).alloc (.c (Nat.add (Nat.mul len sz) l.length) (insN T (Nat.mul len sz) l) true sz))) (H.get b)
def quick (sz : Nat) (H : AHeap) (x : AV) (p : Nat × List AV) : Option ORes :=
 avSl none (fun b o len cap => Bool.rec (motive := fun _ => Option ORes)
  (Option.rec (motive := fun _ => Option ORes) none (fun g => Bool.rec (motive := fun _ => Option ORes) none (Bool.rec (motive := fun _ => Option ORes) none (bif' none (some (growF sz H b len p.1 p.2)) (Nat.ble len cap)) (Nat.beq o 0)) g) (grows H b o cap sz)) none (Nat.ble (Nat.add len p.1) cap)) x
def opAppendF (sz bytes : Nat) (x y : Env → AV) (en : Env) (H : AHeap) : ORes :=
 Option.rec (motive := fun _ => ORes) .fail (fun p =>
  Option.rec (motive := fun _ => ORes) (opAppend sz bytes x y en H) (fun r => bif' (opAppend sz bytes x y en H) (bif' (opAppend sz bytes x y en H) (bif' (opAppend sz bytes x y en H) r (avSl false (fun _ _ len _ => Nat.ble (Nat.mul (Nat.add len p.1) bytes) 140737488355328) (x en))) (allOne p.2)) (Nat.ble 1 p.1)) (quick sz H (x en) p)) (readS sz H (y en))
theorem takeN_some (t : BT AV) : ∀ (n o : Nat), (∀ k, k < n → t.get (o + k) ≠ none) → ∃ l, takeN t n o = some l
 | 0, o, _ => ⟨[], rfl⟩
 | n + 1, o, h => by
  rw [takeN_succ]
  cases hv : t.get o with
  | none => exact absurd (by simpa using hv) (h 0 (by omega))
  | some v =>
   obtain ⟨l, hl⟩ := takeN_some t n (o + 1) (fun k hk => by have := h (k + 1) (by omega); rwa [show o + (k + 1) = o + 1 + k by omega] at this)
   exact ⟨v :: l, by simp [hl]⟩
theorem opAppendF_snd {P : Program} {o : Oper} {t el : TypeId} {x y : Operand} {x' y' : Env → AV} {sz bytes : Nat} {i : TypeInfo} {z : Value} (ho : o.op = .call { callee := .builtin .append, args := #[x, y], argTypes := #[t, t] })
  (ht : P.underlying t = some (.slice el)) (hi : P.info? el = some i) (hsz : i.size = sz) (hby : i.bytes = bytes) (hz : i.zero = some z) (hzs : z.cells.size = sz) (hs0 : 0 < sz) (hb0 : 0 < bytes) (hx : OpndOk P S x x') (hy : OpndOk P S y y') (en : Env) (H : AHeap) :
  OSnd P S o en H (opAppendF sz bytes x' y' en H) := by
 have slow := opAppend_snd ho ht hi hsz hby hz hzs hs0 hb0 hx hy en H
 unfold opAppendF
 cases hrd : readS sz H (y' en) with
 | none => trivial
 | some p =>
 obtain ⟨n, l⟩ := p
 simp only
 cases hq : quick sz H (x' en) (n, l) with
 | none => exact slow
 | some r =>
 simp only [bif']
 cases hn : Nat.ble 1 n with
 | false => exact slow
 | true =>
 cases hone : allOne l with
 | false => exact slow
 | true =>
 cases hbig : avSl false (fun _ _ len _ => Nat.ble (Nat.mul (Nat.add len n) bytes) 140737488355328) (x' en) with
 | false => exact slow
 | true =>
 simp only
 unfold quick at hq
 cases hxe : x' en with
 | sl b k len cap =>
  rw [hxe] at hq hbig
  simp only [avSl] at hq hbig
  cases hin : Nat.ble (Nat.add len n) cap with
  | true => rw [hin] at hq; cases hq
  | false =>
  rw [hin] at hq
  cases hgr : grows H b k cap sz with
  | none => rw [hgr] at hq; cases hq
  | some g =>
  rw [hgr] at hq
  cases g with
  | false => cases hq
  | true =>
  simp only at hq
  cases hk : Nat.beq k 0 with
  | false => rw [hk] at hq; cases hq
  | true =>
  rw [hk] at hq
  have hk0 := Nat.eq_of_beq_eq_true hk
  subst hk0
  simp only [bif'] at hq
  cases hlc : Nat.ble len cap with
  | false => rw [hlc] at hq; cases hq
  | true =>
  rw [hlc] at hq
  have hlc' : len ≤ cap := by rw [ble_tt] at hlc; exact hlc
  simp only [Option.some.injEq] at hq
  obtain ⟨m, T, q1, q2, q3⟩ := grows_true hgr
  have hr : r = .v (.sl H.nxt 0 (len + n) (len + n)) ((H.upd b .dead).alloc (.c (len * sz + l.length) (insN T (len * sz) l) true sz)) := by
   rw [← hq]; unfold growF; rw [q1]; rfl
  rw [hr]
  have hn0 : ¬ Nat.beq n 0 = true := by rw [beq_tt]; rw [ble_tt] at hn; omega
  have hn0' : Nat.beq n 0 = false := by cases hh : Nat.beq n 0 <;> simp_all
  intro N D e w a hrel ha
  have h1 := hx N D e en a H w hrel ha
  rw [hxe] at h1
  have hT : ∀ j, j < len * sz → T.get j ≠ none := by
   generalize a.eval x = xv at h1
   cases h1 with
   | sl _ _ _ _ cap' jn hj hcap =>
    intro j hj'
    obtain ⟨e1, e2, e3, C, ty, zz, c1, c2, c3, c4⟩ := hrel.obj b jn _ hj q1
    have : len * sz ≤ cap * sz := Nat.mul_le_mul_right _ hlc'
    obtain ⟨v, v', g1, _⟩ := c4 j (by omega)
    rw [g1]; simp
   | slq => intro j hj'; omega
  obtain ⟨old, hold⟩ := takeN_some T (len * sz) 0 (by simpa using hT)
  obtain ⟨ol, og⟩ := takeN_spec T (len * sz) 0 old hold
  have hread : readN H b 0 (Nat.mul len sz) = some old := by
   unfold readN
   rw [q1]
   have hle : Nat.ble (Nat.add 0 (Nat.mul len sz)) m = true := by
    rw [ble_tt]
    have : len * sz ≤ cap * sz := Nat.mul_le_mul_right _ hlc'
    show 0 + len * sz ≤ m
    omega
   simp only [blkC, bif', hle]
   exact hold
  have heq : opAppend sz bytes x' y' en H = .v (.sl H.nxt 0 (len + n) (len + n)) ((H.upd b .dead).alloc (.c (len * sz + l.length) (BT.ofList (old ++ l)) true sz)) := by
   unfold opAppend
   rw [hrd]
   simp only [hn0', hone, bif', hxe, hbig, appSl, hin, hread, optL, hgr]
   unfold newG
   rw [List.length_append, ol]
   rfl
  rw [heq] at slow
  refine (slow.swap (T2 := insN T (len * sz) l) ?_ (Nat.le_refl _)) N D e w a hrel ha
  intro k hk
  rw [BT.get_ofList, insN_get l T (len * sz) hT k hk]
  by_cases hkl : k < len * sz
  · rw [if_pos hkl, List.getElem?_append_left (by omega), og k hkl, Nat.zero_add]
  · rw [if_neg hkl, List.getElem?_append_right (by omega), ol]
 | _ => rw [hxe] at hq; cases hq
end
end Go.Ab
namespace Go.Ab
open Go
noncomputable section
variable {S : BT Nat}
def rngArg {R : Type} (d : R) (k : Nat) (f : Nat → Nat → R) (v : AV) : R :=
 AVp.rec (motive := fun _ => R) (fun k1 n => Bool.rec (motive := fun _ => R) d (f n n) (Nat.beq k1 k)) (fun _ => d) (fun _ _ => d) (fun _ _ => d) (fun _ _ _ _ => d)
  (fun u => AX.casesOn (motive_1 := fun _ => R) u d d d d d d (fun _ => d) (fun _ _ _ => d) (fun _ _ => d) (fun _ => d) (fun _ => d) (fun _ => d) (fun _ _ => d) (fun k1 lo hi => Bool.rec (motive := fun _ => R) d (f lo hi) (Nat.beq k1 k)) (fun _ _ _ => d)) v
theorem rngArg_spec {R : Type} {d : R} {k : Nat} {f : Nat → Nat → R} {v : AV} : rngArg d k f v = d ∨ ∃ lo hi, rngArg d k f v = f lo hi ∧ ∀ (e : Emb) (v' : Value), VRel e v v' → k < 8 ∧ ∃ n, lo ≤ n ∧ n ≤ hi ∧ n < 2 ^ (kindOf k).bits ∧ v' = .int (kindOf k) ((kindOf k).wrap (n : Int)) := by
 cases v with
 | i k1 n =>
  have h : rngArg d k f (.i k1 n) = Bool.rec (motive := fun _ => R) d (f n n) (Nat.beq k1 k) := rfl
  rw [h]
  cases c : Nat.beq k1 k with
  | false => exact .inl rfl
  | true =>
   have := Nat.eq_of_beq_eq_true c
   subst this
   refine .inr ⟨n, n, rfl, fun e v' hv => ?_⟩
   cases hv with
   | i _ _ hk hn => exact ⟨hk, n, Nat.le_refl _, Nat.le_refl _, hn, rfl⟩
 | x u =>
  cases u with
  | rg k1 lo hi =>
   have h : rngArg d k f (.x (.rg k1 lo hi)) = Bool.rec (motive := fun _ => R) d (f lo hi) (Nat.beq k1 k) := rfl
   rw [h]
   cases c : Nat.beq k1 k with
   | false => exact .inl rfl
   | true =>
    have := Nat.eq_of_beq_eq_true c
    subst this
    refine .inr ⟨lo, hi, rfl, fun e v' hv => ?_⟩
    cases hv with
    | rg _ _ _ n hk hn h1 h2 => exact ⟨hk, n, h1, h2, hn, rfl⟩
  | _ => exact .inl rfl
 | _ => exact .inl rfl
def opBinR (k : Nat) (g : Nat → Nat → Nat → Nat → Option AV) (x y : Env → AV) (en : Env) (H : AHeap) : ORes :=
 rngArg .fail k (fun lo1 hi1 => rngArg .fail k (fun lo2 hi2 => optE .fail (fun v => .v v H) (g lo1 hi1 lo2 hi2)) (y en)) (x en)
def opBinG (k : Nat) (f : Nat → Nat → Option AV) (g : Nat → Nat → Nat → Nat → Option AV) (x y : Env → AV) (en : Env) (H : AHeap) : ORes :=
 avI (opBinR k g x y en H) (fun k1 n => avI (opBinR k g x y en H) (fun k2 m => bif' .fail (bif' .fail (optE .fail (fun v => .v v H) (f n m)) (Nat.beq k2 k)) (Nat.beq k1 k)) (y en)) (x en)
def RngOk (k : Nat) (f : Nat → Nat → Option AV) (g : Nat → Nat → Nat → Nat → Option AV) : Prop :=
 ∀ lo1 hi1 lo2 hi2 n m v, lo1 ≤ n → n ≤ hi1 → lo2 ≤ m → m ≤ hi2 → n < 2 ^ (kindOf k).bits → m < 2 ^ (kindOf k).bits → g lo1 hi1 lo2 hi2 = some v → ∃ u, f n m = some u ∧ ∀ e v', VRel e u v' → VRel e v v'
theorem opBinR_snd {P : Program} {o : Oper} {op : BinOp} {t t2 : TypeId} {x y : Operand} {k : Nat} {f : Nat → Nat → Option AV} {g : Nat → Nat → Nat → Nat → Option AV} {x' y' : Env → AV} (ho : o.op = .binOp op t x y t2) (hf : BinOk P op t k f) (hg : RngOk k f g) (hx : OpndOk P S x x') (hy : OpndOk P S y y') (en : Env) (H : AHeap) :
  OSnd P S o en H (opBinR k g x' y' en H) := by
 unfold opBinR
 rcases rngArg_spec (d := ORes.fail) (k := k) (f := fun lo1 hi1 => rngArg .fail k (fun lo2 hi2 => optE .fail (fun v => .v v H) (g lo1 hi1 lo2 hi2)) (y' en)) (v := x' en) with h | ⟨lo1, hi1, h, s1⟩
 · rw [h]; trivial
 rw [h]
 rcases rngArg_spec (d := ORes.fail) (k := k) (f := fun lo2 hi2 => optE .fail (fun v => .v v H) (g lo1 hi1 lo2 hi2)) (v := y' en) with h2 | ⟨lo2, hi2, h2, s2⟩
 · rw [h2]; trivial
 rw [h2]
 cases hv : g lo1 hi1 lo2 hi2 with
 | none => trivial
 | some v =>
  refine OSnd.pure fun N D e w a hr ha => ?_
  obtain ⟨hk, n, a1, a2, a3, hn⟩ := s1 e _ (hx N D e en a H w hr ha)
  obtain ⟨_, m, b1, b2, b3, hm⟩ := s2 e _ (hy N D e en a H w hr ha)
  obtain ⟨u, hu, hrel⟩ := hg lo1 hi1 lo2 hi2 n m v a1 a2 b1 b2 a3 b3 hv
  obtain ⟨v', q1, q2⟩ := hf n m u a3 b3 hu
  refine ⟨v', ?_, hrel e v' (q2 e)⟩
  simp [execOp, ho, hn, hm, eqGuard, q1]
theorem opBinG_snd {P : Program} {o : Oper} {op : BinOp} {t t2 : TypeId} {x y : Operand} {k : Nat} {f : Nat → Nat → Option AV} {g : Nat → Nat → Nat → Nat → Option AV} {x' y' : Env → AV} (ho : o.op = .binOp op t x y t2) (hf : BinOk P op t k f) (hg : RngOk k f g) (hx : OpndOk P S x x') (hy : OpndOk P S y y') (en : Env) (H : AHeap) :
  OSnd P S o en H (opBinG k f g x' y' en H) := by
 have hR := opBinR_snd ho hf hg hx hy en H
 have hI := opBinI_snd ho hf hx hy en H
 unfold opBinG
 unfold opBinI at hI
 cases h : x' en with
 | i k1 n =>
  rw [h] at hI
  cases h2 : y' en with
  | i k2 m => rw [h2] at hI; exact hI
  | _ => exact hR
 | _ => exact hR
def gAdd (k M : Nat) (lo1 hi1 lo2 hi2 : Nat) : Option AV :=
 Bool.rec (motive := fun _ => Option AV) (Bool.rec (motive := fun _ => Option AV) none (some (.x (.rg k (Nat.sub (Nat.add lo1 lo2) M) (Nat.sub (Nat.add hi1 hi2) M)))) (Nat.ble M (Nat.add lo1 lo2)))
  (some (.x (.rg k (Nat.add lo1 lo2) (Nat.add hi1 hi2)))) (Nat.ble (Nat.add (Nat.add hi1 hi2) 1) M)
def gSub (k M : Nat) (lo1 hi1 lo2 hi2 : Nat) : Option AV :=
 Bool.rec (motive := fun _ => Option AV) (Bool.rec (motive := fun _ => Option AV) none (some (.x (.rg k (Nat.sub (Nat.add lo1 M) hi2) (Nat.sub (Nat.add hi1 M) lo2)))) (Nat.ble (Nat.add hi1 1) lo2))
  (some (.x (.rg k (Nat.sub lo1 hi2) (Nat.sub hi1 lo2)))) (Nat.ble hi2 lo1)
def gSh {R : Type} (d : R) (M h : Nat) (f : Nat → Nat → R) (lo hi : Nat) : R :=
 Bool.rec (motive := fun _ => R) (Bool.rec (motive := fun _ => R) d (f (Nat.sub (Nat.add lo h) M) (Nat.sub (Nat.add hi h) M)) (Nat.ble M (Nat.add lo h)))
  (f (Nat.add lo h) (Nat.add hi h)) (Nat.ble (Nat.add (Nat.add hi h) 1) M)
def gLt (M h : Nat) (lo1 hi1 lo2 hi2 : Nat) : Option AV :=
 gSh none M h (fun a1 b1 => gSh none M h (fun a2 b2 => Bool.rec (motive := fun _ => Option AV) (Bool.rec (motive := fun _ => Option AV) none (some (.b false)) (Nat.ble b2 a1)) (some (.b true)) (Nat.ble (Nat.add b1 1) a2)) lo2 hi2) lo1 hi1
def gLe (M h : Nat) (lo1 hi1 lo2 hi2 : Nat) : Option AV :=
 gSh none M h (fun a1 b1 => gSh none M h (fun a2 b2 => Bool.rec (motive := fun _ => Option AV) (Bool.rec (motive := fun _ => Option AV) none (some (.b false)) (Nat.ble (Nat.add b2 1) a1)) (some (.b true)) (Nat.ble b1 a2)) lo2 hi2) lo1 hi1
def gEq (t : Bool) (lo1 hi1 lo2 hi2 : Nat) : Option AV :=
 Bool.rec (motive := fun _ => Option AV) (Bool.rec (motive := fun _ => Option AV) none (some (.b t)) (Nat.ble (Nat.add hi2 1) lo1)) (some (.b t)) (Nat.ble (Nat.add hi1 1) lo2)
theorem vrel_rg {e : Emb} {k d lo hi : Nat} {v' : Value} (h : VRel e (.i k d) v') (h1 : lo ≤ d) (h2 : d ≤ hi) : VRel e (.x (.rg k lo hi)) v' := by
 cases h with
 | i _ _ hk hn => exact .rg k lo hi d hk hn h1 h2
theorem gAdd_ok (k M : Nat) (hM : M = 2 ^ (kindOf k).bits) : RngOk k (iAdd k M) (gAdd k M) := by
 intro lo1 hi1 lo2 hi2 n m v h1 h2 h3 h4 hn hm hg
 refine ⟨_, rfl, fun e v' hv => ?_⟩
 rw [← hM] at hn hm
 unfold gAdd at hg
 rw [brec, brec] at hg
 simp only [ble_tt] at hg
 have hv2 : VRel e (.i k ((n + m) % M)) v' := hv
 split at hg
 · rename_i hc
   have hc : hi1 + hi2 + 1 ≤ M := hc
   cases hg
   rw [Nat.mod_eq_of_lt (by omega)] at hv2
   exact vrel_rg hv2 (show lo1 + lo2 ≤ n + m by omega) (show n + m ≤ hi1 + hi2 by omega)
 · split at hg
   · rename_i hc
     have hc : M ≤ lo1 + lo2 := hc
     cases hg
     rw [Nat.mod_eq_sub_mod (by omega), Nat.mod_eq_of_lt (by omega)] at hv2
     exact vrel_rg hv2 (show lo1 + lo2 - M ≤ n + m - M by omega) (show n + m - M ≤ hi1 + hi2 - M by omega)
   · cases hg
theorem gSub_ok (k M : Nat) (hM : M = 2 ^ (kindOf k).bits) : RngOk k (iSub k M) (gSub k M) := by
 intro lo1 hi1 lo2 hi2 n m v h1 h2 h3 h4 hn hm hg
 refine ⟨_, rfl, fun e v' hv => ?_⟩
 rw [← hM] at hn hm
 unfold gSub at hg
 rw [brec, brec] at hg
 simp only [ble_tt] at hg
 have hv2 : VRel e (.i k ((n + M - m) % M)) v' := hv
 split at hg
 · rename_i hc
   cases hg
   rw [Nat.mod_eq_sub_mod (by omega), show n + M - m - M = n - m by omega, Nat.mod_eq_of_lt (by omega)] at hv2
   exact vrel_rg hv2 (show lo1 - hi2 ≤ n - m by omega) (show n - m ≤ hi1 - lo2 by omega)
 · split at hg
   · rename_i hc
     have hc : hi1 + 1 ≤ lo2 := hc
     cases hg
     rw [Nat.mod_eq_of_lt (by omega)] at hv2
     exact vrel_rg hv2 (show lo1 + M - hi2 ≤ n + M - m by omega) (show n + M - m ≤ hi1 + M - lo2 by omega)
   · cases hg
theorem gSh_spec {R : Type} {d : R} {M h : Nat} {f : Nat → Nat → R} {lo hi n : Nat} (h1 : lo ≤ n) (h2 : n ≤ hi) (hn : n < M) (hh : h < M) : gSh d M h f lo hi = d ∨ ∃ a b, gSh d M h f lo hi = f a b ∧ a ≤ (n + h) % M ∧ (n + h) % M ≤ b := by
 have he : gSh d M h f lo hi = if hi + h + 1 ≤ M then f (lo + h) (hi + h) else if M ≤ lo + h then f (lo + h - M) (hi + h - M) else d := by
  unfold gSh
  rw [brec, brec]
  simp only [ble_tt]
  rfl
 rw [he]
 by_cases c1 : hi + h + 1 ≤ M
 · rw [if_pos c1]
   refine .inr ⟨_, _, rfl, ?_⟩
   rw [Nat.mod_eq_of_lt (by omega)]
   omega
 · rw [if_neg c1]
   by_cases c2 : M ≤ lo + h
   · rw [if_pos c2]
     refine .inr ⟨_, _, rfl, ?_⟩
     rw [Nat.mod_eq_sub_mod (by omega), Nat.mod_eq_of_lt (by omega)]
     omega
   · rw [if_neg c2]; exact .inl rfl
theorem gLt_ok (k M h : Nat) (hM : M = 2 ^ (kindOf k).bits) (hh : h < M) : RngOk k (iLt M h) (gLt M h) := by
 intro lo1 hi1 lo2 hi2 n m v h1 h2 h3 h4 hn hm hg
 refine ⟨_, rfl, fun e v' hv => ?_⟩
 rw [← hM] at hn hm
 unfold gLt at hg
 rcases gSh_spec (d := (none : Option AV)) (h := h) (f := fun a1 b1 => gSh none M h (fun a2 b2 => Bool.rec (motive := fun _ => Option AV) (Bool.rec (motive := fun _ => Option AV) none (some (.b false)) (Nat.ble b2 a1)) (some (.b true)) (Nat.ble (Nat.add b1 1) a2)) lo2 hi2) h1 h2 hn hh with q | ⟨a1, b1, q, r1, r2⟩
 · rw [q] at hg; cases hg
 rw [q] at hg
 rcases gSh_spec (d := (none : Option AV)) (h := h) (f := fun a2 b2 => Bool.rec (motive := fun _ => Option AV) (Bool.rec (motive := fun _ => Option AV) none (some (.b false)) (Nat.ble b2 a1)) (some (.b true)) (Nat.ble (Nat.add b1 1) a2)) h3 h4 hm hh with q | ⟨a2, b2, q, s1, s2⟩
 · rw [q] at hg; cases hg
 rw [q, brec, brec] at hg
 simp only [ble_tt] at hg
 have hv2 : VRel e (.b (Nat.ble ((n + h) % M + 1) ((m + h) % M))) v' := hv
 split at hg
 · rename_i hc
   have hc : b1 + 1 ≤ a2 := hc
   cases hg
   rwa [show Nat.ble ((n + h) % M + 1) ((m + h) % M) = true from Nat.ble_eq_true_of_le (by omega)] at hv2
 · split at hg
   · rename_i hc
     cases hg
     have : Nat.ble ((n + h) % M + 1) ((m + h) % M) = false := by
      cases hb : Nat.ble ((n + h) % M + 1) ((m + h) % M) with
      | false => rfl
      | true => have := Nat.le_of_ble_eq_true hb; omega
     rwa [this] at hv2
   · cases hg
theorem gLe_ok (k M h : Nat) (hM : M = 2 ^ (kindOf k).bits) (hh : h < M) : RngOk k (iLe M h) (gLe M h) := by
 intro lo1 hi1 lo2 hi2 n m v h1 h2 h3 h4 hn hm hg
 refine ⟨_, rfl, fun e v' hv => ?_⟩
 rw [← hM] at hn hm
 unfold gLe at hg
 rcases gSh_spec (d := (none : Option AV)) (h := h) (f := fun a1 b1 => gSh none M h (fun a2 b2 => Bool.rec (motive := fun _ => Option AV) (Bool.rec (motive := fun _ => Option AV) none (some (.b false)) (Nat.ble (Nat.add b2 1) a1)) (some (.b true)) (Nat.ble b1 a2)) lo2 hi2) h1 h2 hn hh with q | ⟨a1, b1, q, r1, r2⟩
 · rw [q] at hg; cases hg
 rw [q] at hg
 rcases gSh_spec (d := (none : Option AV)) (h := h) (f := fun a2 b2 => Bool.rec (motive := fun _ => Option AV) (Bool.rec (motive := fun _ => Option AV) none (some (.b false)) (Nat.ble (Nat.add b2 1) a1)) (some (.b true)) (Nat.ble b1 a2)) h3 h4 hm hh with q | ⟨a2, b2, q, s1, s2⟩
 · rw [q] at hg; cases hg
 rw [q, brec, brec] at hg
 simp only [ble_tt] at hg
 have hv2 : VRel e (.b (Nat.ble ((n + h) % M) ((m + h) % M))) v' := hv
 split at hg
 · rename_i hc
   cases hg
   rwa [show Nat.ble ((n + h) % M) ((m + h) % M) = true from Nat.ble_eq_true_of_le (by omega)] at hv2
 · split at hg
   · rename_i hc
     have hc : b2 + 1 ≤ a1 := hc
     cases hg
     have : Nat.ble ((n + h) % M) ((m + h) % M) = false := by
      cases hb : Nat.ble ((n + h) % M) ((m + h) % M) with
      | false => rfl
      | true => have := Nat.le_of_ble_eq_true hb; omega
     rwa [this] at hv2
   · cases hg
theorem RngOk.swap {k : Nat} {f : Nat → Nat → Option AV} {g : Nat → Nat → Nat → Nat → Option AV} (h : RngOk k f g) : RngOk k (fun n m => f m n) (fun lo1 hi1 lo2 hi2 => g lo2 hi2 lo1 hi1) :=
 fun lo1 hi1 lo2 hi2 n m v h1 h2 h3 h4 hn hm hg => h lo2 hi2 lo1 hi1 m n v h3 h4 h1 h2 hm hn hg
theorem beq_ne {n m : Nat} (h : n ≠ m) : Nat.beq n m = false := by
 cases hb : Nat.beq n m with
 | false => rfl
 | true => exact absurd (Nat.eq_of_beq_eq_true hb) h
theorem gEq_ok (k : Nat) : RngOk k iEq (gEq false) := by
 intro lo1 hi1 lo2 hi2 n m v h1 h2 h3 h4 hn hm hg
 refine ⟨_, rfl, fun e v' hv => ?_⟩
 unfold gEq at hg
 rw [brec, brec] at hg
 simp only [ble_tt] at hg
 have key : n ≠ m → v = .b false → VRel e v v' := fun hne hv1 => by
  subst hv1
  have hv2 : VRel e (.b (Nat.beq n m)) v' := hv
  rwa [beq_ne hne] at hv2
 split at hg
 · rename_i hc
   have hc : hi1 + 1 ≤ lo2 := hc
   exact key (by omega) (Option.some.inj hg).symm
 · split at hg
   · rename_i hc
     have hc : hi2 + 1 ≤ lo1 := hc
     exact key (by omega) (Option.some.inj hg).symm
   · cases hg
theorem gNe_ok (k : Nat) : RngOk k iNe (gEq true) := by
 intro lo1 hi1 lo2 hi2 n m v h1 h2 h3 h4 hn hm hg
 refine ⟨_, rfl, fun e v' hv => ?_⟩
 unfold gEq at hg
 rw [brec, brec] at hg
 simp only [ble_tt] at hg
 have key : n ≠ m → v = .b true → VRel e v v' := fun hne hv1 => by
  subst hv1
  have hv2 : VRel e (.b (Bool.rec (motive := fun _ => Bool) true false (Nat.beq n m))) v' := hv
  rwa [beq_ne hne] at hv2
 split at hg
 · rename_i hc
   have hc : hi1 + 1 ≤ lo2 := hc
   exact key (by omega) (Option.some.inj hg).symm
 · split at hg
   · rename_i hc
     have hc : hi2 + 1 ≤ lo1 := hc
     exact key (by omega) (Option.some.inj hg).symm
   · cases hg
theorem gNone_ok (k : Nat) (f : Nat → Nat → Option AV) : RngOk k f (fun _ _ _ _ => none) := fun _ _ _ _ _ _ _ _ _ _ _ _ _ hg => by cases hg
def gXor (k : Nat) (_lo1 hi1 lo2 hi2 : Nat) : Option AV :=
 Bool.rec (motive := fun _ => Option AV) none (Bool.rec (motive := fun _ => Option AV) none (Bool.rec (motive := fun _ => Option AV) none (some (.x (.rg k lo2 hi2))) (Nat.beq (Nat.mod lo2 4) 0)) (Nat.beq (Nat.mod hi2 4) 3)) (Nat.ble (Nat.add hi1 1) 4)
theorem xor_div4 (n m : Nat) (h : n < 4) : (n ^^^ m) / 4 = m / 4 := by
 have h1 : (n ^^^ m) >>> 2 = (n >>> 2) ^^^ (m >>> 2) := Nat.shiftRight_xor_distrib
 rw [Nat.shiftRight_eq_div_pow, Nat.shiftRight_eq_div_pow, Nat.shiftRight_eq_div_pow] at h1
 have h2 : n / 2 ^ 2 = 0 := Nat.div_eq_of_lt (by omega)
 rw [h2, Nat.zero_xor] at h1
 exact h1
theorem gXor_ok (k : Nat) : RngOk k (iXor k) (gXor k) := by
 intro lo1 hi1 lo2 hi2 n m v h1 h2 h3 h4 hn hm hg
 refine ⟨_, rfl, fun e v' hv => ?_⟩
 unfold gXor at hg
 rw [brec, brec, brec] at hg
 simp only [ble_tt, beq_tt] at hg
 have hv2 : VRel e (.i k (n ^^^ m)) v' := hv
 split at hg
 · rename_i c1
   split at hg
   · rename_i c2
     split at hg
     · rename_i c3
       have c1 : hi1 + 1 ≤ 4 := c1
       have c2 : hi2 % 4 = 3 := c2
       have c3 : lo2 % 4 = 0 := c3
       cases hg
       have := xor_div4 n m (by omega)
       exact vrel_rg hv2 (by omega) (by omega)
     · cases hg
   · cases hg
 · cases hg
def uNegR (k M : Nat) (v : AV) : Option AV :=
 avX none (fun u => AX.casesOn (motive_1 := fun _ => Option AV) u none none none none none none (fun _ => none) (fun _ _ _ => none) (fun _ _ => none) (fun _ => none) (fun _ => none) (fun _ => none) (fun _ _ => none)
  (fun k1 lo hi => Bool.rec (motive := fun _ => Option AV) none (Bool.rec (motive := fun _ => Option AV) none (some (.x (.rg k (Nat.sub M hi) (Nat.sub M lo)))) (Nat.ble 1 lo)) (Nat.beq k1 k)) (fun _ _ _ => none)) v
def uNegG (k M : Nat) (v : AV) : Option AV := avI (uNegR k M v) (fun k1 n => Bool.rec (motive := fun _ => Option AV) none (some (.i k (Nat.mod (Nat.sub M n) M))) (Nat.beq k1 k)) v
theorem uNegG_snd {P : Program} {o : Oper} {t : TypeId} {x : Operand} {k M : Nat} {x' : Env → AV} (ho : o.op = .unOp .neg t x) (hk : k < 8) (hM : M = 2 ^ (kindOf k).bits) (hx : OpndOk P S x x') (en : Env) (H : AHeap) : OSnd P S o en H (opUn (uNegG k M) x' en H) := by
 have base : ∀ (n : Nat), n < 2 ^ (kindOf k).bits → ∀ (a : Act), a.eval x = .int (kindOf k) ((kindOf k).wrap (n : Int)) → ∃ u', (∀ w, (execOp a.eval o).run P w = .ok (.value u') w) ∧ ∀ e, VRel e (.i k ((M - n) % M)) u' := by
  intro n hn a he
  refine ⟨.int (kindOf k) ((kindOf k).wrap (0 - (kindOf k).wrap (n : Int))), fun w => by simp [execOp, ho, he, Op.unary, Op.intArith], fun e => vrel_int e k hk _ _ ?_⟩
  subst hM
  refine digs_eq _ _ _ (Nat.mod_lt _ (Nat.two_pow_pos _)) ?_
  rw [Int.natCast_emod, Int.natCast_sub (by omega), Int.sub_emod, wrap_emod, ← Int.sub_emod]
  simp only [Int.natCast_pow, Int.cast_ofNat_Int, Int.emod_emod]
  rw [show (2 ^ (kindOf k).bits : Int) - (n : Int) = (0 - (n : Int)) + 2 ^ (kindOf k).bits by omega, Int.add_emod_right]
 refine opUn_snd (fun v u e v' a hv hu he => ?_) hx en H
 cases hv with
 | i k1 n hk1 hn =>
  simp only [uNegG, avI] at hu
  cases c : Nat.beq k1 k with
  | false => rw [c] at hu; cases hu
  | true =>
   rw [c] at hu
   cases hu
   have d : k1 = k := Nat.eq_of_beq_eq_true c
   subst d
   obtain ⟨u', q1, q2⟩ := base n hn a he
   exact ⟨u', q1, q2 e⟩
 | rg k1 lo hi n hk1 hn h1 h2 =>
  simp only [uNegG, avI, uNegR, avX] at hu
  cases c : Nat.beq k1 k with
  | false => rw [c] at hu; cases hu
  | true =>
   rw [c] at hu
   have d : k1 = k := Nat.eq_of_beq_eq_true c
   subst d
   cases c2 : Nat.ble 1 lo with
   | false => rw [c2] at hu; cases hu
   | true =>
    rw [c2] at hu
    have h3 : 1 ≤ lo := Nat.le_of_ble_eq_true c2
    cases hu
    obtain ⟨u', q1, q2⟩ := base n hn a he
    refine ⟨u', q1, ?_⟩
    have q3 := q2 e
    rw [Nat.mod_eq_of_lt (by have := Nat.two_pow_pos (kindOf k1).bits; omega)] at q3
    exact vrel_rg q3 (show M - hi ≤ M - n by omega) (show M - n ≤ M - lo by omega)
 | _ => cases hu
end
end Go.Ab
namespace Go.Ab
open Go
noncomputable section
variable {S : BT Nat}
def uTas (t : Nat) (Z : AV) (v : AV) : Option AV :=
 avX none (fun u => AX.casesOn (motive_1 := fun _ => Option AV) u none none none none none (some (.x (.tup [Z, .b false]))) (fun _ => none) (fun _ _ _ => none)
  (fun t' v => Bool.rec (motive := fun _ => Option AV) (some (.x (.tup [Z, .b false]))) (some (.x (.tup [v, .b true]))) (Nat.beq t' t)) (fun _ => none) (fun _ => none) (fun _ => none) (fun _ _ => none) (fun _ _ _ => none) (fun _ _ _ => none)) v
theorem run_tas_nil {P : Program} {at' xT : TypeId} {zv : Value} (hi : isIface P at' = some false) (hz : zeroOf P at' = some zv) (w : World) : (Instr.typeAssert .nilIface xT at' true).run P w = .ok (.tuple #[zv, .bool false]) w := by
 unfold isIface at hi
 cases hu : P.underlying at' with
 | none => rw [hu] at hi; cases hi
 | some d =>
  rw [hu] at hi
  have h0 := run_zeroOf hz w
  cases d <;> first | (simp at hi; done) | simp [Instr.typeAssert, run_underlying hu, h0]
theorem run_tas_ifc {P : Program} {at' xT t : TypeId} {v zv : Value} (hi : isIface P at' = some false) (hz : zeroOf P at' = some zv) (w : World) : (Instr.typeAssert (.iface t v) xT at' true).run P w = .ok (if t = at' then .tuple #[v, .bool true] else .tuple #[zv, .bool false]) w := by
 unfold isIface at hi
 cases hu : P.underlying at' with
 | none => rw [hu] at hi; cases hi
 | some d =>
  rw [hu] at hi
  have h0 := run_zeroOf hz w
  cases d <;> first | (simp at hi; done) | (by_cases ht : t = at' <;> simp [Instr.typeAssert, run_underlying hu, h0, ht])
theorem uTas_snd {P : Program} {o : Oper} {xT at' : TypeId} {x : Operand} {Z : AV} {zv : Value} {x' : Env → AV} (ho : o.op = .typeAssert x xT at' true) (hi : isIface P at' = some false) (hz : zeroOf P at' = some zv) (hZ : ∀ e, VRel e Z zv)
  (hx : OpndOk P S x x') (en : Env) (H : AHeap) : OSnd P S o en H (opUn (uTas at' Z) x' en H) := by
 refine opUn_snd (fun v u e v' a hv hu he => ?_) hx en H
 have no : ∀ u, some (AVp.x (.tup [Z, .b false])) = some u → VRel e u (.tuple #[zv, .bool false]) := fun u h => by
  cases h; exact .tup _ [zv, .bool false] (.cons (hZ e) (.cons (.b false) .nil))
 cases hv with
 | nili =>
  refine ⟨.tuple #[zv, .bool false], fun w => ?_, no u hu⟩
  simp [execOp, ho, he, run_tas_nil hi hz]
 | ifc t v v' h =>
  refine ⟨if t = at' then .tuple #[v', .bool true] else .tuple #[zv, .bool false], fun w => ?_, ?_⟩
  · simp [execOp, ho, he, run_tas_ifc hi hz]
  · simp only [uTas, avX] at hu
    cases hb : Nat.beq t at' with
    | true =>
     rw [hb] at hu
     cases hu
     rw [if_pos (Nat.eq_of_beq_eq_true hb)]
     exact .tup _ [v', .bool true] (.cons h (.cons (.b true) .nil))
    | false =>
     rw [hb] at hu
     rw [if_neg (fun ht => by subst ht; rw [Nat.beq_refl] at hb; cases hb)]
     exact no u hu
 | _ => cases hu
def axFl {R : Type} (d : R) (f : Nat → R) (u : AX) : R := AX.casesOn (motive_1 := fun _ => R) u d d d d d d (fun _ => d) (fun _ _ _ => d) (fun _ _ => d) (fun _ => d) (fun _ => d) f (fun _ _ => d) (fun _ _ _ => d) (fun _ _ _ => d)
def fEq (x y : Nat) : Option AV := some (.b (Ieee.double.order x y == some .eq))
def fNe (x y : Nat) : Option AV := some (.b (Ieee.double.order x y != some .eq))
def fLt (x y : Nat) : Option AV := some (.b (Ieee.double.order x y == some .lt))
def fLe (x y : Nat) : Option AV := some (.b (Ieee.double.order x y == some .lt || Ieee.double.order x y == some .eq))
def fGt (x y : Nat) : Option AV := some (.b (Ieee.double.order x y == some .gt))
def fGe (x y : Nat) : Option AV := some (.b (Ieee.double.order x y == some .gt || Ieee.double.order x y == some .eq))
def flO (o : Option Nat) : Option AV := Option.rec (motive := fun _ => Option AV) none (fun r => some (.x (.fl r))) o
def fAdd (x y : Nat) : Option AV := flO (Ieee.double.add x y)
def fSub (x y : Nat) : Option AV := flO (Ieee.double.sub x y)
def fMul (x y : Nat) : Option AV := flO (Ieee.double.mul x y)
def fDiv (x y : Nat) : Option AV := flO (Ieee.double.div x y)
def BinFOk (P : Program) (op : BinOp) (t : TypeId) (f : Nat → Nat → Option AV) : Prop :=
 ∀ x y u, f x y = some u → ∃ u', (∀ w, (binOp op t (.float .f64 x) (.float .f64 y)).run P w = .ok u' w) ∧ ∀ e, VRel e u u'
theorem fEq_ok (P : Program) (t : TypeId) : BinFOk P .eql t fEq := fun x y u h => by cases h; exact ⟨_, fun w => by simp [binOp, Op.floatCmp, FloatKind.format], fun e => .b _⟩
theorem fNe_ok (P : Program) (t : TypeId) : BinFOk P .neq t fNe := fun x y u h => by cases h; exact ⟨_, fun w => by simp [binOp, Op.floatCmp, FloatKind.format], fun e => .b _⟩
theorem fLt_ok (P : Program) (t : TypeId) : BinFOk P .lss t fLt := fun x y u h => by cases h; exact ⟨_, fun w => by simp [binOp, Op.floatCmp, FloatKind.format], fun e => .b _⟩
theorem fLe_ok (P : Program) (t : TypeId) : BinFOk P .leq t fLe := fun x y u h => by cases h; exact ⟨_, fun w => by simp [binOp, Op.floatCmp, FloatKind.format], fun e => .b _⟩
theorem fGt_ok (P : Program) (t : TypeId) : BinFOk P .gtr t fGt := fun x y u h => by cases h; exact ⟨_, fun w => by simp [binOp, Op.floatCmp, FloatKind.format], fun e => .b _⟩
theorem fGe_ok (P : Program) (t : TypeId) : BinFOk P .geq t fGe := fun x y u h => by cases h; exact ⟨_, fun w => by simp [binOp, Op.floatCmp, FloatKind.format], fun e => .b _⟩
theorem flO_spec {o : Option Nat} {u : AV} (h : flO o = some u) : ∃ r, o = some r ∧ u = .x (.fl r) := by
 cases o with
 | none => cases h
 | some r => cases h; exact ⟨r, rfl, rfl⟩
theorem fAdd_ok (P : Program) (t : TypeId) : BinFOk P .add t fAdd := fun x y u h => by
 obtain ⟨r, hr, rfl⟩ := flO_spec h
 exact ⟨.float .f64 r, fun w => by simp [binOp, Op.floatArith, FloatKind.format, hr], fun e => .fl r⟩
theorem fSub_ok (P : Program) (t : TypeId) : BinFOk P .sub t fSub := fun x y u h => by
 obtain ⟨r, hr, rfl⟩ := flO_spec h
 exact ⟨.float .f64 r, fun w => by simp [binOp, Op.floatArith, FloatKind.format, hr], fun e => .fl r⟩
theorem fMul_ok (P : Program) (t : TypeId) : BinFOk P .mul t fMul := fun x y u h => by
 obtain ⟨r, hr, rfl⟩ := flO_spec h
 exact ⟨.float .f64 r, fun w => by simp [binOp, Op.floatArith, FloatKind.format, hr], fun e => .fl r⟩
theorem fDiv_ok (P : Program) (t : TypeId) : BinFOk P .quo t fDiv := fun x y u h => by
 obtain ⟨r, hr, rfl⟩ := flO_spec h
 exact ⟨.float .f64 r, fun w => by simp [binOp, Op.floatArith, FloatKind.format, hr], fun e => .fl r⟩
def opBinF (f : Nat → Nat → Option AV) (x y : Env → AV) (en : Env) (H : AHeap) : ORes :=
 avX .fail (axFl .fail (fun a => avX .fail (axFl .fail (fun b => optE .fail (fun v => .v v H) (f a b))) (y en))) (x en)
theorem opBinF_snd {P : Program} {o : Oper} {op : BinOp} {t t2 : TypeId} {x y : Operand} {f : Nat → Nat → Option AV} {x' y' : Env → AV} (ho : o.op = .binOp op t x y t2) (hf : BinFOk P op t f) (hx : OpndOk P S x x') (hy : OpndOk P S y y') (en : Env) (H : AHeap) : OSnd P S o en H (opBinF f x' y' en H) := by
 unfold opBinF
 cases h : x' en with
 | x u =>
  cases u with
  | fl p =>
   cases h2 : y' en with
   | x u2 =>
    cases u2 with
    | fl q =>
     simp only [avX, axFl]
     cases hv : f p q with
     | none => trivial
     | some v =>
      refine OSnd.pure fun N D e w a hr ha => ?_
      have h1 := hx N D e en a H w hr ha
      have h3 := hy N D e en a H w hr ha
      rw [h] at h1
      rw [h2] at h3
      generalize hxv : a.eval x = xv at h1
      generalize hyv : a.eval y = yv at h3
      cases h1
      cases h3
      obtain ⟨u', q1, q2⟩ := hf p q v hv
      exact ⟨u', by simp [execOp, ho, hxv, hyv, q1, eqGuard], q2 e⟩
    | _ => trivial
   | _ => trivial
  | _ => trivial
 | _ => trivial
def uI2F (k h : Nat) (v : AV) : Option AV :=
 avI none (fun k1 n => Bool.rec (motive := fun _ => Option AV) none (Bool.rec (motive := fun _ => Option AV) none (some (.x (.fl (Ieee.double.nearest false n 0)))) (Nat.ble (Nat.add n 1) h)) (Nat.beq k1 k)) v
theorem uI2F_snd {P : Program} {o : Oper} {t t' : TypeId} {d : TypeDesc} {x : Operand} {k h : Nat} {x' : Env → AV} (ho : o.op = .convert t t' x) (ht : P.underlying t = some d) (hu : P.underlying t' = some (.float .f64)) (hh : ∀ n : Nat, n < h → (kindOf k).wrap (n : Int) = n)
  (hx : OpndOk P S x x') (en : Env) (H : AHeap) : OSnd P S o en H (opUn (uI2F k h) x' en H) := by
 refine opUn_snd (fun v u e v' a hv huv he => ?_) hx en H
 cases hv with
 | i k1 n hk1 hn =>
  simp only [uI2F, avI] at huv
  cases c : Nat.beq k1 k with
  | false => rw [c] at huv; cases huv
  | true =>
   rw [c] at huv
   cases c2 : Nat.ble (Nat.add n 1) h with
   | false => rw [c2] at huv; cases huv
   | true =>
    rw [c2] at huv
    cases huv
    have := Nat.eq_of_beq_eq_true c
    subst this
    have hn' : n < h := by rw [ble_tt] at c2; exact c2
    refine ⟨.float .f64 (Ieee.double.nearest false n 0), fun w => ?_, .fl _⟩
    have hz : FloatKind.nearest .f64 (n : Int) = Ieee.double.nearest false n 0 := by
     have hd : decide ((n : Int) < 0) = false := by simp
     simp only [FloatKind.nearest, FloatKind.encode, FloatKind.format, Ieee.Format.write, hd, Int.natAbs_natCast]
    cases d <;> simp [execOp, ho, he, convert, run_underlying ht, run_underlying hu, Conv.intToFloat, hh n hn', hz]
 | _ => cases huv
def uF2I (v : AV) : Option AV :=
 avX none (axFl none (fun b => Option.rec (motive := fun _ => Option AV) none (fun z => Int.rec (motive := fun _ => Option AV) (fun n => Bool.rec (motive := fun _ => Option AV) none (some (.i 3 n)) (Nat.ble (Nat.add n 1) 9223372036854775808)) (fun _ => none) z)
  ((FloatKind.f64.decode b).toInt .zero))) v
theorem uF2I_snd {P : Program} {o : Oper} {t t' : TypeId} {x : Operand} {x' : Env → AV} (ho : o.op = .convert t t' x) (ht : P.underlying t = some (.float .f64)) (hu : P.underlying t' = some (.int .i64))
  (hx : OpndOk P S x x') (en : Env) (H : AHeap) : OSnd P S o en H (opUn uF2I x' en H) := by
 refine opUn_snd (fun v u e v' a hv huv he => ?_) hx en H
 cases v with
 | x y =>
  cases y with
  | fl b =>
   cases hv with
   | fl _ =>
   simp only [uF2I, avX, axFl] at huv
   cases hz : (FloatKind.f64.decode b).toInt .zero with
   | none => rw [hz] at huv; cases huv
   | some z =>
    rw [hz] at huv
    cases z with
    | negSucc n => cases huv
    | ofNat n =>
     have huv' : (Bool.rec (motive := fun _ => Option AV) none (some (.i 3 n)) (Nat.ble (Nat.add n 1) 9223372036854775808)) = some u := huv
     cases c2 : Nat.ble (Nat.add n 1) 9223372036854775808 with
     | false => rw [c2] at huv'; cases huv'
     | true =>
      rw [c2] at huv'
      cases huv'
      have hn : n < 9223372036854775808 := by rw [ble_tt] at c2; exact c2
      have h1 : IntKind.i64.min ≤ Int.ofNat n ∧ Int.ofNat n ≤ IntKind.i64.max := by
       have e1 : IntKind.i64.min = -9223372036854775808 := by decide
       have e2 : IntKind.i64.max = 9223372036854775807 := by decide
       have e3 : Int.ofNat n = (n : Int) := rfl
       rw [e1, e2, e3]; omega
      have hr := VRel.i (e := e) 3 n (by omega) (by simp [kindOf, IntKind.bits]; omega)
      have hw : (kindOf 3).wrap (n : Int) = (n : Int) := by
       simp only [kindOf, IntKind.wrap, IntKind.signed, IntKind.bits]; simp; omega
      rw [hw] at hr
      refine ⟨.int .i64 (n : Int), fun w => ?_, hr⟩
      simp [execOp, ho, he, convert, run_underlying ht, run_underlying hu, Conv.floatToInt, hz]
      intro hc
      have := hc h1.1
      omega
  | _ => cases huv
 | _ => cases huv
end
end Go.Ab
namespace Go.Ab
open Go
inductive KO where
 | t (n : Nat) | va (p : VP) | c (v : AV) | g (n : Nat) | f (n : Nat)
inductive KBin where
 | add | sub | mul | eq | ne | lt | le | gt | ge | and | or | xor | andn | quo | rem
inductive KSh where | shl | shr
inductive KUn where | not | neg (k M : Nat) | conv (k M : Nat) | tas (t : Nat) (Z : AV) | i2f (k h : Nat) | f2i
inductive KFb where | eq | ne | lt | le | gt | ge | add | sub | mul | div
inductive KStr where | cat | eq | ne | lt
inductive KCmp where | i | s | cs (ks : List Nat)
inductive KOp where
 | move (x : KO)
 | pick (c x y : KO)
 | load1 (x : KO)
 | loadN (n : Nat) (x : KO)
 | store (n : Nat) (x y : KO)
 | alloc (Z : List AV)
 | box (x : KO)
 | build (Z : List AV) (ps : List (Nat × Nat × KO))
 | bslice (n len : Nat) (ps : List (Nat × Nat × KO))
 | fa (off : Nat) (x : KO)
 | nilc (x : KO)
 | ia (sz : Nat) (x y : KO)
 | iaA (len sz : Nat) (x y : KO)
 | ext (k : Nat) (x : KO)
 | fld1 (off : Nat) (x : KO)
 | fldN (off n : Nat) (x : KO)
 | ifc (t : Nat) (x : KO)
 | mkf (f : Nat) (xs ys : List KO)
 | mkm
 | sl (sz : Nat) (x : KO) (lo hi mx : Option KO)
 | slA (n sz : Nat) (x : KO) (lo hi mx : Option KO)
 | bin (b : KBin) (k M h : Nat) (x y : KO)
 | sh (b : KSh) (k M h bits : Nat) (x y : KO)
 | un (u : KUn) (x : KO)
 | str (b : KStr) (x y : KO)
 | idxS (x y : KO)
 | slS (x : KO) (lo hi : Option KO)
 | binB (ne : Bool) (x y : KO)
 | eqC (ks : List Nat) (ne : Bool) (x y : KO)
 | eqR (k : Nat) (ne : Bool) (x y : KO)
 | app (sz bytes : Nat) (x y : KO)
 | len (k : Nat) (x : KO)
 | cap (sz : Nat) (x : KO)
 | mks (bytes : Nat) (Z : List AV) (x y : KO)
 | appZ (bytes sz : Nat) (Z : List AV) (x y : KO)
 | look (c : KCmp) (Z : AV) (ok : Bool) (x y : KO)
 | mapu (c : KCmp) (x y z : KO)
 | pan (x : KO)
 | call (f : Nat) (xs : List KO)
 | callv (x : KO) (xs : List KO)
 | unk
 | b2s (x : KO)
 | mn (k M h : Nat) (x y : KO)
 | mpe (c : KCmp) (Z : AV) (x y : KO)
 | mps (x s z : KO)
 | fbin (b : KFb) (x y : KO)
 | s2b (x : KO)
noncomputable section
variable {S : BT Nat}
def KO.den (x : KO) : Env → AV := KO.rec (motive := fun _ => Env → AV) oT oV oC oG oF x
def KO.dens (l : List KO) : List (Env → AV) := List.rec (motive := fun _ => List (Env → AV)) [] (fun x _ ih => x.den :: ih) l
def KO.denP (l : List (Nat × Nat × KO)) : List (Nat × Nat × (Env → AV)) := List.rec (motive := fun _ => List (Nat × Nat × (Env → AV))) [] (fun p _ ih => (p.1, p.2.1, p.2.2.den) :: ih) l
def KO.denO (x : Option KO) : Option (Env → AV) := Option.rec (motive := fun _ => Option (Env → AV)) none (fun x => some x.den) x
def KBin.denT (b : KBin) : Nat → Nat → Nat → Nat → Nat → Option AV :=
 KBin.rec (motive := fun _ => Nat → Nat → Nat → Nat → Nat → Option AV) (fun k M _ => iAdd k M) (fun k M _ => iSub k M) (fun k M _ => iMul k M) (fun _ _ _ => iEq) (fun _ _ _ => iNe) (fun _ M h => iLt M h) (fun _ M h => iLe M h) (fun _ M h n m => iLt M h m n) (fun _ M h n m => iLe M h m n) (fun k _ _ => iAnd k) (fun k _ _ => iOr k) (fun k _ _ => iXor k) (fun k M _ => iAndNot k M) (fun k M h => iQuo k M h) (fun k M h => iRem k M h) b
def KBin.den (b : KBin) (k M h : Nat) : Nat → Nat → Option AV := b.denT k M h
def KBin.rngT (b : KBin) : Nat → Nat → Nat → Nat → Nat → Nat → Nat → Option AV :=
 KBin.rec (motive := fun _ => Nat → Nat → Nat → Nat → Nat → Nat → Nat → Option AV) (fun k M _ => gAdd k M) (fun k M _ => gSub k M) (fun _ _ _ _ _ _ _ => none) (fun _ _ _ => gEq false) (fun _ _ _ => gEq true) (fun _ M h => gLt M h) (fun _ M h => gLe M h) (fun _ M h a b c d => gLt M h c d a b) (fun _ M h a b c d => gLe M h c d a b) (fun _ _ _ _ _ _ _ => none) (fun _ _ _ _ _ _ _ => none) (fun k _ _ => gXor k) (fun _ _ _ _ _ _ _ => none) (fun _ _ _ _ _ _ _ => none) (fun _ _ _ _ _ _ _ => none) b
def KBin.rng (b : KBin) (k M h : Nat) : Nat → Nat → Nat → Nat → Option AV := b.rngT k M h
def KSh.den (b : KSh) (k M h bits : Nat) : Nat → Nat → Option AV := KSh.rec (motive := fun _ => Nat → Nat → Option AV) (sShl k M bits) (sShr k h bits) b
def halfT (k : Nat) : Nat := Nat.rec (motive := fun _ => Nat) 128 (fun k _ => Nat.rec (motive := fun _ => Nat) 32768 (fun k _ => Nat.rec (motive := fun _ => Nat) 2147483648 (fun k _ => Nat.rec (motive := fun _ => Nat) 9223372036854775808
 (fun k _ => Nat.rec (motive := fun _ => Nat) 256 (fun k _ => Nat.rec (motive := fun _ => Nat) 65536 (fun k _ => Nat.rec (motive := fun _ => Nat) 4294967296 (fun _ _ => 18446744073709551616) k) k) k) k) k) k) k
def modT (k : Nat) : Nat := Nat.rec (motive := fun _ => Nat) 256 (fun k _ => Nat.rec (motive := fun _ => Nat) 65536 (fun k _ => Nat.rec (motive := fun _ => Nat) 4294967296 (fun k _ => Nat.rec (motive := fun _ => Nat) 18446744073709551616
 (fun k _ => Nat.rec (motive := fun _ => Nat) 256 (fun k _ => Nat.rec (motive := fun _ => Nat) 65536 (fun k _ => Nat.rec (motive := fun _ => Nat) 4294967296 (fun _ _ => 18446744073709551616) k) k) k) k) k) k) k
def KUn.den (u : KUn) : AV → Option AV := KUn.rec (motive := fun _ => AV → Option AV) uNot uNegG (fun k M => uConv k M halfT modT) uTas uI2F uF2I u
def KFb.den (b : KFb) : Nat → Nat → Option AV := KFb.rec (motive := fun _ => Nat → Nat → Option AV) fEq fNe fLt fLe fGt fGe fAdd fSub fMul fDiv b
def KStr.den (b : KStr) : Nat → Nat → Nat → Nat → Option AV := KStr.rec (motive := fun _ => Nat → Nat → Nat → Nat → Option AV) sCat sEq sNe sLt b
def KCmp.den (c : KCmp) : AV → AV → Option Bool := KCmp.rec (motive := fun _ => AV → AV → Option Bool) (eqAtom 0) (eqAtom 2) cmpC c
def KCmp.free (c : KCmp) : AV → Bool := KCmp.rec (motive := fun _ => AV → Bool) (fun _ => true) (fun _ => true) (fun ks => aggLen ks.length) c
abbrev Fs := Nat → List AV → AHeap → ORes
def callV (F : Fs) (v : AV) (args : List AV) (H : AHeap) : ORes :=
 avX .fail (fun u => AX.casesOn (motive_1 := fun _ => ORes) u .fail .fail .fail .fail .fail .fail (fun _ => .fail) (fun f a c => F f (a ++ (args ++ c)) H) (fun _ _ => .fail) (fun _ => .fail) (fun _ => .fail) (fun _ => .fail) (fun _ _ => .fail) (fun _ _ _ => .fail) (fun _ _ _ => .fail)) v
def opPan (x : Env → AV) (en : Env) (H : AHeap) : ORes :=
 avX .fail (fun u => AX.casesOn (motive_1 := fun _ => ORes) u .fail .fail .fail .fail .fail .fail (fun _ => .fail) (fun _ _ _ => .fail) (fun t v => .pan (.x (.ifc t v)) H) (fun _ => .fail) (fun _ => .fail) (fun _ => .fail) (fun _ _ => .fail) (fun _ _ _ => .fail) (fun _ _ _ => .fail)) (x en)
def KOp.denT (k : KOp) : Fs → Env → AHeap → ORes :=
 KOp.rec (motive := fun _ => Fs → Env → AHeap → ORes)
  (fun x _ => opMove x.den)
  (fun c x y _ => opPick c.den x.den y.den)
  (fun x _ => opLoad1 x.den)
  (fun n x _ => opLoadN n x.den)
  (fun n x y _ => opStore n x.den y.den)
  (fun a0 _ => opAlloc a0)
  (fun x _ => opBox x.den)
  (fun Z ps _ => opBuild Z (KO.denP ps))
  (fun n len ps _ => opBuildSlice n len (KO.denP ps))
  (fun off x _ => opFieldAddr off x.den)
  (fun x _ => opNilCheck x.den)
  (fun sz x y _ => opIndexAddr sz x.den y.den)
  (fun len sz x y _ => opIndexAddrA len sz x.den y.den)
  (fun k x _ => opExtract k x.den)
  (fun off x _ => opField1 off x.den)
  (fun off n x _ => opFieldN off n x.den)
  (fun t x _ => opMakeInterface t x.den)
  (fun f xs ys _ => opMakeFunc f (KO.dens xs) (KO.dens ys))
  (fun _ => opMakeMap)
  (fun sz x lo hi mx _ => opSlice sz x.den (KO.denO lo) (KO.denO hi) (KO.denO mx))
  (fun n sz x lo hi mx _ => opSliceA n sz x.den (KO.denO lo) (KO.denO hi) (KO.denO mx))
  (fun b k M h x y _ => opBinG k (b.den k M h) (b.rng k M h) x.den y.den)
  (fun b k M h bits x y _ => opShift k (b.den k M h bits) x.den y.den)
  (fun u x _ => opUn u.den x.den)
  (fun b x y _ => opBinS b.den x.den y.den)
  (fun x y _ => opIndexS x.den y.den)
  (fun x lo hi _ => opSliceS x.den (KO.denO lo) (KO.denO hi))
  (fun ne x y _ => opBinB (Bool.rec (motive := fun _ => Bool → Bool → Bool) bEq bNe ne) x.den y.den)
  (fun ks ne x y _ => opEqC ks ne x.den y.den)
  (fun k ne x y _ => opEqR k ne x.den y.den)
  (fun sz bytes x y _ => opAppendF sz bytes x.den y.den)
  (fun k x _ => opLen k x.den)
  (fun sz x _ => opCap sz x.den)
  (fun bytes Z x y _ => opMakeSlice bytes Z x.den y.den)
  (fun bytes sz Z x y _ => opAppendZ bytes sz Z x.den y.den)
  (fun c Z ok x y _ => opLookup c.den c.free Z ok x.den y.den)
  (fun c x y z _ => opMapUpdate c.den c.free x.den y.den z.den)
  (fun x _ => opPan x.den)
  (fun f xs F en H => F f (evalL (KO.dens xs) en) H)
  (fun x xs F en H => callV F (x.den en) (evalL (KO.dens xs) en) H)
  (fun  _ _ _ => .fail)
  (fun x _ => opB2S x.den)
  (fun k M h x y _ => opBinI k (iMin k M h) x.den y.den)
  (fun c Z x y _ => opMapEntry c.den c.free Z x.den y.den)
  (fun x s z _ => opEntryStore x.den s.den z.den)
  (fun b x y _ => opBinF b.den x.den y.den)
  (fun x _ => opS2B x.den) k
def KOp.den (F : Fs) (k : KOp) : Env → AHeap → ORes := k.denT F
def sameL {α β : Type} (f : α → β → Bool) : List α → List β → Bool
 | [], [] => true
 | a :: l, b :: m => f a b && sameL f l m
 | _, _ => false
def strB (len code : Nat) (b : ByteArray) : Bool := Nat.ble (code + 1) (256 ^ len) && (bytesOf len code == b.data.toList)
def intB (k n : Nat) (K : IntKind) (z : Int) : Bool := Nat.ble (k + 1) 8 && Nat.ble (n + 1) (2 ^ (kindOf k).bits) && (decide (kindOf k = K) && decide (K.wrap (n : Int) = z))
def atomB (v : AV) (u : Value) : Bool :=
 match v, u with
 | .i k n, .int K z => intB k n K z
 | .b x, .bool y => x == y
 | .s l c, .string b => strB l c b
 | .x .nilp, .pointer none => true
 | .x .nils, .slice none 0 0 => true
 | .x .nilm, .map none => true
 | .x .nilf, .nilFunc => true
 | .x .nili, .nilIface => true
 | .x (.fl b), .float .f64 c => b == c
 | .x .bad, _ => true
 | _, _ => false
def litB (v : AV) (u : Value) : Bool :=
 match v, u with
 | .x (.agg l), .agg a => sameL atomB l a.toList
 | v, u => atomB v u
theorem kindOf_eq {k : Nat} {K : IntKind} (h : kindOf k = K) (n : Nat) : K.wrap (n : Int) = (kindOf k).wrap (n : Int) := by rw [h]
theorem atomB_spec {v : AV} {u : Value} (h : atomB v u = true) (e : Emb) : VRel e v u := by
 unfold atomB at h
 split at h
 · rename_i k n K z
   simp only [intB, Bool.and_eq_true, decide_eq_true_eq, ble_tt] at h
   obtain ⟨⟨h1, h2⟩, h3, h4⟩ := h
   subst h3; subst h4
   exact .i k n (by omega) (by omega)
 · rename_i x y; have : x = y := by simpa using h
   subst this; exact .b x
 · rename_i l c b
   simp only [strB, Bool.and_eq_true, ble_tt, beq_iff_eq] at h
   obtain ⟨h1, h2⟩ := h
   have : b = ⟨(bytesOf l c).toArray⟩ := by
    cases b; rename_i d; simp only at h2; rw [h2]
   rw [this]; exact .s l c (by omega)
 · exact .nilp
 · exact .nils
 · exact .nilm
 · exact .nilf
 · exact .nili
 · rename_i b c; have : b = c := by simpa using h
   subst this; exact .fl b
 · exact .bad _
 · cases h
theorem sameL_atoms : ∀ {l : List AV} {m : List Value}, sameL atomB l m = true → ∀ e, VRels e l m
 | [], [], _, e => .nil
 | a :: l, b :: m, h, e => by
  simp only [sameL, Bool.and_eq_true] at h
  exact .cons (atomB_spec h.1 e) (sameL_atoms h.2 e)
 | [], _ :: _, h, _ => by simp [sameL] at h
 | _ :: _, [], h, _ => by simp [sameL] at h
theorem litB_spec {v : AV} {u : Value} (h : litB v u = true) (e : Emb) : VRel e v u := by
 unfold litB at h
 split at h
 · rename_i l a
   have := VRel.agg l a.toList (sameL_atoms h e)
   simpa using this
 · exact atomB_spec h e
def KO.ok (P : Program) (S : BT Nat) (x : KO) (o : Operand) : Bool :=
 match x, o with
 | .t n, .tmp m => Nat.beq n m && Nat.beq (countB m S) 0
 | .va p, .tmp m => (match p.at S with | some k => Nat.beq k m | none => false)
 | .c v, .const u => litB v u
 | .g n, .global m => Nat.beq n m && Nat.ble (n + 1) P.globals.size
 | .f n, .func m => Nat.beq n m
 | _, _ => false
theorem KO.ok_spec {P : Program} {x : KO} {o : Operand} (h : x.ok P S o = true) : OpndOk P S o x.den := by
 unfold KO.ok at h
 split at h
 · simp only [Bool.and_eq_true, beq_tt] at h
   obtain ⟨h1, h2⟩ := h
   subst h1; exact opnd_tmp P _ h2
 · split at h
   · rename_i k hk
     have := Nat.eq_of_beq_eq_true h; subst this; exact opnd_var P _ _ hk
   · cases h
 · exact opnd_const P _ _ (litB_spec h)
 · simp only [Bool.and_eq_true, ble_tt] at h
   have := Nat.eq_of_beq_eq_true h.1; subst this; exact opnd_global P _ (by omega)
 · have := Nat.eq_of_beq_eq_true h; subst this; exact opnd_func P _
 · cases h
def KO.okO (P : Program) (S : BT Nat) (x : Option KO) (o : Option Operand) : Bool :=
 match x, o with
 | none, none => true
 | some x, some o => x.ok P S o
 | _, _ => false
theorem KO.okO_spec {P : Program} {x : Option KO} {o : Option Operand} (h : KO.okO P S x o = true) : OOk P S o (KO.denO x) := by
 unfold KO.okO at h
 split at h
 · trivial
 · exact KO.ok_spec h
 · cases h
theorem KO.oks_spec {P : Program} : ∀ {xs : List KO} {os : List Operand}, sameL (KO.ok P S) xs os = true → OpndsOk P S os (KO.dens xs)
 | [], [], _ => .nil
 | x :: xs, o :: os, h => by
  simp only [sameL, Bool.and_eq_true] at h
  exact .cons (KO.ok_spec h.1) (KO.oks_spec h.2)
 | [], _ :: _, h => by simp [sameL] at h
 | _ :: _, [], h => by simp [sameL] at h
def KO.okP (P : Program) (S : BT Nat) (place : Nat → Option (Nat × Nat)) (p : Nat × Nat × KO) (q : Nat × Operand) : Bool :=
 (match place q.1 with | some (o, n) => Nat.beq o p.1 && Nat.beq n p.2.1 | none => false) && p.2.2.ok P S q.2
theorem KO.okPs_spec {P : Program} {place : Nat → Option (Nat × Nat)} : ∀ {ps : List (Nat × Nat × KO)} {qs : List (Nat × Operand)}, sameL (KO.okP P S place) ps qs = true → POk P S (KO.denP ps) qs place
 | [], [], _ => .nil _
 | (o, n, x) :: ps, (k, y) :: qs, h => by
  simp only [sameL, KO.okP, Bool.and_eq_true] at h
  obtain ⟨⟨h1, h2⟩, h3⟩ := h
  refine .cons ?_ (KO.ok_spec h2) (KO.okPs_spec h3)
  cases hp : place k with
  | none => rw [hp] at h1; cases h1
  | some q =>
   obtain ⟨a, b⟩ := q
   rw [hp] at h1
   simp only [Bool.and_eq_true] at h1
   rw [Nat.eq_of_beq_eq_true h1.1, Nat.eq_of_beq_eq_true h1.2]
 | [], _ :: _, h => by simp [sameL] at h
 | _ :: _, [], h => by simp [sameL] at h
def zeroB (P : Program) (t : TypeId) (Z : List AV) : Bool := match zeroOf P t with | some zv => sameL atomB Z zv.cells.toList | none => false
theorem zeroB_spec {P : Program} {t : TypeId} {Z : List AV} (h : zeroB P t Z = true) : ∃ zv, zeroOf P t = some zv ∧ ∀ e, VRels e Z zv.cells.toList := by
 unfold zeroB at h
 split at h
 · rename_i zv hz; exact ⟨zv, hz, sameL_atoms h⟩
 · cases h
end
end Go.Ab
namespace Go.Ab
open Go
noncomputable section
variable {S : BT Nat}
def Runs (P : Program) (f : FuncId) (args : Array Value) (w : World) (R : Ending → World → Prop) : Prop :=
 ((callFunc f args).run P w = .ok (.enter f args) w ∧ Calls P f args w R) ∨ ∃ v w', (callFunc f args).run P w = .ok (.value v) w' ∧ R (.returned v) w'
def FSnd (P : Program) (f : Nat) (args : List AV) (H : AHeap) : ORes → Prop
 | .fail => True
 | .v v H' => ∀ e w args', Rel P.globals.size e H w → VRels e args args' →
    Runs P f args'.toArray w (fun E w' => ∃ e' v', E = .returned v' ∧ VRel e' v v' ∧ Evo P.globals.size e H w e' H' w')
 | .pan v H' => ∀ e w args', Rel P.globals.size e H w → VRels e args args' →
    Runs P f args'.toArray w (fun E w' => ∃ e' v', E = .panicked [⟨v', false, false⟩] ∧ VRel e' v v' ∧ Evo P.globals.size e H w e' H' w')
def FsOk (P : Program) (F : Fs) : Prop := ∀ f args H, FSnd P f args H (F f args H)
theorem Runs.upon {P : Program} {o : Oper} {a : Act} {f : FuncId} {args : Array Value} {w : World} {R : Ending → World → Prop} {next : Act → World → Prop} {Q : Exit → Act → World → Prop} (h : Runs P f args w R)
  (hr : ∀ v w', R (.returned v) w' → next (a.put o.dst v) w') (hp : ∀ c w', R (.panicked c) w' → Q (.panic c) a w') (ho : ∀ w', R .outgrown w' → LetsOut Q) : o.upon P a next Q ((callFunc f args).run P w) := by
 rcases h with ⟨h1, h2⟩ | ⟨v, w', h1, h2⟩
 · rw [h1, Oper.upon_enter]
   exact Calls.mono h2 fun E w' hE => by
    cases E with
    | returned v => exact hr v w' hE
    | panicked c => exact hp c w' hE
    | outgrown => exact ho w' hE
 · rw [h1, Oper.upon_value]; exact hr v w' h2
theorem call_snd {P : Program} {o : Oper} {en : Env} {H : AHeap} {f : Nat} {args : List AV} (r : ORes) (hF : FSnd P f args H r)
  (h : ∀ N D e w a, Rel P.globals.size e H w → ARel S N D e en a → ∃ args' : List Value, VRels e args args' ∧ (execOp a.eval o).run P w = (callFunc f args'.toArray).run P w) : OSnd P S o en H r := by
 cases r with
 | fail => trivial
 | v v H' =>
  intro N D e w a hr ha
  obtain ⟨args', h1, h2⟩ := h N D e w a hr ha
  simp only [Oper.wp, h2]
  refine (hF e w args' hr h1).upon ?_ ?_ ?_
  · rintro v1 w' ⟨e', v', hE, hv, hevo⟩
    cases hE
    exact ⟨e', _, rfl, hv, hevo⟩
  · rintro c w' ⟨e', v', hE, hv, hevo⟩
    cases hE
  · rintro w' ⟨e', v', hE, hv, hevo⟩
    cases hE
 | pan v H' =>
  intro N D e w a hr ha
  obtain ⟨args', h1, h2⟩ := h N D e w a hr ha
  simp only [Oper.wp, h2]
  refine (hF e w args' hr h1).upon ?_ ?_ ?_
  · rintro v1 w' ⟨e', v', hE, hv, hevo⟩
    cases hE
  · rintro c w' ⟨e', v', hE, hv, hevo⟩
    cases hE
    exact ⟨e', _, rfl, rfl, hv, hevo⟩
  · rintro w' ⟨e', v', hE, hv, hevo⟩
    cases hE
theorem exec_call {P : Program} {o : Oper} {x : Operand} {args : Array Operand} {argTypes : Array TypeId} (ho : o.op = .call { callee := .value x, args, argTypes }) (ρ : Operand → Value) {f : Nat} {first captured : Array Value} (hx : ρ x = .func (.func f) first captured) (w : World) :
  (execOp ρ o).run P w = (callFunc f ((first ++ args.map ρ) ++ captured)).run P w := by
 simp [execOp, ho, resolve, hx, Deferred.ofValue, invoke]
theorem opPan_snd {P : Program} {o : Oper} {x : Operand} {x' : Env → AV} (ho : o.op = .panic x) (hx : OpndOk P S x x') (en : Env) (H : AHeap) : OSnd P S o en H (opPan x' en H) := by
 unfold opPan
 cases h : x' en with
 | x u =>
  cases u with
  | ifc t v =>
   intro N D e w a hr ha
   have h1 := hx N D e en a H w hr ha
   rw [h] at h1
   generalize hxv : a.eval x = xv at h1
   cases h1
   rename_i v' hv
   have hrun : (execOp a.eval o).run P w = .halt (.panic (.iface t v')) w := by simp [execOp, ho, hxv, Instr.panic, goPanic, Sem.run]
   unfold Oper.wp
   rw [hrun, Oper.upon_panic]
   exact ⟨e, .iface t v', rfl, rfl, .ifc t v v' hv, Evo.refl hr⟩
  | _ => trivial
 | _ => trivial
def KBin.okB (b : KBin) (k M h : Nat) (op : BinOp) : Bool :=
 Nat.ble (k + 1) 8 && Nat.beq M (2 ^ (kindOf k).bits) &&
 match b, op with
 | .add, .add | .sub, .sub | .mul, .mul | .eq, .eql | .ne, .neq | .and, .and | .or, .or | .xor, .xor | .andn, .andNot => true
 | .lt, .lss | .le, .leq | .gt, .gtr | .ge, .geq => Nat.beq h (if (kindOf k).signed then 2 ^ ((kindOf k).bits - 1) else 0)
 | .quo, .quo | .rem, .rem => Nat.beq h (if (kindOf k).signed then 2 ^ ((kindOf k).bits - 1) else 2 ^ (kindOf k).bits)
 | _, _ => false
theorem KBin.okB_spec {P : Program} {t : TypeId} {b : KBin} {k M h : Nat} {op : BinOp} (hb : b.okB k M h op = true) : BinOk P op t k (b.den k M h) := by
 simp only [KBin.okB, Bool.and_eq_true, ble_tt, beq_tt] at hb
 obtain ⟨⟨hk, hM⟩, hb⟩ := hb
 have hk : k < 8 := hk
 revert hb
 cases b <;> cases op <;> intro hb <;> first
  | (cases hb; done)
  | exact iAdd_ok P t k hk M hM
  | exact iSub_ok P t k hk M hM
  | exact iMul_ok P t k hk M hM
  | exact iEq_ok P t k hk
  | exact iNe_ok P t k hk
  | exact iAnd_ok P t k hk
  | exact iOr_ok P t k hk
  | exact iXor_ok P t k hk
  | exact iAndNot_ok P t k M hk hM
  | exact iLt_ok P t k M h hk hM (Nat.eq_of_beq_eq_true hb)
  | exact iLe_ok P t k M h hk hM (Nat.eq_of_beq_eq_true hb)
  | exact iGt_ok P t k M h hk hM (Nat.eq_of_beq_eq_true hb)
  | exact iGe_ok P t k M h hk hM (Nat.eq_of_beq_eq_true hb)
  | exact iQuo_ok P t k M h hk hM (Nat.eq_of_beq_eq_true hb)
  | exact iRem_ok P t k M h hk hM (Nat.eq_of_beq_eq_true hb)
theorem half_lt (k : Nat) : (if (kindOf k).signed then 2 ^ ((kindOf k).bits - 1) else 0) < 2 ^ (kindOf k).bits := by
 generalize kindOf k = K
 cases K <;> decide
theorem KBin.okB_rng {b : KBin} {k M h : Nat} {op : BinOp} (hb : b.okB k M h op = true) : RngOk k (b.den k M h) (b.rng k M h) := by
 simp only [KBin.okB, Bool.and_eq_true, ble_tt, beq_tt] at hb
 obtain ⟨⟨hk, hM⟩, hb⟩ := hb
 revert hb
 cases b <;> cases op <;> intro hb <;> first
  | (cases hb; done)
  | exact gAdd_ok k M hM
  | exact gSub_ok k M hM
  | exact gEq_ok k
  | exact gNe_ok k
  | exact gLt_ok k M h hM (by rw [hM, Nat.eq_of_beq_eq_true hb]; exact half_lt k)
  | exact gLe_ok k M h hM (by rw [hM, Nat.eq_of_beq_eq_true hb]; exact half_lt k)
  | exact (gLt_ok k M h hM (by rw [hM, Nat.eq_of_beq_eq_true hb]; exact half_lt k)).swap
  | exact (gLe_ok k M h hM (by rw [hM, Nat.eq_of_beq_eq_true hb]; exact half_lt k)).swap
  | exact gXor_ok k
  | exact gNone_ok k _
def KSh.okB (b : KSh) (k M h bits : Nat) (op : BinOp) : Bool :=
 Nat.ble (k + 1) 8 && Nat.beq bits (kindOf k).bits &&
 match b, op with
 | .shl, .shl => Nat.beq M (2 ^ bits)
 | .shr, .shr => Nat.beq h (if (kindOf k).signed then 2 ^ ((kindOf k).bits - 1) else 2 ^ (kindOf k).bits)
 | _, _ => false
theorem KSh.okB_spec {P : Program} {t : TypeId} {b : KSh} {k M h bits : Nat} {op : BinOp} (hb : b.okB k M h bits op = true) : ShOk P op t k (b.den k M h bits) := by
 simp only [KSh.okB, Bool.and_eq_true, ble_tt, beq_tt] at hb
 obtain ⟨⟨hk, hM⟩, hb⟩ := hb
 have hk : k < 8 := hk
 revert hb
 cases b <;> cases op <;> intro hb <;> first
  | (cases hb; done)
  | exact sShl_ok P t k M bits hk hM (Nat.eq_of_beq_eq_true hb)
  | exact sShr_ok P t k h bits hk hM (Nat.eq_of_beq_eq_true hb)
theorem halfT_eq : ∀ k, k < 8 → halfT k = halfK k
 | 0, _ | 1, _ | 2, _ | 3, _ | 4, _ | 5, _ | 6, _ | 7, _ => by decide
 | n + 8, h => by omega
theorem modT_eq : ∀ k, k < 8 → modT k = modK k
 | 0, _ | 1, _ | 2, _ | 3, _ | 4, _ | 5, _ | 6, _ | 7, _ => by decide
 | n + 8, h => by omega
end
end Go.Ab
namespace Go.Ab
open Go
noncomputable section
variable {S : BT Nat}
def elemOf (P : Program) (t : TypeId) : Option TypeId := match P.underlying t with | some (.slice e) => some e | _ => none
def arrOf (P : Program) (t : TypeId) : Option (Nat × TypeId) := match P.underlying t with | some (.array n e) => some (n, e) | _ => none
def mapOf (P : Program) (t : TypeId) : Option (TypeId × TypeId) := match P.underlying t with | some (.map k e) => some (k, e) | _ => none
theorem elemOf_spec {P : Program} {t e : TypeId} (h : elemOf P t = some e) : P.underlying t = some (.slice e) := by
 unfold elemOf at h; split at h
 · rename_i hu; cases h; exact hu
 · cases h
theorem arrOf_spec {P : Program} {t e : TypeId} {n : Nat} (h : arrOf P t = some (n, e)) : P.underlying t = some (.array n e) := by
 unfold arrOf at h; split at h
 · rename_i hu; cases h; exact hu
 · cases h
theorem mapOf_spec {P : Program} {t k e : TypeId} (h : mapOf P t = some (k, e)) : P.underlying t = some (.map k e) := by
 unfold mapOf at h; split at h
 · rename_i hu; cases h; exact hu
 · cases h
def isStr (P : Program) (t : TypeId) : Bool := match P.underlying t with | some .string => true | _ => false
theorem isStr_spec {P : Program} {t : TypeId} (h : isStr P t = true) : P.underlying t = some .string := by
 unfold isStr at h; split at h
 · assumption
 · cases h
def isBool (P : Program) (t : TypeId) : Bool := match P.underlying t with | some .bool => true | _ => false
theorem isBool_spec {P : Program} {t : TypeId} (h : isBool P t = true) : P.underlying t = some .bool := by
 unfold isBool at h; split at h
 · assumption
 · cases h
def isF64 (P : Program) (t : TypeId) : Bool := match P.underlying t with | some (.float .f64) => true | _ => false
theorem isF64_spec {P : Program} {t : TypeId} (h : isF64 P t = true) : P.underlying t = some (.float .f64) := by
 unfold isF64 at h; split at h
 · assumption
 · cases h
def intOf (P : Program) (t : TypeId) : Option IntKind := match P.underlying t with | some (.int K) => some K | _ => none
theorem intOf_spec {P : Program} {t : TypeId} {K : IntKind} (h : intOf P t = some K) : P.underlying t = some (.int K) := by
 unfold intOf at h; split at h
 · rename_i hu; cases h; exact hu
 · cases h
def elemB (P : Program) (el : TypeId) (sz bytes : Nat) (Z : Option (List AV)) : Bool :=
 match P.info? el with
 | some i => (match i.zero with | some z => Nat.beq z.cells.size sz && (match Z with | some Z => sameL atomB Z z.cells.toList | none => true) | none => false) && Nat.beq i.size sz && Nat.beq i.bytes bytes && Nat.ble 1 sz && Nat.ble 1 bytes
 | none => false
theorem elemB_spec {P : Program} {el : TypeId} {sz bytes : Nat} {Z : Option (List AV)} (h : elemB P el sz bytes Z = true) :
  ∃ i z, P.info? el = some i ∧ i.zero = some z ∧ z.cells.size = sz ∧ i.size = sz ∧ i.bytes = bytes ∧ 0 < sz ∧ 0 < bytes ∧ ∀ Z', Z = some Z' → ∀ e, VRels e Z' z.cells.toList := by
 unfold elemB at h
 split at h
 · rename_i i hi
   simp only [Bool.and_eq_true, ble_tt, beq_tt] at h
   obtain ⟨⟨⟨⟨h1, h2⟩, h3⟩, h4⟩, h5⟩ := h
   split at h1
   · rename_i z hz
     simp only [Bool.and_eq_true, beq_tt] at h1
     refine ⟨i, z, hi, hz, h1.1, h2, h3, h4, h5, ?_⟩
     rintro Z' rfl e
     exact sameL_atoms h1.2 e
   · cases h1
 · cases h
def KCmp.okB (P : Program) (c : KCmp) (kt : TypeId) : Bool :=
 match c with
 | .i => (intOf P kt).isSome
 | .s => isStr P kt
 | .cs ks => decide (flatOf P 20 kt = some ks) && decide (aggOf P kt ≠ some none) && (match P.underlying kt with | some d => aggDesc d | _ => false)
theorem KCmp.okB_spec {P : Program} {c : KCmp} {kt : TypeId} (h : c.okB P kt = true) : (∃ d, P.underlying kt = some d) ∧ CmpOk P kt c.den ∧ KeyFree P kt c.free := by
 cases c with
 | i =>
  obtain ⟨K, hK⟩ := Option.isSome_iff_exists.1 h
  have := intOf_spec hK
  exact ⟨⟨_, this⟩, cmpI_ok this, keyFree_atom (.inl ⟨K, this⟩)⟩
 | s =>
  have := isStr_spec h
  exact ⟨⟨_, this⟩, cmpS_ok this, keyFree_atom (.inr (.inl this))⟩
 | cs ks =>
  simp only [KCmp.okB, Bool.and_eq_true, decide_eq_true_eq] at h
  obtain ⟨⟨h1, h2⟩, h3⟩ := h
  have hst : ∃ d, P.underlying kt = some d ∧ aggDesc d = true := by
   split at h3
   · exact ⟨_, by assumption, h3⟩
   · cases h3
  obtain ⟨d, hd, hag⟩ := hst
  exact ⟨⟨_, hd⟩, cmpC_ok h1 h2 ⟨d, hd, hag⟩ (by omega), keyFree_cells h1 h2 (by omega)⟩
def eqB (ne : Bool) (op : BinOp) : Bool := match op, ne with | .eql, false | .neq, true => true | _, _ => false
theorem eqB_spec {ne : Bool} {op : BinOp} (h : eqB ne op = true) : (op = .eql ∧ ne = false) ∨ (op = .neq ∧ ne = true) := by
 unfold eqB at h
 split at h
 · exact .inl ⟨rfl, rfl⟩
 · exact .inr ⟨rfl, rfl⟩
 · cases h
def callB (P : Program) (S : BT Nat) (o : Oper) (f : KO) (xs : List KO) : Bool :=
 match o.op with | .call { callee := .value g, args, argTypes := _ } => f.ok P S g && sameL (KO.ok P S) xs args.toList | _ => false
def KOp.ok (P : Program) (S : BT Nat) (o : Oper) (k : KOp) : Bool :=
 match k with
 | .move x => match o.op with | .move y => x.ok P S y | .assign y => x.ok P S y | _ => false
 | .pick c x y => match o.op with | .pick c' x' y' => c.ok P S c' && x.ok P S x' && y.ok P S y' | _ => false
 | .load1 x => match o.op with | .load t x' => decide (aggOf P t = some none) && x.ok P S x' | _ => false
 | .loadN n x => match o.op with | .load t x' => decide (aggOf P t = some (some n)) && x.ok P S x' | _ => false
 | .store n x y => match o.op with | .store t x' y' => decide (szOf P t = some n) && x.ok P S x' && y.ok P S y' | _ => false
 | .alloc Z => match o.op with | .alloc t => zeroB P t Z | _ => false
 | .box x => match o.op with | .box _ x' => x.ok P S x' | _ => false
 | .build Z ps => match o.op with | .build t parts => zeroB P t Z && (fieldsOk P t || arrayOk P t) && sameL (KO.okP P S (placeOf P t)) ps parts.toList | _ => false
 | .bslice n ln ps => match o.op with
  | .buildSlice t len' parts => match elemOf P t with
   | some el => match szOf P el with
    | some sz => (zeroOf P el).isSome && Nat.beq ln len' && Nat.beq (len' * sz) n && Nat.ble n 16777216 && sameL (KO.okP P S (placeOf P t)) ps parts.toList
    | none => false
   | none => false
  | _ => false
 | .fa off x => match o.op with | .fieldAddr t x' k => decide (fldOf P t k = some off) && x.ok P S x' | _ => false
 | .nilc x => match o.op with | .nilCheck x' => x.ok P S x' | _ => false
 | .ia sz x y => match o.op with
  | .indexAddr t x' y' => match elemOf P t with | some el => decide (szOf P el = some sz) && x.ok P S x' && y.ok P S y' | none => false
  | _ => false
 | .iaA ln sz x y => match o.op with
  | .indexAddr t x' y' => match arrOf P t with | some (n, el) => Nat.beq n ln && decide (szOf P el = some sz) && x.ok P S x' && y.ok P S y' | none => false
  | _ => false
 | .ext k x => match o.op with | .extract x' k' => Nat.beq k k' && x.ok P S x' | _ => false
 | .fld1 off x => match o.op with | .field t x' k => (match fldAt P t k with | some (off', ft) => Nat.beq off' off && decide (aggOf P ft = some none) && x.ok P S x' | none => false) | _ => false
 | .fldN off n x => match o.op with | .field t x' k => (match fldAt P t k with | some (off', ft) => Nat.beq off' off && decide (aggOf P ft = some (some n)) && x.ok P S x' | none => false) | _ => false
 | .ifc t x => match o.op with | .makeInterface t' x' => Nat.beq t t' && decide (isIface P t' = some false) && x.ok P S x' | _ => false
 | .mkf f xs ys => match o.op with | .makeFunc (.func f') xs' ys' => Nat.beq f f' && sameL (KO.ok P S) xs xs'.toList && sameL (KO.ok P S) ys ys'.toList | _ => false
 | .mkm => match o.op with | .makeMap _ none => true | _ => false
 | .sl sz x lo hi mx => match o.op with
  | .slice t x' lo' hi' mx' => match elemOf P t with
   | some el => decide (szOf P el = some sz) && x.ok P S x' && KO.okO P S lo lo' && KO.okO P S hi hi' && KO.okO P S mx mx' && (mx'.isNone || hi'.isSome)
   | none => false
  | _ => false
 | .slA n sz x lo hi mx => match o.op with
  | .slice t x' lo' hi' mx' => match arrOf P t with
   | some (n', el) => Nat.beq n' n && decide (szOf P el = some sz) && x.ok P S x' && KO.okO P S lo lo' && KO.okO P S hi hi' && KO.okO P S mx mx' && (mx'.isNone || hi'.isSome)
   | none => false
  | _ => false
 | .bin b k M h x y => match o.op with | .binOp op _ x' y' _ => b.okB k M h op && x.ok P S x' && y.ok P S y' | _ => false
 | .sh b k M h bits x y => match o.op with | .binOp op _ x' y' _ => b.okB k M h bits op && x.ok P S x' && y.ok P S y' | _ => false
 | .un .not x => match o.op with | .unOp .not _ x' => x.ok P S x' | _ => false
 | .un (.neg k M) x => match o.op with | .unOp .neg _ x' => Nat.ble (k + 1) 8 && Nat.beq M (2 ^ (kindOf k).bits) && x.ok P S x' | _ => false
 | .un (.conv k M) x => match o.op with | .convert t t' x' => (P.underlying t).isSome && decide (intOf P t' = some (kindOf k)) && Nat.ble (k + 1) 8 && Nat.beq M (2 ^ (kindOf k).bits) && x.ok P S x' | _ => false
 | .un (.tas t Z) x => match o.op with | .typeAssert x' _ t' true => Nat.beq t t' && decide (isIface P t' = some false) && (match zeroOf P t' with | some zv => litB Z zv | none => false) && x.ok P S x' | _ => false
 | .un (.i2f k h) x => match o.op with | .convert t t' x' => (P.underlying t).isSome && isF64 P t' && Nat.ble (k + 1) 8 && Nat.beq h (if (kindOf k).signed then 2 ^ ((kindOf k).bits - 1) else 2 ^ (kindOf k).bits) && x.ok P S x' | _ => false
 | .un .f2i x => match o.op with | .convert t t' x' => isF64 P t && decide (intOf P t' = some .i64) && x.ok P S x' | _ => false
 | .fbin b x y => match o.op with
  | .binOp op _ x' y' _ => (match b, op with | .eq, .eql | .ne, .neq | .lt, .lss | .le, .leq | .gt, .gtr | .ge, .geq | .add, .add | .sub, .sub | .mul, .mul | .div, .quo => true | _, _ => false) && x.ok P S x' && y.ok P S y'
  | _ => false
 | .str b x y => match o.op with
  | .binOp op _ x' y' _ => (match b, op with | .cat, .add | .eq, .eql | .ne, .neq | .lt, .lss => true | _, _ => false) && x.ok P S x' && y.ok P S y'
  | _ => false
 | .idxS x y => match o.op with | .index t x' y' => isStr P t && x.ok P S x' && y.ok P S y' | _ => false
 | .slS x lo hi => match o.op with | .slice t x' lo' hi' none => isStr P t && x.ok P S x' && KO.okO P S lo lo' && KO.okO P S hi hi' | _ => false
 | .binB ne x y => match o.op with | .binOp op t x' y' _ => isBool P t && eqB ne op && x.ok P S x' && y.ok P S y' | _ => false
 | .eqC ks ne x y => match o.op with
  | .binOp op t x' y' _ => eqB ne op && decide (flatOf P 20 t = some ks) && decide (aggOf P t ≠ some none) && !(P.eqGuardType P.depth t) && x.ok P S x' && y.ok P S y'
  | _ => false
 | .eqR k ne x y => match o.op with | .binOp op t x' y' _ => eqB ne op && (decide (refKind P t = some k) || (Nat.beq k 6 && decide (refKind P t = some 4) && (isC x' || isC y'))) && x.ok P S x' && y.ok P S y' | _ => false
 | .app sz bytes x y => match o.op with
  | .call { callee := .builtin .append, args := ⟨[x', y']⟩, argTypes := ⟨[t, t']⟩ } => Nat.beq t t' && (match elemOf P t with | some el => elemB P el sz bytes none | none => false) && x.ok P S x' && y.ok P S y'
  | _ => false
 | .mn k M h x y => match o.op with | .call { callee := .builtin .min, args := ⟨[x', y']⟩, argTypes := _ } => Nat.ble (k + 1) 8 && Nat.beq M (2 ^ (kindOf k).bits) && Nat.beq h (if (kindOf k).signed then 2 ^ ((kindOf k).bits - 1) else 0) && x.ok P S x' && y.ok P S y' | _ => false
 | .len k x => match o.op with | .call { callee := .builtin .len, args := ⟨[x']⟩, argTypes := ⟨[t]⟩ } => decide (lenKind P t = some k) && x.ok P S x' | _ => false
 | .cap _ x => match o.op with | .call { callee := .builtin .cap, args := ⟨[x']⟩, argTypes := ⟨[t]⟩ } => (elemOf P t).isSome && x.ok P S x' | _ => false
 | .mks bytes Z x y => match o.op with | .makeSlice t x' y' => (match elemOf P t with | some el => elemB P el Z.length bytes (some Z) | none => false) && x.ok P S x' && y.ok P S y' | _ => false
 | .appZ bytes sz Z x y => match o.op with
  | .call { callee := .builtin .append, args := ⟨[x', y']⟩, argTypes := ⟨[t, u]⟩ } => (intOf P u).isSome && (match elemOf P t with | some el => elemB P el sz bytes (some Z) | none => false) && x.ok P S x' && y.ok P S y'
  | _ => false
 | .look c Z ok x y => match o.op with
  | .lookup t x' y' ok' => (ok == ok') && (match mapOf P t with | some (kt, el) => c.okB P kt && (match zeroOf P el with | some zv => litB Z zv | none => false) | none => false) && x.ok P S x' && y.ok P S y'
  | _ => false
 | .mapu c x y z => match o.op with
  | .mapUpdate t x' y' z' => (match mapOf P t with | some (kt, _) => c.okB P kt | none => false) && x.ok P S x' && y.ok P S y' && z.ok P S z'
  | .insert t x' y' z' => (match mapOf P t with | some (kt, _) => c.okB P kt | none => false) && x.ok P S x' && y.ok P S y' && z.ok P S z'
  | _ => false
 | .mpe c Z x y => match o.op with
  | .mapEntry t x' y' => (match mapOf P t with | some (kt, el) => c.okB P kt && (match zeroOf P el with | some zv => litB Z zv | none => false) | none => false) && x.ok P S x' && y.ok P S y'
  | _ => false
 | .mps x s z => match o.op with | .entryStore _ x' s' z' => x.ok P S x' && s.ok P S s' && z.ok P S z' | _ => false
 | .pan x => match o.op with | .panic x' => x.ok P S x' | _ => false
 | .call f xs => callB P S o (.f f) xs
 | .callv x xs => callB P S o x xs
 | .unk => true
 | .s2b x => match o.op with
  | .convert t t' x' => (match elemOf P t' with | some el => decide (intOf P el = some .u8) | none => false) && isStr P t && x.ok P S x'
  | _ => false
 | .b2s x => match o.op with
  | .convert t t' x' => (match elemOf P t with | some el => decide (intOf P el = some .u8) | none => false) && isStr P t' && x.ok P S x'
  | _ => false
end
end Go.Ab
namespace Go.Ab
open Go
noncomputable section
variable {S : BT Nat}
theorem callB_snd {P : Program} {o : Oper} {f : KO} {xs : List KO} (h : callB P S o f xs = true) : ∃ g args argTypes, o.op = .call { callee := .value g, args, argTypes } ∧ OpndOk P S g f.den ∧ OpndsOk P S args.toList (KO.dens xs) := by
 unfold callB at h
 split at h
 · rename_i g args at' heq
   simp only [Bool.and_eq_true] at h
   exact ⟨g, args, at', heq, KO.ok_spec h.1, KO.oks_spec h.2⟩
 · cases h
theorem call_op_snd {P : Program} {F : Fs} (hF : FsOk P F) {o : Oper} {f : KO} {xs : List KO} (h : callB P S o f xs = true) (en : Env) (H : AHeap) {n : Nat} {A C : List AV} (hf : f.den en = .x (.fn n A C)) :
  OSnd P S o en H (F n (A ++ (evalL (KO.dens xs) en ++ C)) H) := by
 obtain ⟨g, args, argTypes, ho, hg, hxs⟩ := callB_snd h
 refine call_snd _ (hF n _ H) fun N D e w a hr ha => ?_
 have h1 := hg N D e en a H w hr ha
 rw [hf] at h1
 generalize hgv : a.eval g = gv at h1
 cases h1
 rename_i A' C' hA hC
 have h2 := hxs.rel hr ha
 refine ⟨A' ++ (args.toList.map a.eval ++ C'), hA.append (h2.append hC), ?_⟩
 rw [exec_call ho a.eval hgv w]
 congr 2
 apply Array.ext'
 simp
theorem KOp.ok_snd {P : Program} {F : Fs} (hF : FsOk P F) {o : Oper} : ∀ {k : KOp}, k.ok P S o = true → ∀ (en : Env) (H : AHeap), OSnd P S o en H (k.den F en H) := by
 intro k h en H
 cases k with
 | move x =>
  simp only [KOp.ok] at h
  split at h
  · exact opMove_snd (.inl ‹_›) (KO.ok_spec h) en H
  · exact opMove_snd (.inr ‹_›) (KO.ok_spec h) en H
  · cases h
 | pick c x y =>
  simp only [KOp.ok] at h
  split at h
  · simp only [Bool.and_eq_true] at h
    exact opPick_snd ‹_› (KO.ok_spec h.1.1) (KO.ok_spec h.1.2) (KO.ok_spec h.2) en H
  · cases h
 | load1 x =>
  simp only [KOp.ok] at h
  split at h
  · simp only [Bool.and_eq_true, decide_eq_true_eq] at h
    exact opLoad1_snd ‹_› h.1 (KO.ok_spec h.2) en H
  · cases h
 | loadN n x =>
  simp only [KOp.ok] at h
  split at h
  · simp only [Bool.and_eq_true, decide_eq_true_eq] at h
    exact opLoadN_snd ‹_› h.1 (KO.ok_spec h.2) en H
  · cases h
 | store n x y =>
  simp only [KOp.ok] at h
  split at h
  · simp only [Bool.and_eq_true, decide_eq_true_eq] at h
    exact opStore_snd ‹_› h.1.1 (KO.ok_spec h.1.2) (KO.ok_spec h.2) en H
  · cases h
 | alloc Z =>
  simp only [KOp.ok] at h
  split at h
  · obtain ⟨zv, h1, h2⟩ := zeroB_spec h
    exact opAlloc_snd ‹_› h1 h2 en H
  · cases h
 | box x =>
  simp only [KOp.ok] at h
  split at h
  · exact opBox_snd ‹_› (KO.ok_spec h) en H
  · cases h
 | build Z ps =>
  simp only [KOp.ok] at h
  split at h
  · simp only [Bool.and_eq_true, Bool.or_eq_true] at h
    obtain ⟨zv, h1, h2⟩ := zeroB_spec h.1.1
    rcases h.1.2 with h3 | h3
    · exact opBuild_struct_snd ‹_› h1 h2 h3 (KO.okPs_spec h.2) en H
    · exact opBuild_array_snd ‹_› h1 h2 h3 (KO.okPs_spec h.2) en H
  · cases h
 | bslice n ln ps =>
  simp only [KOp.ok] at h
  split at h
  · rename_i t len' parts ho
    split at h
    · rename_i el hel
      split at h
      · rename_i sz hsz
        simp only [Bool.and_eq_true, ble_tt, beq_tt] at h
        obtain ⟨⟨⟨⟨h1, h2⟩, h3⟩, h4⟩, h5⟩ := h
        subst h2
        exact opBuildSlice_snd ho (elemOf_spec hel) hsz h1 h3 h4 (KO.okPs_spec h5) en H
      · cases h
    · cases h
  · cases h
 | fa off x =>
  simp only [KOp.ok] at h
  split at h
  · simp only [Bool.and_eq_true, decide_eq_true_eq] at h
    exact opFieldAddr_snd ‹_› h.1 (KO.ok_spec h.2) en H
  · cases h
 | nilc x =>
  simp only [KOp.ok] at h
  split at h
  · exact opNilCheck_snd ‹_› (KO.ok_spec h) en H
  · cases h
 | ia sz x y =>
  simp only [KOp.ok] at h
  split at h
  · split at h
    · rename_i el hel
      simp only [Bool.and_eq_true, decide_eq_true_eq] at h
      exact opIndexAddr_snd ‹_› (elemOf_spec hel) h.1.1 (KO.ok_spec h.1.2) (KO.ok_spec h.2) en H
    · cases h
  · cases h
 | iaA ln sz x y =>
  simp only [KOp.ok] at h
  split at h
  · split at h
    · rename_i n el hel
      simp only [Bool.and_eq_true, decide_eq_true_eq, beq_tt] at h
      obtain ⟨⟨⟨h1, h2⟩, h3⟩, h4⟩ := h
      subst h1
      exact opIndexAddrA_snd ‹_› (arrOf_spec hel) h2 (KO.ok_spec h3) (KO.ok_spec h4) en H
    · cases h
  · cases h
 | ext k x =>
  simp only [KOp.ok] at h
  split at h
  · simp only [Bool.and_eq_true, beq_tt] at h
    obtain ⟨h1, h2⟩ := h
    subst h1
    exact opExtract_snd ‹_› (KO.ok_spec h2) en H
  · cases h
 | fld1 off x =>
  simp only [KOp.ok] at h
  split at h
  · split at h
    · rename_i off' ft hf
      simp only [Bool.and_eq_true, decide_eq_true_eq, beq_tt] at h
      obtain ⟨⟨h1, h2⟩, h3⟩ := h
      subst h1
      exact opField1_snd ‹_› hf h2 (KO.ok_spec h3) en H
    · cases h
  · cases h
 | fldN off n x =>
  simp only [KOp.ok] at h
  split at h
  · split at h
    · rename_i off' ft hf
      simp only [Bool.and_eq_true, decide_eq_true_eq, beq_tt] at h
      obtain ⟨⟨h1, h2⟩, h3⟩ := h
      subst h1
      exact opFieldN_snd ‹_› hf h2 (KO.ok_spec h3) en H
    · cases h
  · cases h
 | ifc t x =>
  simp only [KOp.ok] at h
  split at h
  · simp only [Bool.and_eq_true, decide_eq_true_eq, beq_tt] at h
    obtain ⟨⟨h1, h2⟩, h3⟩ := h
    subst h1
    exact opMakeInterface_snd ‹_› h2 (KO.ok_spec h3) en H
  · cases h
 | mkf f xs ys =>
  simp only [KOp.ok] at h
  split at h
  · simp only [Bool.and_eq_true, beq_tt] at h
    obtain ⟨⟨h1, h2⟩, h3⟩ := h
    subst h1
    exact opMakeFunc_snd ‹_› (KO.oks_spec h2) (KO.oks_spec h3) en H
  · cases h
 | mkm =>
  simp only [KOp.ok] at h
  split at h
  · exact opMakeMap_snd ‹_› en H
  · cases h
 | sl sz x lo hi mx =>
  simp only [KOp.ok] at h
  split at h
  · rename_i t x' lo' hi' mx' ho
    split at h
    · rename_i el hel
      simp only [Bool.and_eq_true, decide_eq_true_eq] at h
      obtain ⟨⟨⟨⟨⟨h1, h2⟩, h3⟩, h4⟩, h5⟩, h6⟩ := h
      refine opSlice_snd ho (elemOf_spec hel) h1 (KO.ok_spec h2) (KO.okO_spec h3) (KO.okO_spec h4) (KO.okO_spec h5) ?_ en H
      intro hm hh
      subst hh
      cases mx' with
      | none => exact hm rfl
      | some m => simp at h6
    · cases h
  · cases h
 | slA n sz x lo hi mx =>
  simp only [KOp.ok] at h
  split at h
  · rename_i t x' lo' hi' mx' ho
    split at h
    · rename_i n' el hel
      simp only [Bool.and_eq_true, decide_eq_true_eq, beq_tt] at h
      obtain ⟨⟨⟨⟨⟨⟨h0, h1⟩, h2⟩, h3⟩, h4⟩, h5⟩, h6⟩ := h
      subst h0
      refine opSliceA_snd ho (arrOf_spec hel) h1 (KO.ok_spec h2) (KO.okO_spec h3) (KO.okO_spec h4) (KO.okO_spec h5) ?_ en H
      intro hm hh
      subst hh
      cases mx' with
      | none => exact hm rfl
      | some m => simp at h6
    · cases h
  · cases h
 | bin b k M hf x y =>
  simp only [KOp.ok] at h
  split at h
  · simp only [Bool.and_eq_true] at h
    exact opBinG_snd ‹_› (KBin.okB_spec h.1.1) (KBin.okB_rng h.1.1) (KO.ok_spec h.1.2) (KO.ok_spec h.2) en H
  · cases h
 | sh b k M hf bits x y =>
  simp only [KOp.ok] at h
  split at h
  · simp only [Bool.and_eq_true] at h
    exact opShift_snd ‹_› (KSh.okB_spec h.1.1) (KO.ok_spec h.1.2) (KO.ok_spec h.2) en H
  · cases h
 | un u x =>
  cases u with
  | not =>
   simp only [KOp.ok] at h
   split at h
   · exact uNot_snd ‹_› (KO.ok_spec h) en H
   · cases h
  | neg k M =>
   simp only [KOp.ok] at h
   split at h
   · simp only [Bool.and_eq_true, ble_tt, beq_tt] at h
     exact uNegG_snd ‹_› (by omega) h.1.2 (KO.ok_spec h.2) en H
   · cases h
  | conv k M =>
   simp only [KOp.ok] at h
   split at h
   · simp only [Bool.and_eq_true, ble_tt, beq_tt, decide_eq_true_eq] at h
     obtain ⟨⟨⟨⟨h1, h2⟩, h3⟩, h4⟩, h5⟩ := h
     exact uConv_snd ‹_› (Option.isSome_iff_exists.1 h1) (intOf_spec h2) (by omega) h4 halfT_eq modT_eq (KO.ok_spec h5) en H
   · cases h
  | tas t Z =>
   simp only [KOp.ok] at h
   split at h
   · simp only [Bool.and_eq_true, beq_tt, decide_eq_true_eq] at h
     obtain ⟨⟨⟨h1, h2⟩, h3⟩, h4⟩ := h
     subst h1
     split at h3
     · rename_i zv hz
       exact uTas_snd ‹_› h2 hz (litB_spec h3) (KO.ok_spec h4) en H
     · cases h3
   · cases h
  | i2f k hh =>
   simp only [KOp.ok] at h
   split at h
   · simp only [Bool.and_eq_true, ble_tt, beq_tt] at h
     obtain ⟨⟨⟨⟨h1, h2⟩, h3⟩, h4⟩, h5⟩ := h
     obtain ⟨d, hd⟩ := Option.isSome_iff_exists.1 h1
     exact uI2F_snd ‹_› hd (isF64_spec h2) (fun n hn => wrap_pos k n hh (by omega) h4 hn) (KO.ok_spec h5) en H
   · cases h
  | f2i =>
   simp only [KOp.ok] at h
   split at h
   · simp only [Bool.and_eq_true, decide_eq_true_eq] at h
     obtain ⟨⟨h1, h2⟩, h3⟩ := h
     exact uF2I_snd ‹_› (isF64_spec h1) (intOf_spec h2) (KO.ok_spec h3) en H
   · cases h
 | fbin b x y =>
  simp only [KOp.ok] at h
  split at h
  · rename_i op t x' y' t2 ho
    simp only [Bool.and_eq_true] at h
    obtain ⟨⟨h1, h2⟩, h3⟩ := h
    have hb : BinFOk P op t b.den := by
     revert h1
     cases b <;> cases op <;> intro h1 <;> first
      | (cases h1; done)
      | exact fEq_ok P t
      | exact fNe_ok P t
      | exact fLt_ok P t
      | exact fLe_ok P t
      | exact fGt_ok P t
      | exact fGe_ok P t
      | exact fAdd_ok P t
      | exact fSub_ok P t
      | exact fMul_ok P t
      | exact fDiv_ok P t
    exact opBinF_snd ho hb (KO.ok_spec h2) (KO.ok_spec h3) en H
  · cases h
 | str b x y =>
  simp only [KOp.ok] at h
  split at h
  · rename_i op t x' y' t2 ho
    simp only [Bool.and_eq_true] at h
    obtain ⟨⟨h1, h2⟩, h3⟩ := h
    have hb : BinSOk P op t b.den := by
     revert h1
     cases b <;> cases op <;> intro h1 <;> first
      | (cases h1; done)
      | exact sCat_ok P t
      | exact sEq_ok P t
      | exact sNe_ok P t
      | exact sLt_ok P t
    exact opBinS_snd ho hb (KO.ok_spec h2) (KO.ok_spec h3) en H
  · cases h
 | idxS x y =>
  simp only [KOp.ok] at h
  split at h
  · simp only [Bool.and_eq_true] at h
    exact opIndexS_snd ‹_› (isStr_spec h.1.1) (KO.ok_spec h.1.2) (KO.ok_spec h.2) en H
  · cases h
 | slS x lo hi =>
  simp only [KOp.ok] at h
  split at h
  · simp only [Bool.and_eq_true] at h
    exact opSliceS_snd ‹_› (isStr_spec h.1.1.1) (KO.ok_spec h.1.1.2) (KO.okO_spec h.1.2) (KO.okO_spec h.2) en H
  · cases h
 | binB ne x y =>
  simp only [KOp.ok] at h
  split at h
  · simp only [Bool.and_eq_true] at h
    obtain ⟨⟨⟨h1, h2⟩, h3⟩, h4⟩ := h
    refine opBinB_snd ‹_› (isBool_spec h1) ?_ (KO.ok_spec h3) (KO.ok_spec h4) en H
    rcases eqB_spec h2 with ⟨rfl, rfl⟩ | ⟨rfl, rfl⟩
    · exact .inl ⟨rfl, rfl⟩
    · exact .inr ⟨rfl, rfl⟩
  · cases h
 | eqC ks ne x y =>
  simp only [KOp.ok] at h
  split at h
  · simp only [Bool.and_eq_true, decide_eq_true_eq, Bool.not_eq_true'] at h
    obtain ⟨⟨⟨⟨⟨h1, h2⟩, h3⟩, h4⟩, h5⟩, h6⟩ := h
    exact opEqC_snd ‹_› (eqB_spec h1) h2 h3 (by omega) h4 (KO.ok_spec h5) (KO.ok_spec h6) en H
  · cases h
 | eqR k ne x y =>
  simp only [KOp.ok] at h
  split at h
  · rw [Bool.and_eq_true, Bool.and_eq_true, Bool.and_eq_true, Bool.or_eq_true] at h
    obtain ⟨⟨⟨h1, h2⟩, h3⟩, h4⟩ := h
    rcases h2 with h2 | h2
    · exact opEqR_snd ‹_› (eqB_spec h1) (by simpa using h2) (KO.ok_spec h3) (KO.ok_spec h4) en H
    · rw [Bool.and_eq_true, Bool.and_eq_true] at h2
      obtain ⟨⟨g1, g2⟩, g3⟩ := h2
      have := Nat.eq_of_beq_eq_true g1
      subst this
      exact opEqR6_snd ‹_› (eqB_spec h1) (by simpa using g2) g3 (KO.ok_spec h3) (KO.ok_spec h4) en H
  · cases h
 | app sz bytes x y =>
  simp only [KOp.ok] at h
  split at h
  · simp only [Bool.and_eq_true, beq_tt] at h
    obtain ⟨⟨⟨h1, h2⟩, h3⟩, h4⟩ := h
    subst h1
    split at h2
    · rename_i el hel
      obtain ⟨i, z, q1, q2, q3, q4, q5, q6, q7, _⟩ := elemB_spec h2
      exact opAppendF_snd ‹_› (elemOf_spec hel) q1 q4 q5 q2 q3 q6 q7 (KO.ok_spec h3) (KO.ok_spec h4) en H
    · cases h2
  · cases h
 | mn k M hf x y =>
  simp only [KOp.ok] at h
  split at h
  · simp only [Bool.and_eq_true, ble_tt, beq_tt] at h
    exact opMin_snd ‹_› (by omega) h.1.1.1.2 h.1.1.2 (KO.ok_spec h.1.2) (KO.ok_spec h.2) en H
  · cases h
 | len k x =>
  simp only [KOp.ok] at h
  split at h
  · simp only [Bool.and_eq_true, decide_eq_true_eq] at h
    exact opLen_snd ‹_› h.1 (KO.ok_spec h.2) en H
  · cases h
 | cap sz x =>
  simp only [KOp.ok] at h
  split at h
  · simp only [Bool.and_eq_true] at h
    obtain ⟨el, hel⟩ := Option.isSome_iff_exists.1 h.1
    exact opCap_snd ‹_› (elemOf_spec hel) (KO.ok_spec h.2) en H
  · cases h
 | mks bytes Z x y =>
  simp only [KOp.ok] at h
  split at h
  · simp only [Bool.and_eq_true] at h
    obtain ⟨⟨h2, h3⟩, h4⟩ := h
    split at h2
    · rename_i el hel
      obtain ⟨i, z, q1, q2, q3, q4, q5, q6, q7, q8⟩ := elemB_spec h2
      exact opMakeSlice_snd ‹_› (elemOf_spec hel) q1 q2 q5 q7 (q4.trans q3.symm) (by omega) (q8 Z rfl) (KO.ok_spec h3) (KO.ok_spec h4) en H
    · cases h2
  · cases h
 | appZ bytes sz Z x y =>
  simp only [KOp.ok] at h
  split at h
  · simp only [Bool.and_eq_true] at h
    obtain ⟨⟨⟨h1, h2⟩, h3⟩, h4⟩ := h
    obtain ⟨K, hK⟩ := Option.isSome_iff_exists.1 h1
    split at h2
    · rename_i el hel
      obtain ⟨i, z, q1, q2, q3, q4, q5, q6, q7, q8⟩ := elemB_spec h2
      exact opAppendZ_snd ‹_› (elemOf_spec hel) (intOf_spec hK) q1 q2 q5 q7 (q4.trans q3.symm) q4 (by omega) (q8 Z rfl) (KO.ok_spec h3) (KO.ok_spec h4) en H
    · cases h2
  · cases h
 | look c Z ok x y =>
  simp only [KOp.ok] at h
  split at h
  · rename_i t x' y' ok' ho
    simp only [Bool.and_eq_true, beq_iff_eq] at h
    obtain ⟨⟨⟨h1, h2⟩, h3⟩, h4⟩ := h
    subst h1
    split at h2
    · rename_i kt el hm
      simp only [Bool.and_eq_true] at h2
      obtain ⟨q1, q2, q3⟩ := KCmp.okB_spec h2.1
      have h5 := h2.2
      split at h5
      · rename_i zv hz
        exact opLookup_snd ho (mapOf_spec hm) q1 q2 q3 hz (litB_spec h5) (KO.ok_spec h3) (KO.ok_spec h4) en H
      · cases h5
    · cases h2
  · cases h
 | mapu c x y z =>
  simp only [KOp.ok] at h
  split at h
  · rename_i t x' y' z' ho
    simp only [Bool.and_eq_true] at h
    obtain ⟨⟨⟨h2, h3⟩, h4⟩, h5⟩ := h
    split at h2
    · rename_i kt el hm
      obtain ⟨q1, q2, q3⟩ := KCmp.okB_spec h2
      exact opMapUpdate_snd (.inl ho) (mapOf_spec hm) q1 q2 q3 (KO.ok_spec h3) (KO.ok_spec h4) (KO.ok_spec h5) en H
    · cases h2
  · rename_i t x' y' z' ho
    simp only [Bool.and_eq_true] at h
    obtain ⟨⟨⟨h2, h3⟩, h4⟩, h5⟩ := h
    split at h2
    · rename_i kt el hm
      obtain ⟨q1, q2, q3⟩ := KCmp.okB_spec h2
      exact opMapUpdate_snd (.inr ho) (mapOf_spec hm) q1 q2 q3 (KO.ok_spec h3) (KO.ok_spec h4) (KO.ok_spec h5) en H
    · cases h2
  · cases h
 | mpe c Z x y =>
  simp only [KOp.ok] at h
  split at h
  · rename_i t x' y' ho
    simp only [Bool.and_eq_true] at h
    obtain ⟨⟨h2, h3⟩, h4⟩ := h
    split at h2
    · rename_i kt el hm
      simp only [Bool.and_eq_true] at h2
      obtain ⟨q1, q2, q3⟩ := KCmp.okB_spec h2.1
      have h5 := h2.2
      split at h5
      · rename_i zv hz
        exact opMapEntry_snd ho (mapOf_spec hm) q1 q2 q3 hz (litB_spec h5) (KO.ok_spec h3) (KO.ok_spec h4) en H
      · cases h5
    · cases h2
  · cases h
 | mps x s z =>
  simp only [KOp.ok] at h
  split at h
  · simp only [Bool.and_eq_true] at h
    obtain ⟨⟨h2, h3⟩, h4⟩ := h
    exact opEntryStore_snd ‹_› (KO.ok_spec h2) (KO.ok_spec h3) (KO.ok_spec h4) en H
  · cases h
 | pan x =>
  simp only [KOp.ok] at h
  split at h
  · exact opPan_snd ‹_› (KO.ok_spec h) en H
  · cases h
 | call f xs =>
  have := call_op_snd hF h en H (n := f) (A := []) (C := []) rfl
  show OSnd P S o en H (F f (evalL (KO.dens xs) en) H)
  simpa using this
 | unk => trivial
 | s2b x =>
  simp only [KOp.ok] at h
  split at h
  · simp only [Bool.and_eq_true] at h
    obtain ⟨⟨h1, h2⟩, h3⟩ := h
    split at h1
    · rename_i el hel
      exact opS2B_snd ‹_› (isStr_spec h2) (elemOf_spec hel) (intOf_spec (by simpa using h1)) (KO.ok_spec h3) en H
    · cases h1
  · cases h
 | b2s x =>
  simp only [KOp.ok] at h
  split at h
  · simp only [Bool.and_eq_true] at h
    obtain ⟨⟨h1, h2⟩, h3⟩ := h
    split at h1
    · rename_i el hel
      exact opB2S_snd ‹_› (elemOf_spec hel) (intOf_spec (by simpa using h1)) (isStr_spec h2) (KO.ok_spec h3) en H
    · cases h1
  · cases h
 | callv x xs =>
  show OSnd P S o en H (callV F (x.den en) (evalL (KO.dens xs) en) H)
  unfold callV
  cases hx : x.den en with
  | x u =>
   cases u with
   | fn f A C => exact call_op_snd hF h en H hx
   | _ => trivial
  | _ => trivial
end
end Go.Ab
namespace Go.Ab
open Go
inductive Res where
 | nrm (en : Env) (H : AHeap)
 | ext (id : Nat) (en : Env) (H : AHeap)
 | ret (en : Env) (H : AHeap)
 | pan (v : AV) (H : AHeap)
 | fail
inductive KE where
 | l (d : Nat) (k : KOp)
 | p (d : VP) (k : KOp)
 | n (k : KOp)
 | gl (c : KO) (b : Bool) (d : Nat) (k : KOp)
 | gp (c : KO) (b : Bool) (d : VP) (k : KOp)
 | gn (c : KO) (b : Bool) (k : KOp)
noncomputable section
variable {S : BT Nat}
def oRes (r : ORes) (f : AV → AHeap → Res) : Res := ORes.rec (motive := fun _ => Res) f .pan .fail r
def gRun (skip run : Res) (b : Bool) (v : AV) : Res :=
 AVp.rec (motive := fun _ => Res) (fun _ _ => .fail) (fun t => Bool.rec (motive := fun _ => Res) skip run (bEq t b)) (fun _ _ => .fail) (fun _ _ => .fail) (fun _ _ _ _ => .fail)
  (fun x => axTup .fail (fun l => List.rec (motive := fun _ => Res) skip (fun _ _ _ => .fail) l) x) v
theorem gRun_spec {skip run : Res} {b : Bool} {v : AV} (h : gRun skip run b v ≠ .fail) : (∃ t, v = .b t ∧ gRun skip run b v = Bool.rec (motive := fun _ => Res) skip run (bEq t b)) ∨ (v = .x (.tup []) ∧ gRun skip run b v = skip) := by
 cases v with
 | b t => exact .inl ⟨t, rfl, rfl⟩
 | x u =>
  cases u with
  | tup l =>
   cases l with
   | nil => exact .inr ⟨rfl, rfl⟩
   | cons => exact absurd rfl h
  | _ => exact absurd rfl h
 | _ => exact absurd rfl h
def KE.denT (x : KE) : Fs → (Env → AHeap → Res) → Env → AHeap → Res :=
 KE.rec (motive := fun _ => Fs → (Env → AHeap → Res) → Env → AHeap → Res)
  (fun d k F ih en H => oRes (k.den F en H) (fun v H' => ih ⟨.cons d v en.loc, en.B⟩ H'))
  (fun d k F ih en H => oRes (k.den F en H) (fun v H' => ih ⟨en.loc, d.put v en.B⟩ H'))
  (fun k F ih en H => oRes (k.den F en H) (fun _ H' => ih en H'))
  (fun c b d k F ih en H => gRun (ih ⟨.cons d undefA en.loc, en.B⟩ H) (oRes (k.den F en H) (fun v H' => ih ⟨.cons d v en.loc, en.B⟩ H')) b (c.den en))
  (fun c b d k F ih en H => gRun (ih ⟨en.loc, d.put undefA en.B⟩ H) (oRes (k.den F en H) (fun v H' => ih ⟨en.loc, d.put v en.B⟩ H')) b (c.den en))
  (fun c b k F ih en H => gRun (ih en H) (oRes (k.den F en H) (fun _ H' => ih en H')) b (c.den en)) x
def KE.den (F : Fs) (x : KE) (ih : Env → AHeap → Res) : Env → AHeap → Res := x.denT F ih
def runE (F : Fs) (l : List KE) : Env → AHeap → Res := List.rec (motive := fun _ => Env → AHeap → Res) .nrm (fun x _ ih => x.den F ih) l
def KE.wr (x : KE) (q : VP) : Prop := match x with | .p d _ | .gp _ _ d _ => d = q | _ => False
def KE.ok (P : Program) (S : BT Nat) (n : Nat) (ops : Array Oper) (x : KE) (o : Oper) : Bool :=
 let loc (d : Nat) : Bool := match o.dst with | some d' => Nat.beq d d' && Nat.ble (d + 1) n && Nat.beq (countB d S) 0 | none => false
 let var (p : VP) : Bool := match o.dst with | some d' => (match p.at S with | some d => Nat.beq d d' | none => false) && Nat.ble (d' + 1) n && Nat.ble (countB d' S) 1 | none => false
 let grd (c : KO) (b : Bool) : Bool := match o.guard with | some (j, b') => (b == b') && (match (ops[j]?).bind (·.dst) with | some t => Nat.ble (t + 1) n && c.ok P S (.tmp t) | none => false) | none => false
 match x with
 | .l d k => loc d && o.guard.isNone && k.ok P S o
 | .p d k => var d && o.guard.isNone && k.ok P S o
 | .n k => o.dst.isNone && o.guard.isNone && k.ok P S o
 | .gl c b d k => loc d && grd c b && k.ok P S o
 | .gp c b d k => var d && grd c b && k.ok P S o
 | .gn c b k => o.dst.isNone && grd c b && k.ok P S o
def Fits (P : Program) (S : BT Nat) (n : Nat) (D : DF) (e : Emb) (H : AHeap) (w : World) : Res → Exit → Act → World → Prop
 | .nrm en' H', X, a', w' => X = .normal ∧ ∃ e', ARel S n D e' en' a' ∧ Evo P.globals.size e H w e' H' w'
 | .ext id en' H', X, a', w' => X = .exit id ∧ ∃ e', ARel S n D e' en' a' ∧ Evo P.globals.size e H w e' H' w'
 | .ret en' H', X, a', w' => X = .ret ∧ ∃ e', ARel S n D e' en' a' ∧ Evo P.globals.size e H w e' H' w'
 | .pan v H', X, a', w' => ∃ e' v', X = .panic [⟨v', false, false⟩] ∧ (∃ en', ARel S n D e' en' a') ∧ VRel e' v v' ∧ Evo P.globals.size e H w e' H' w'
 | .fail, _, _, _ => False
theorem Fits.trans {P : Program} {n : Nat} {D : DF} {e e1 : Emb} {H H1 : AHeap} {w w1 : World} (h : Evo P.globals.size e H w e1 H1 w1) : ∀ {r : Res} {X : Exit} {a' : Act} {w' : World}, Fits P S n D e1 H1 w1 r X a' w' → Fits P S n D e H w r X a' w'
 | .nrm _ _, _, _, _, ⟨hX, e', ha, hv⟩ => ⟨hX, e', ha, h.trans hv⟩
 | .ext _ _ _, _, _, _, ⟨hX, e', ha, hv⟩ => ⟨hX, e', ha, h.trans hv⟩
 | .ret _ _, _, _, _, ⟨hX, e', ha, hv⟩ => ⟨hX, e', ha, h.trans hv⟩
 | .pan _ _, _, _, _, ⟨e', v', hX, ha, hr, hv⟩ => ⟨e', v', hX, ha, hr, h.trans hv⟩
 | .fail, _, _, _, hf => hf.elim
def CSnd (P : Program) (S : BT Nat) (n : Nat) (W : VP → Prop) (c : Code) (φ : Env → AHeap → Res) : Prop :=
 ∀ (D : DF), (∀ p, W p → D.free p) → ∀ (en : Env) (H : AHeap), φ en H ≠ .fail → ∀ e w a, Rel P.globals.size e H w → ARel S n D e en a → c.wp P (Fits P S n D e H w (φ en H)) a w
theorem op_wp {P : Program} {n : Nat} {D : DF} {o : Oper} {en : Env} {H : AHeap} {r : ORes} {f : AV → AHeap → Res} (hs : OSnd P S o en H r) (hne : oRes r f ≠ .fail) {e : Emb} {w : World} {a : Act} (hr : Rel P.globals.size e H w) (ha : ARel S n D e en a)
  {e0 : Emb} {H0 : AHeap} {w0 : World} (hev : Evo P.globals.size e0 H0 w0 e H w) {K : Act → World → Prop}
  (hK : ∀ v H', r = .v v H' → ∀ e' v' w', VRel e' v v' → Evo P.globals.size e H w e' H' w' → K (a.put o.dst v') w') : o.wp P a w K (Fits P S n D e0 H0 w0 (oRes r f)) := by
 cases r with
 | fail => exact absurd rfl hne
 | v v H' =>
  have h1 := hs n D e w a hr ha
  unfold Oper.wp at h1 ⊢
  have hnot : ∀ Q' : Exit → Act → World → Prop, ∀ R, o.upon P a (fun a' w' => ∃ e' v', a' = a.put o.dst v' ∧ VRel e' v v' ∧ Evo P.globals.size e H w e' H' w') (fun _ _ _ => False) R → o.upon P a K Q' R := by
   intro Q' R hR
   cases R with
   | ok nx w' =>
    cases nx <;> simp only [Oper.upon] at hR ⊢ <;> first
     | (obtain ⟨e', v', h1, h2, h3⟩ := hR
        rw [h1]
        exact hK v H' rfl e' v' w' h2 h3)
     | (refine Calls.mono hR fun E w'' hE => ?_
        cases E with
        | returned u =>
         obtain ⟨e', v', h1, h2, h3⟩ := hE
         have h4 : (a.put o.dst u) = (a.put o.dst v') := h1
         show K (a.put o.dst u) w''
         rw [h4]
         exact hK v H' rfl e' v' w'' h2 h3
        | panicked c => exact hE.elim
        | outgrown => obtain ⟨_, _, h⟩ := hE; exact h.elim)
     | (refine Rows.mono hR fun u w'' hE => ?_
        obtain ⟨e', v', h1, h2, h3⟩ := hE
        show K (a.put o.dst u) w''
        have h4 : (a.put o.dst u) = (a.put o.dst v') := h1
        rw [h4]
        exact hK v H' rfl e' v' w'' h2 h3)
   | halt x w' => cases x <;> simp only [Oper.upon] at hR
  exact hnot _ _ h1
 | pan v H' =>
  have h1 := hs n D e w a hr ha
  unfold Oper.wp at h1 ⊢
  have hfit : ∀ X w' e' v', X = Exit.panic [⟨v', false, false⟩] → VRel e' v v' → Evo P.globals.size e H w e' H' w' → Fits P S n D e0 H0 w0 (oRes (.pan v H') f) X a w' :=
   fun X w' e' v' q1 q3 q4 => ⟨e', v', q1, ⟨en, ha.mono q4.ext⟩, q3, hev.trans q4⟩
  revert h1
  generalize (execOp a.eval o).run P w = R
  intro h1
  cases R with
  | ok nx w' =>
   cases nx <;> simp only [Oper.upon] at h1 ⊢
   case enter g args =>
    refine Calls.mono h1 fun E w'' hE => ?_
    cases E with
    | returned u => exact hE.elim
    | panicked c =>
     obtain ⟨e', v', q1, _, q3, q4⟩ := hE
     exact hfit _ _ e' v' q1 q3 q4
    | outgrown => obtain ⟨_, _, _, _, h, _⟩ := hE; cases h
   case row r args => exact Rows.mono h1 fun _ _ hE => hE.elim
  | halt x w' =>
   cases x <;> simp only [Oper.upon] at h1 ⊢
   obtain ⟨e', v', q1, _, q3, q4⟩ := h1
   exact hfit _ _ e' v' q1 q3 q4
theorem yielded_of {ops : Array Oper} {a : Act} {n j t : Nat} {b : Bool} (hsz : a.tmps.size = n) (hj : (ops[j]?).bind (·.dst) = some t) (ht : t < n) (hv : a.eval (.tmp t) = .bool b) : yielded ops a.tmps j = some b := by
 unfold yielded
 rw [hj]
 have : a.tmps[t]? = some (.bool b) := by
  simp only [Act.eval, Array.getD_eq_getD_getElem?] at hv
  rw [Array.getElem?_eq_getElem (by omega)] at hv ⊢
  simpa using hv
 simp [this]
theorem wanted_none {o : Oper} (h : o.guard.isNone = true) (y : Nat → Option Bool) : Region.wanted o y = true := by
 unfold Region.wanted
 cases hg : o.guard with
 | none => rfl
 | some g => rw [hg] at h; cases h
theorem bEq_eq (p q : Bool) : bEq p q = (p == q) := by cases p <;> cases q <;> rfl
theorem wpOps_some {P : Program} {ops : Array Oper} {Q : Exit → Act → World → Prop} {i : Nat} {rest : List Nat} {a : Act} {w : World} {o : Oper} (ho : ops[i]? = some o) :
  wpOps P ops Q (i :: rest) a w = (if Region.wanted o (yielded ops a.tmps) then o.wp P a w (wpOps P ops Q rest) Q ∨ (o.asks P a w ∧ LetsOut Q) else wpOps P ops Q rest (a.put o.dst undef) w) := by
 simp only [wpOps, ho]
theorem reg_wp {P : Program} {F : Fs} (hF : FsOk P F) {n : Nat} {D : DF} {ops : Array Oper} {e0 : Emb} {H0 : AHeap} {w0 : World} :
  ∀ (l : List KE) (os : List Oper) (i : Nat), (∀ j, j < os.length → os[j]? = ops[i + j]?) → sameL (KE.ok P S n ops) l os = true → (∀ x ∈ l, ∀ q, x.wr q → D.free q) →
  ∀ (en : Env) (H : AHeap) (e : Emb) (w : World) (a : Act), runE F l en H ≠ .fail → Rel P.globals.size e H w → ARel S n D e en a → Evo P.globals.size e0 H0 w0 e H w →
   wpOps P ops (Fits P S n D e0 H0 w0 (runE F l en H)) (List.range' i os.length) a w
 | [], [], i, _, _, _, en, H, e, w, a, _, hr, ha, hev => ⟨rfl, e, ha, hev⟩
 | x :: l, o :: os, i, hos, hok, hfr, en, H, e, w, a, hne, hr, ha, hev => by
  simp only [sameL, Bool.and_eq_true] at hok
  obtain ⟨hx, hl⟩ := hok
  have ho : ops[i]? = some o := by have := hos 0 (by simp); simpa using this.symm
  have hos' : ∀ j, j < os.length → os[j]? = ops[i + 1 + j]? := fun j hj => by
   have := hos (j + 1) (by simpa using hj); rw [show i + 1 + j = i + (j + 1) by omega, ← this]; simp
  have ih := reg_wp hF (D := D) (e0 := e0) (H0 := H0) (w0 := w0) l os (i + 1) hos' hl (fun y hy => hfr y (List.mem_cons_of_mem _ hy))
  rw [List.length_cons, List.range'_succ, wpOps_some ho]
  have run : ∀ (k : KOp) (next : Env → AV → Env), k.ok P S o = true → runE F (x :: l) en H = oRes (k.den F en H) (fun v H' => runE F l (next en v) H') →
    (∀ e' v v', (∀ b i, e b = some i → e' b = some i) → VRel e' v v' → ARel S n D e' (next en v) (a.put o.dst v')) →
    o.wp P a w (wpOps P ops (Fits P S n D e0 H0 w0 (runE F (x :: l) en H)) (List.range' (i + 1) os.length)) (Fits P S n D e0 H0 w0 (runE F (x :: l) en H)) := by
   intro k next hk heq hput
   rw [heq] at hne ⊢
   refine op_wp (KOp.ok_snd hF hk en H) hne hr ha hev fun v H' hv e' v' w' hrel hevo => ?_
   rw [hv] at hne ⊢
   exact ih (next en v) H' e' w' _ hne hevo.rel (hput e' v v' hevo.ext hrel) (hev.trans hevo)
  have pass : ∀ (next : Env), runE F (x :: l) en H = runE F l next H → ARel S n D e next (a.put o.dst undef) →
    wpOps P ops (Fits P S n D e0 H0 w0 (runE F (x :: l) en H)) (List.range' (i + 1) os.length) (a.put o.dst undef) w := by
   intro next heq hput
   rw [heq] at hne ⊢
   exact ih next H e w _ hne hr hput hev
  have locput : ∀ d, (match o.dst with | some d' => Nat.beq d d' && Nat.ble (d + 1) n && Nat.beq (countB d S) 0 | none => false) = true →
    ∀ e' v v', (∀ b i, e b = some i → e' b = some i) → VRel e' v v' → ARel S n D e' ⟨.cons d v en.loc, en.B⟩ (a.put o.dst v') := by
   intro d hd e' v v' hext hv
   cases hdst : o.dst with
   | none => rw [hdst] at hd; cases hd
   | some d' =>
    rw [hdst] at hd
    simp only [Bool.and_eq_true, beq_tt, ble_tt] at hd
    obtain ⟨⟨rfl, h2⟩, h3⟩ := hd
    exact (ha.mono hext).put (by omega) h3 hv
  have varput : ∀ p : VP, D.free p → (match o.dst with | some d' => (match p.at S with | some d => Nat.beq d d' | none => false) && Nat.ble (d' + 1) n && Nat.ble (countB d' S) 1 | none => false) = true →
    ∀ e' v v', (∀ b i, e b = some i → e' b = some i) → VRel e' v v' → ARel S n D e' ⟨en.loc, p.put v en.B⟩ (a.put o.dst v') := by
   intro p hfp hd e' v v' hext hv
   cases hdst : o.dst with
   | none => rw [hdst] at hd; cases hd
   | some d' =>
    rw [hdst] at hd
    simp only [Bool.and_eq_true, ble_tt] at hd
    obtain ⟨⟨h1, h2⟩, h3⟩ := hd
    cases hp : p.at S with
    | none => rw [hp] at h1; cases h1
    | some d =>
     rw [hp] at h1
     have := Nat.eq_of_beq_eq_true h1
     subst this
     exact (ha.mono hext).putV (by omega) hp h3 hfp hv
  have noput : o.dst.isNone = true → ∀ e' v', (∀ b i, e b = some i → e' b = some i) → ARel S n D e' en (a.put o.dst v') := by
   intro hd e' v' hext
   cases hdst : o.dst with
   | none => exact ha.mono hext
   | some d' => rw [hdst] at hd; cases hd
  have hid : ∀ b i, e b = some i → e b = some i := fun _ _ h => h
  have guard : ∀ (c : KO) (b t : Bool), (match o.guard with | some (j, b') => (b == b') && (match (ops[j]?).bind (·.dst) with | some t => Nat.ble (t + 1) n && c.ok P S (.tmp t) | none => false) | none => false) = true →
    c.den en = .b t → Region.wanted o (yielded ops a.tmps) = bEq t b := by
   intro c b t hg hc
   cases hgd : o.guard with
   | none => rw [hgd] at hg; cases hg
   | some g =>
    obtain ⟨j, b'⟩ := g
    rw [hgd] at hg
    simp only [Bool.and_eq_true, beq_iff_eq] at hg
    obtain ⟨rfl, hg⟩ := hg
    cases hj : (ops[j]?).bind (·.dst) with
    | none => rw [hj] at hg; cases hg
    | some u =>
     rw [hj] at hg
     simp only [Bool.and_eq_true, ble_tt] at hg
     have h1 := KO.ok_spec hg.2 n D e en a H w hr ha
     rw [hc] at h1
     generalize hv : a.eval (.tmp u) = uv at h1
     cases h1
     have hy := yielded_of ha.size hj (by omega) hv
     unfold Region.wanted
     simp only [hgd, hy, bEq_eq]
     cases t <;> cases b <;> rfl
  have guardU : ∀ (c : KO) (b : Bool), (match o.guard with | some (j, b') => (b == b') && (match (ops[j]?).bind (·.dst) with | some t => Nat.ble (t + 1) n && c.ok P S (.tmp t) | none => false) | none => false) = true →
    c.den en = .x (.tup []) → Region.wanted o (yielded ops a.tmps) = false := by
   intro c b hg hc
   cases hgd : o.guard with
   | none => rw [hgd] at hg; cases hg
   | some g =>
    obtain ⟨j, b'⟩ := g
    rw [hgd] at hg
    simp only [Bool.and_eq_true, beq_iff_eq] at hg
    obtain ⟨rfl, hg⟩ := hg
    cases hj : (ops[j]?).bind (·.dst) with
    | none => rw [hj] at hg; cases hg
    | some u =>
     rw [hj] at hg
     simp only [Bool.and_eq_true, ble_tt] at hg
     have h1 := KO.ok_spec hg.2 n D e en a H w hr ha
     rw [hc] at h1
     generalize hv : a.eval (.tmp u) = uv at h1
     cases h1
     rename_i l' hl'
     have hun := hg.1
     cases hl'
     have hu : u < a.tmps.size := Nat.lt_of_lt_of_eq (Nat.lt_of_succ_le hun) ha.size.symm
     have hval : a.tmps[u]? = some (.tuple #[]) := by
      simp only [Act.eval, Array.getD_eq_getD_getElem?] at hv
      rw [Array.getElem?_eq_getElem hu] at hv ⊢
      simpa using hv
     unfold Region.wanted yielded
     simp only [hgd, hj, Option.bind_some, hval]
     rfl
  cases x with
  | l d k =>
   simp only [KE.ok, Bool.and_eq_true] at hx
   obtain ⟨⟨h1, h2⟩, h3⟩ := hx
   rw [wanted_none h2, if_pos rfl]
   exact .inl (run k (fun en v => ⟨.cons d v en.loc, en.B⟩) h3 rfl (locput d h1))
  | p d k =>
   simp only [KE.ok, Bool.and_eq_true] at hx
   obtain ⟨⟨h1, h2⟩, h3⟩ := hx
   rw [wanted_none h2, if_pos rfl]
   exact .inl (run k (fun en v => ⟨en.loc, d.put v en.B⟩) h3 rfl (varput d (hfr _ List.mem_cons_self d rfl) (by simpa using h1)))
  | n k =>
   simp only [KE.ok, Bool.and_eq_true] at hx
   obtain ⟨⟨h1, h2⟩, h3⟩ := hx
   rw [wanted_none h2, if_pos rfl]
   exact .inl (run k (fun en v => en) h3 rfl (fun e' v v' hext _ => noput h1 e' v' hext))
  | gl c b d k =>
   simp only [KE.ok, Bool.and_eq_true] at hx
   obtain ⟨⟨h1, h2⟩, h3⟩ := hx
   have heq0 : runE F (.gl c b d k :: l) en H = gRun (runE F l ⟨.cons d undefA en.loc, en.B⟩ H) (oRes (k.den F en H) (fun v H' => runE F l ⟨.cons d v en.loc, en.B⟩ H')) b (c.den en) := rfl
   rcases gRun_spec (by rw [← heq0]; exact hne) with ⟨t, hc, heq⟩ | ⟨hc, heq⟩
   · have hw := guard c b t (by simpa using h2) hc
     rw [← heq0] at heq
     cases hb : bEq t b with
     | true =>
      rw [hw, hb, if_pos rfl]
      rw [hb] at heq
      exact .inl (run k (fun en v => ⟨.cons d v en.loc, en.B⟩) h3 heq (locput d h1))
     | false =>
      rw [hw, hb, if_neg (by simp)]
      rw [hb] at heq
      exact pass _ heq (locput d h1 e undefA undef hid (vrel_undef e))
   · rw [guardU c b (by simpa using h2) hc, if_neg (by simp)]
     rw [← heq0] at heq
     exact pass _ heq (locput d h1 e undefA undef hid (vrel_undef e))
  | gp c b d k =>
   simp only [KE.ok, Bool.and_eq_true] at hx
   obtain ⟨⟨h1, h2⟩, h3⟩ := hx
   have h1' := varput d (hfr _ List.mem_cons_self d rfl) (by simpa using h1)
   have heq0 : runE F (.gp c b d k :: l) en H = gRun (runE F l ⟨en.loc, d.put undefA en.B⟩ H) (oRes (k.den F en H) (fun v H' => runE F l ⟨en.loc, d.put v en.B⟩ H')) b (c.den en) := rfl
   rcases gRun_spec (by rw [← heq0]; exact hne) with ⟨t, hc, heq⟩ | ⟨hc, heq⟩
   · have hw := guard c b t (by simpa using h2) hc
     rw [← heq0] at heq
     cases hb : bEq t b with
     | true =>
      rw [hw, hb, if_pos rfl]
      rw [hb] at heq
      exact .inl (run k (fun en v => ⟨en.loc, d.put v en.B⟩) h3 heq h1')
     | false =>
      rw [hw, hb, if_neg (by simp)]
      rw [hb] at heq
      exact pass _ heq (h1' e undefA undef hid (vrel_undef e))
   · rw [guardU c b (by simpa using h2) hc, if_neg (by simp)]
     rw [← heq0] at heq
     exact pass _ heq (h1' e undefA undef hid (vrel_undef e))
  | gn c b k =>
   simp only [KE.ok, Bool.and_eq_true] at hx
   obtain ⟨⟨h1, h2⟩, h3⟩ := hx
   have heq0 : runE F (.gn c b k :: l) en H = gRun (runE F l en H) (oRes (k.den F en H) (fun v H' => runE F l en H')) b (c.den en) := rfl
   rcases gRun_spec (by rw [← heq0]; exact hne) with ⟨t, hc, heq⟩ | ⟨hc, heq⟩
   · have hw := guard c b t (by simpa using h2) hc
     rw [← heq0] at heq
     cases hb : bEq t b with
     | true =>
      rw [hw, hb, if_pos rfl]
      rw [hb] at heq
      exact .inl (run k (fun en v => en) h3 heq (fun e' v v' hext _ => noput h1 e' v' hext))
     | false =>
      rw [hw, hb, if_neg (by simp)]
      rw [hb] at heq
      exact pass _ heq (noput h1 e undef hid)
   · rw [guardU c b (by simpa using h2) hc, if_neg (by simp)]
     rw [← heq0] at heq
     exact pass _ heq (noput h1 e undef hid)
 | [], _ :: _, _, _, h, _, _, _, _, _, _, _, _, _, _ => by simp [sameL] at h
 | _ :: _, [], _, _, h, _, _, _, _, _, _, _, _, _, _ => by simp [sameL] at h
end
end Go.Ab
