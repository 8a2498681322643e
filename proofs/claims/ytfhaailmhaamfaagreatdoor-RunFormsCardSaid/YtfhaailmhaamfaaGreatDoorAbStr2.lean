/- Bytes as a string; a rune as a string. -/
import Derived.Test.YtfhaailmhaamfaaGreatDoorAbMap2
namespace Go.Ab
open Go
noncomputable section
variable {S : BT Nat}

def packB (l : List AV) : Option (Nat × Nat) :=
  List.rec (motive := fun _ => Option (Nat × Nat)) (some (0, 0)) (fun v _ ih => Option.rec (motive := fun _ => Option (Nat × Nat)) none (fun p => avI none (fun k c => bif' none (some (Nat.add p.1 1, Nat.add c (Nat.mul 256 p.2))) (Nat.beq k 4)) v) ih) l
theorem packB_cons {v : AV} {l : List AV} {p : Nat × Nat} (h : packB (v :: l) = some p) : ∃ q c, packB l = some q ∧ v = .i 4 c ∧ p = (q.1 + 1, c + 256 * q.2) := by
  have h' : Option.rec (motive := fun _ => Option (Nat × Nat)) none (fun p => avI none (fun k c => bif' none (some (Nat.add p.1 1, Nat.add c (Nat.mul 256 p.2))) (Nat.beq k 4)) v) (packB l) = some p := h
  cases hq : packB l with
  | none => rw [hq] at h'; cases h'
  | some q =>
    rw [hq] at h'
    cases v with
    | i k c =>
      simp only [avI, bif'] at h'
      cases hk : Nat.beq k 4 with
      | false => rw [hk] at h'; cases h'
      | true =>
        rw [hk] at h'
        cases h'
        exact ⟨q, c, rfl, by rw [Nat.eq_of_beq_eq_true hk], rfl⟩
    | _ => cases h'

theorem packB_spec {e : Emb} : ∀ {l : List AV} {l' : List Value} {n c : Nat}, packB l = some (n, c) → VRels e l l' → c < 256 ^ n ∧ l' = (bytesOf n c).map fun b => .int .u8 (b.toNat : Int)
  | [], _, n, c, h, .nil => by cases h; exact ⟨by simp, rfl⟩
  | v :: l, _, n, c, h, .cons hv ht => by
    obtain ⟨q, d, h1, rfl, h2⟩ := packB_cons h
    obtain ⟨m, k⟩ := q
    cases h2
    obtain ⟨g1, g2⟩ := packB_spec h1 ht
    cases hv with
    | i _ _ hk hn =>
    have hd : d < 256 := hn
    simp only
    refine ⟨by rw [Nat.pow_succ]; omega, ?_⟩
    have e1 : (d + 256 * k) % 256 = d := by omega
    have e2 : (d + 256 * k) / 256 = k := by omega
    simp only [bytesOf, e1, e2, List.map_cons, ← g2]
    congr 1

theorem forIn_push {P : Program} (w : World) : ∀ (bs : List UInt8) (s : ByteArray),
    (forIn (bs.map fun b => Value.int .u8 (b.toNat : Int)) s (fun c s => match c with | .int .u8 n => pure (ForInStep.yield (s.push (UInt8.ofNat n.toNat))) | _ => do stuck "bytesToString: byte expected"; pure (ForInStep.yield s) : Value → ByteArray → Sem (ForInStep ByteArray))).run P w = .ok ⟨(s.data.toList ++ bs).toArray⟩ w
  | [], s => by simp
  | b :: bs, s => by
    rw [List.map_cons, List.forIn_cons]
    simp only [Sem.run_bind, Sem.run_pure, Result.andThen_ok]
    rw [forIn_push w bs]
    congr 2
    apply congrArg
    simp [ByteArray.push]

def opB2S (x : Env → AV) (en : Env) (H : AHeap) : ORes :=
  Option.rec (motive := fun _ => ORes) .fail (fun p => Option.rec (motive := fun _ => ORes) .fail (fun q => .v (.s q.1 q.2) H) (packB p.2)) (readS 1 H (x en))

theorem opB2S_snd {P : Program} {o : Oper} {t t' el : TypeId} {x : Operand} {x' : Env → AV} (ho : o.op = .convert t t' x) (ht : P.underlying t = some (.slice el)) (hel : P.underlying el = some (.int .u8)) (ht' : P.underlying t' = some .string) (hx : OpndOk P S x x') (en : Env) (H : AHeap) :
    OSnd P S o en H (opB2S x' en H) := by
  unfold opB2S
  cases hp : readS 1 H (x' en) with
  | none => trivial
  | some p =>
    obtain ⟨n, l⟩ := p
    simp only
    cases hq : packB l with
    | none => trivial
    | some q =>
      obtain ⟨m, c⟩ := q
      simp only
      refine OSnd.pure fun N D e w a hr ha => ?_
      have h1 := hx N D e en a H w hr ha
      obtain ⟨base, cap', hv, l', hlen, hrel, hcase⟩ := readS_spec hp hr h1
      obtain ⟨g1, g2⟩ := packB_spec hq hrel
      refine ⟨.string ⟨(bytesOf m c).toArray⟩, ?_, .s m c g1⟩
      have hexec : (execOp a.eval o).run P w = ((Conv.bytesToString (a.eval x)).run P w).andThen (fun v w' => .ok (.value v) w') := by
        simp only [execOp, ho, Sem.run_bind, convert, run_underlying ht, run_underlying ht', Result.andThen_ok, hv, run_underlying hel]
        cases base <;> simp
      rw [hexec, hv]
      cases base with
      | none =>
        rcases hcase with ⟨h0, h2, _⟩ | ⟨b, hb, _⟩
        · subst h2
          cases hq
          simp only [Conv.bytesToString, Sem.run_pure, Result.andThen_ok]
          rfl
        · cases hb
      | some b =>
        have hcell : ∀ j u, l'[j]? = some u → w.cell? (b.add j) = some u := by
          rcases hcase with ⟨h0, h2, _⟩ | ⟨b', hb, hc⟩
          · have : l' = [] := by rw [h0] at hlen; simpa using hlen
            intro j u hj; rw [this] at hj; simp at hj
          · cases hb; exact hc
        have hrun := run_loadCells_list (P := P) w b l' hcell
        rw [show l'.length = n by rw [hlen]; omega] at hrun
        simp only [Conv.bytesToString, Sem.run_bind, hrun, Result.andThen_ok]
        rw [← Array.forIn_toList]
        have := forIn_push (P := P) w (bytesOf m c) ByteArray.empty
        rw [← g2] at this
        refine (congrArg (fun r => Result.andThen (Result.andThen r fun a w' => Sem.run P (pure (Value.string a)) w') fun v w' => Result.ok (Next.value v) w') this).trans ?_
        simp
end
end Go.Ab
