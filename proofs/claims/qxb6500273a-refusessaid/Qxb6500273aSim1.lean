/-
  PLAIN LEAN: the derivation and the validator's stacks: operands.
-/
import Derived.Test.Qxb6500273aLabel
set_option linter.unusedVariables false
set_option linter.unusedSimpArgs false
namespace Go.Proofs.Qxb6500273a

def Vals (l : List UInt8) : Prop := ∀ c, c ∈ l → c = 127 ∨ c = 126 ∨ c = 125 ∨ c = 124

def OpsAt (V : VS) (below : Nat) (st : List UInt8) : Prop := ∀ i, i < st.length → V.ops (below + i) = ((st.getD i 0).toNat : Int)

/-- the innermost block's operands -/
structure Top (V : VS) (below : Nat) (st : List UInt8) : Prop where
  fl : V.flr (V.depth - 1) = below
  ht : V.height = below + st.length
  ops : OpsAt V below st
  vals : Vals st

theorem Vals.snoc {s : List UInt8} {c : UInt8} (h : Vals (s ++ [c])) : Vals s ∧ (c = 127 ∨ c = 126 ∨ c = 125 ∨ c = 124) :=
  ⟨fun d hd => h d (by simp [hd]), h c (by simp)⟩
theorem Vals.app {s r : List UInt8} (h : Vals s) (h' : Vals r) : Vals (s ++ r) := fun c hc => by
  rcases List.mem_append.mp hc with h1 | h1
  · exact h c h1
  · exact h' c h1
theorem Vals.nil : Vals [] := fun c hc => by simp at hc
theorem Vals.one {c : UInt8} (h : c = 127 ∨ c = 126 ∨ c = 125 ∨ c = 124) : Vals [c] := fun d hd => by
  rw [List.mem_singleton] at hd; subst hd; exact h
theorem Vals.take {s : List UInt8} (h : Vals s) (n : Nat) : Vals (s.take n) := fun c hc => h c (List.mem_of_mem_take hc)
theorem Vals.drop {s : List UInt8} (h : Vals s) (n : Nat) : Vals (s.drop n) := fun c hc => h c (List.mem_of_mem_drop hc)

theorem val_nat {c : UInt8} (h : c = 127 ∨ c = 126 ∨ c = 125 ∨ c = 124) : (c.toNat : Int) ≠ 0 ∧ (c.toNat : Int) ≠ 64 := by
  rcases h with rfl | rfl | rfl | rfl <;> decide

theorem nat_inj {c d : UInt8} (h : (c.toNat : Int) = (d.toNat : Int)) : c = d := UInt8.toNat_inj.mp (by omega)

theorem Top.pop {V : VS} {below : Nat} {s : List UInt8} {c : UInt8} (h : Top V below (s ++ [c])) (want : Int) :
    popF V want = ((c.toNat : Int), decide (want = 0) || decide ((c.toNat : Int) = want), { V with height := V.height - 1 }) ∧ Top { V with height := V.height - 1 } below s := by
  have hh := h.ht
  simp only [List.length_append, List.length_singleton] at hh
  have hf := h.fl
  have ho := h.ops s.length (by simp)
  rw [show (s ++ [c]).getD s.length 0 = c by simp] at ho
  have hv := val_nat h.vals.snoc.2
  refine ⟨?_, ?_⟩
  · unfold popF
    rw [if_neg (by omega), show V.height - 1 = below + s.length by omega, ho, if_neg hv.1]
  · refine ⟨hf, by simp only []; omega, fun i hi => ?_, h.vals.snoc.1⟩
    have h1 := h.ops i (by simp; omega)
    rw [show (s ++ [c]).getD i 0 = s.getD i 0 by simp [List.getD_eq_getElem?_getD, List.getElem?_append_left hi]] at h1
    exact h1

theorem Top.pop0 {V : VS} {below : Nat} (h : Top V below []) (want : Int) : popF V want = (want, V.dead (V.depth - 1), V) := by
  have h1 := h.ht
  have h2 := h.fl
  unfold popF
  rw [if_pos (by rw [h1, h2]; rfl)]

theorem suf_snoc {a s : List UInt8} {t c : UInt8} : (a ++ [t]) <:+ (s ++ [c]) ↔ a <:+ s ∧ t = c := by
  constructor
  · rintro ⟨p, hp⟩
    rw [← List.append_assoc] at hp
    have := List.append_inj' hp rfl
    simp only [List.cons.injEq, and_true] at this
    exact ⟨⟨p, this.1⟩, this.2⟩
  · rintro ⟨⟨p, rfl⟩, rfl⟩
    exact ⟨p, by simp⟩

theorem endsF_iff (st ts : List UInt8) : endsF st ts = true ↔ ts <:+ st := by
  unfold endsF
  rw [Bool.and_eq_true, decide_eq_true_iff, beq_iff_eq]
  constructor
  · rintro ⟨_, h⟩
    rw [← h]
    exact List.drop_suffix _ _
  · intro h
    exact ⟨h.length_le, (List.suffix_iff_eq_drop.mp h).symm⟩

theorem snoc_cases (l : List UInt8) : l = [] ∨ ∃ s c, l = s ++ [c] := by
  rcases h : l.reverse with _ | ⟨c, s⟩
  · exact .inl (by simpa using h)
  · exact .inr ⟨s.reverse, c, by rw [← List.reverse_reverse l, h]; simp⟩

theorem popsL_cons (V : VS) (t : UInt8) (r : List UInt8) : popsL V (t :: r) = if (popF V (t.toNat : Int)).2.1 = true then popsL (popF V (t.toNat : Int)).2.2 r else (false, (popF V (t.toNat : Int)).2.2) := by
  rw [popsL]

theorem pops_live : ∀ (rs : List UInt8) (V : VS) (below : Nat) (st : List UInt8), Top V below st → V.dead (V.depth - 1) = false → Vals rs →
    ((popsL V rs).1 = true ↔ rs.reverse <:+ st) ∧ (rs.reverse <:+ st → (popsL V rs).2 = { V with height := V.height - rs.length })
  | [], V, below, st, h, hd, hv => by simp [popsL]
  | t :: r, V, below, st, h, hd, hv => by
    have ht := val_nat (hv t (by simp))
    rcases snoc_cases st with rfl | ⟨s, c, rfl⟩
    · rw [popsL_cons, h.pop0, hd]
      simp
    · obtain ⟨hp, hT⟩ := h.pop (t.toNat : Int)
      rw [popsL_cons, hp, List.reverse_cons, suf_snoc]
      by_cases e : c = t
      · subst e
        have ih := pops_live r _ below s hT hd (fun d hd => hv d (by simp [hd]))
        rw [if_pos (by simp)]
        refine ⟨by rw [ih.1]; simp, fun hh => ?_⟩
        rw [ih.2 hh.1]
        simp only [List.length_cons, Nat.sub_sub, Nat.add_comm]
      · have h1 : decide ((t.toNat : Int) = 0) = false := decide_eq_false ht.1
        have h2 : decide ((c.toNat : Int) = (t.toNat : Int)) = false := decide_eq_false fun hh => e (nat_inj hh)
        rw [if_neg (by simp only [h1, h2]; simp)]
        refine ⟨⟨fun hh => by simp at hh, fun hh => absurd hh.2.symm e⟩, fun hh => absurd hh.2.symm e⟩

theorem Top.pops {V : VS} {below : Nat} {st : List UInt8} (h : Top V below st) (hd : V.dead (V.depth - 1) = false) {ts : List UInt8} (hv : Vals ts) :
    (popsF V ts).1 = endsF st ts ∧ (endsF st ts = true → (popsF V ts).2 = { V with height := V.height - ts.length }) := by
  have := pops_live ts.reverse V below st h hd (fun d hd => hv d (by simpa using hd))
  rw [List.reverse_reverse, List.length_reverse] at this
  rw [endsF_iff]
  refine ⟨?_, this.2⟩
  rw [Bool.eq_iff_iff, endsF_iff]
  exact this.1

theorem popsF_snoc (V : VS) (ts : List UInt8) (t : UInt8) : popsF V (ts ++ [t]) = if (popF V (t.toNat : Int)).2.1 = true then popsF (popF V (t.toNat : Int)).2.2 ts else (false, (popF V (t.toNat : Int)).2.2) := by
  unfold popsF
  rw [List.reverse_append, List.reverse_singleton, List.singleton_append, popsL_cons]

theorem popsF_one (V : VS) (t : UInt8) : popsF V [t] = ((popF V (t.toNat : Int)).2.1, (popF V (t.toNat : Int)).2.2) := by
  have := popsF_snoc V [] t
  rw [List.nil_append] at this
  rw [this]
  cases h : (popF V (t.toNat : Int)).2.1
  · rfl
  · rfl

theorem popsF_two (V : VS) (ts : List UInt8) (t : UInt8) : popsF V (ts ++ [t]) = if (popsF V [t]).1 = true then popsF (popsF V [t]).2 ts else (false, (popsF V [t]).2) := by
  rw [popsF_snoc, popsF_one]

theorem popsF_nil (V : VS) : popsF V [] = (true, V) := rfl

theorem carry_val (V : VS) {c : UInt8} (h : c = 127 ∨ c = 126 ∨ c = 125 ∨ c = 124) : carryF V (c.toNat : Int) = popsF V [c] := by
  unfold carryF
  rw [if_neg (val_nat h).2, popsF_one]

theorem carry_127 (V : VS) : carryF V 127 = popsF V [127] := carry_val V (c := 127) (.inl rfl)

theorem carry_first (V : VS) {ts : List UInt8} (h1 : ts.length ≤ 1) (h : Vals ts) : carryF V (firstF ts) = popsF V ts := by
  match ts, h1, h with
  | [], _, _ => rfl
  | [c], _, h => exact carry_val V (h c (by simp))

theorem ofNat_val {a : Int} (h : a = 127 ∨ a = 126 ∨ a = 125 ∨ a = 124) : ∃ c : UInt8, strF a = [c] ∧ (c.toNat : Int) = a ∧ (c = 127 ∨ c = 126 ∨ c = 125 ∨ c = 124) := by
  rcases h with rfl | rfl | rfl | rfl
  · exact ⟨127, by decide, by decide, by decide⟩
  · exact ⟨126, by decide, by decide, by decide⟩
  · exact ⟨125, by decide, by decide, by decide⟩
  · exact ⟨124, by decide, by decide, by decide⟩

theorem carry_str (V : VS) {a : Int} (h : a = 127 ∨ a = 126 ∨ a = 125 ∨ a = 124) : carryF V a = popsF V (strF a) := by
  obtain ⟨c, h1, h2, h3⟩ := ofNat_val h
  rw [h1, ← h2, carry_val V h3]

theorem first_str {a : Int} (h : a = 127 ∨ a = 126 ∨ a = 125 ∨ a = 124) : firstF (strF a) = a := by
  obtain ⟨c, h1, h2, h3⟩ := ofNat_val h
  rw [h1, ← h2]; rfl

theorem vals_str {a : Int} (h : a = 127 ∨ a = 126 ∨ a = 125 ∨ a = 124) : Vals (strF a) := by
  obtain ⟨c, h1, h2, h3⟩ := ofNat_val h
  rw [h1]; exact Vals.one h3

theorem isVal_cases {n : Int} (h : isValF n = true) : n = 127 ∨ n = 126 ∨ n = 125 ∨ n = 124 := by
  unfold isValF at h
  simp only [Bool.or_eq_true, beq_iff_eq] at h
  omega

def isV (a : Int) : Prop := a = 127 ∨ a = 126 ∨ a = 125 ∨ a = 124

theorem ite_ind {A : Type} {P : A → Prop} {c : Prop} [Decidable c] {a b : A} (h1 : c → P a) (h2 : ¬c → P b) : P (if c then a else b) := by
  by_cases h : c
  · rw [if_pos h]; exact h1 h
  · rw [if_neg h]; exact h2 h

def NumOk (op : Int) (p : Int × Int × Int) : Prop := p.1 ≠ 0 → (0x45 ≤ op ∧ op ≤ 0xBF) ∧ isV p.2.1 ∧ isV p.2.2

theorem numOk (op : Int) : NumOk op (numSigF op) := by
  unfold numSigF
  repeat' (refine ite_ind (P := NumOk op) (fun hc => ?_) (fun _ => ?_))
  all_goals first | (intro _; exact ⟨by omega, by unfold isV; decide, by unfold isV; decide⟩) | (intro h; exact absurd rfl h)

theorem numSig_range {op : Int} (h : (numSigF op).1 ≠ 0) : 0x45 ≤ op ∧ op ≤ 0xBF := (numOk op h).1
theorem numSig_val {op : Int} (h : (numSigF op).1 ≠ 0) : isV (numSigF op).2.1 ∧ isV (numSigF op).2.2 := (numOk op h).2

def MemOk (op : Int) (p : Int × Int × Bool) : Prop := p.1 ≠ 0 → (0x28 ≤ op ∧ op ≤ 0x3E) ∧ isV p.2.1 ∧ (p.1 = 1 ∨ p.1 = 2 ∨ p.1 = 4 ∨ p.1 = 8)

theorem memOk (op : Int) : MemOk op (memSigF op) := by
  unfold memSigF
  repeat' (refine ite_ind (P := MemOk op) (fun hc => ?_) (fun _ => ?_))
  all_goals first | (intro _; exact ⟨by omega, by unfold isV; decide, by decide⟩) | (intro h; exact absurd rfl h)

theorem memSig_range {op : Int} (h : (memSigF op).1 ≠ 0) : 0x28 ≤ op ∧ op ≤ 0x3E := (memOk op h).1
theorem memSig_val {op : Int} (h : (memSigF op).1 ≠ 0) : isV (memSigF op).2.1 ∧ ((memSigF op).1 = 1 ∨ (memSigF op).1 = 2 ∨ (memSigF op).1 = 4 ∨ (memSigF op).1 = 8) := (memOk op h).2

end Go.Proofs.Qxb6500273a
