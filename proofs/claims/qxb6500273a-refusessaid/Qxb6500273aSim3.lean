/-
  PLAIN LEAN: the derivation and the validator's stacks go together.
-/
import Derived.Test.Qxb6500273aLy0
set_option linter.unusedVariables false
set_option linter.unusedSimpArgs false
namespace Go.Proofs.Qxb6500273a

/-- the open blocks, innermost first, on the validator's stacks -/
def LayR (V : VS) (t : Int) : List Blk → List UInt8 → Nat → Prop
  | [], st, below => below = 0 ∧ V.flr 0 = 0 ∧ V.cop 0 = 2 ∧ V.res 0 = firstF (sidesF t).2 ∧ V.dead 0 = false ∧ OpsAt V 0 st ∧ Vals st
  | b :: r, st, below => (b.op = 2 ∨ b.op = 3 ∨ b.op = 4 ∨ b.op = 5) ∧ b.res.length ≤ 1 ∧ Vals b.res ∧ V.flr (r.length + 1) = below ∧ V.cop (r.length + 1) = b.op ∧ V.res (r.length + 1) = firstF b.res ∧ V.dead (r.length + 1) = false ∧ OpsAt V below st ∧ Vals st ∧ b.outer.length ≤ below ∧ LayR V t r b.outer (below - b.outer.length)

theorem LayR.flr {V : VS} {t : Int} {l : List Blk} {st : List UInt8} {below : Nat} (h : LayR V t l st below) : V.flr l.length = below := by
  cases l with
  | nil => obtain ⟨rfl, h2, _⟩ := h; exact h2
  | cons b r => exact h.2.2.2.1
theorem LayR.dead {V : VS} {t : Int} {l : List Blk} {st : List UInt8} {below : Nat} (h : LayR V t l st below) : V.dead l.length = false := by
  cases l with
  | nil => exact h.2.2.2.2.1
  | cons b r => exact h.2.2.2.2.2.2.1
theorem LayR.ops {V : VS} {t : Int} {l : List Blk} {st : List UInt8} {below : Nat} (h : LayR V t l st below) : OpsAt V below st := by
  cases l with
  | nil => obtain ⟨rfl, _, _, _, _, h6, _⟩ := h; exact h6
  | cons b r => exact h.2.2.2.2.2.2.2.1
theorem LayR.vals {V : VS} {t : Int} {l : List Blk} {st : List UInt8} {below : Nat} (h : LayR V t l st below) : Vals st := by
  cases l with
  | nil => exact h.2.2.2.2.2.2
  | cons b r => exact h.2.2.2.2.2.2.2.2.1

theorem LayR.turn {V V' : VS} {t : Int} : ∀ {l : List Blk} {st st' : List UInt8} {below : Nat}, LayR V t l st below →
    (∀ k, k ≤ l.length → V'.flr k = V.flr k ∧ V'.cop k = V.cop k ∧ V'.res k = V.res k ∧ V'.dead k = V.dead k) → (∀ i, i < below → V'.ops i = V.ops i) → OpsAt V' below st' → Vals st' → LayR V' t l st' below
  | [], st, st', below, h, hs, ho, h1, h2 => by
    obtain ⟨rfl, a2, a3, a4, a5, a6, a7⟩ := h
    have := hs 0 (Nat.le_refl _)
    exact ⟨rfl, this.1.trans a2, this.2.1.trans a3, this.2.2.1.trans a4, this.2.2.2.trans a5, h1, h2⟩
  | b :: r, st, st', below, h, hs, ho, h1, h2 => by
    obtain ⟨a1, a2, a3, a4, a5, a6, a7, a8, a9, a10, a11⟩ := h
    have := hs (r.length + 1) (Nat.le_refl _)
    refine ⟨a1, a2, a3, this.1.trans a4, this.2.1.trans a5, this.2.2.1.trans a6, this.2.2.2.trans a7, h1, h2, a10, ?_⟩
    refine LayR.turn a11 (fun k hk => hs k (by simp only [List.length_cons]; omega)) (fun i hi => ho i (by omega)) (fun i hi => ?_) a11.vals
    rw [ho _ (by omega)]
    exact a11.ops i hi

theorem LayR.blk {V : VS} {t : Int} : ∀ {l : List Blk} {st : List UInt8} {below : Nat}, LayR V t l st below → ∀ b, b ∈ l → b.res.length ≤ 1 ∧ Vals b.res
  | [], st, below, h, b, hb => by simp at hb
  | c :: r, st, below, h, b, hb => by
    obtain ⟨a1, a2, a3, a4, a5, a6, a7, a8, a9, a10, a11⟩ := h
    rcases List.mem_cons.mp hb with rfl | hb
    · exact ⟨a2, a3⟩
    · exact LayR.blk a11 b hb

/-- the control entry of the k-th block from without -/
theorem LayR.entry {V : VS} {t : Int} : ∀ {l : List Blk} {st : List UInt8} {below : Nat}, LayR V t l st below → ∀ k, k < l.length → V.cop (l.length - k) = (l.getD k blk0).op ∧ V.res (l.length - k) = firstF (l.getD k blk0).res
  | [], st, below, h, k, hk => by simp at hk
  | c :: r, st, below, h, k, hk => by
    obtain ⟨a1, a2, a3, a4, a5, a6, a7, a8, a9, a10, a11⟩ := h
    cases k with
    | zero => exact ⟨a5, a6⟩
    | succ k =>
      have := LayR.entry a11 k (by simpa using hk)
      rw [List.length_cons, show r.length + 1 - (k + 1) = r.length - k by omega]
      simpa using this
theorem LayR.root {V : VS} {t : Int} : ∀ {l : List Blk} {st : List UInt8} {below : Nat}, LayR V t l st below → V.cop 0 = 2 ∧ V.res 0 = firstF (sidesF t).2
  | [], st, below, h => ⟨h.2.2.1, h.2.2.2.1⟩
  | c :: r, st, below, h => LayR.root h.2.2.2.2.2.2.2.2.2.2

structure Sim (D : Dv) (V : VS) : Prop where
  dep : V.depth = D.ctl.length + 1
  ht : V.height = D.below + D.st.length
  lay : LayR V D.t D.ctl.reverse D.st D.below
  h10 : D.below + D.st.length ≤ 10
  n6 : D.ctl.length ≤ 6

theorem Sim.top {D : Dv} {V : VS} (h : Sim D V) : Top V D.below D.st := by
  have hf := h.lay.flr
  rw [List.length_reverse] at hf
  exact ⟨by rw [h.dep]; exact hf, h.ht, h.lay.ops, h.lay.vals⟩
theorem Sim.live {D : Dv} {V : VS} (h : Sim D V) : V.dead (V.depth - 1) = false := by
  have hf := h.lay.dead
  rw [List.length_reverse] at hf
  rw [h.dep]; exact hf

/-- the steps of a list of instructions, none of which fails -/
def Steps (M : Md) (ps : List UInt8) (n : Nat) : Nat → VS → List Insn → VS → Prop
  | _, V, [], V' => V = V'
  | pc, V, x :: r, V' => ∃ V1, stepF M ps n pc V x = (none, V1) ∧ Steps M ps n (pc + 1) V1 r V'

theorem Steps.snoc {M : Md} {ps : List UInt8} {n : Nat} : ∀ {l : List Insn} {pc : Nat} {V V1 V2 : VS} {x : Insn}, Steps M ps n pc V l V1 → stepF M ps n (pc + l.length) V1 x = (none, V2) → Steps M ps n pc V (l ++ [x]) V2
  | [], pc, V, V1, V2, x, h, hx => by
    obtain rfl := h
    exact ⟨V2, hx, rfl⟩
  | y :: r, pc, V, V1, V2, x, h, hx => by
    obtain ⟨U, h1, h2⟩ := h
    exact ⟨U, h1, Steps.snoc h2 (by rw [show pc + 1 + r.length = pc + (y :: r).length by simp; omega]; exact hx)⟩

theorem Steps.run {M : Md} {ps : List UInt8} {n : Nat} : ∀ {l : List Insn} {pc : Nat} {V V1 : VS} (r : List Insn), Steps M ps n pc V l V1 → runF M ps n pc V (l ++ r) = runF M ps n (pc + l.length) V1 r
  | [], pc, V, V1, r, h => by obtain rfl := h; rfl
  | y :: l, pc, V, V1, r, h => by
    obtain ⟨U, h1, h2⟩ := h
    rw [List.cons_append, runF, h1]
    simp only []
    rw [Steps.run r h2, show pc + 1 + l.length = pc + (y :: l).length by simp; omega]

structure Der (D : Dv) : Prop where
  t0 : 0 ≤ D.t
  t2 : D.t ≤ 2
  tabs : D.tabs = []
  len : D.body.length ≤ 95
  insn : ∀ x, x ∈ D.body → 0 ≤ x.op ∧ x.op ≤ 255 ∧ x.op ≠ 14 ∧ 0 ≤ x.x ∧ x.x ≤ 4294967295
  run : ∀ M n V0, IsFrame M D.t → ∃ V, Steps M (sidesF D.t).1 n 0 (headV V0 (sidesF D.t).2) D.body V ∧ Sim D V

theorem Der.sim {D : Dv} (h : Der D) : ∃ V, Sim D V := by
  obtain ⟨V, _, hs⟩ := h.run (mod0 D.t [] []) 0 ⟨fun _ => 0, 0, fun _ => 0, fun _ => 0, fun _ => 0, fun _ => false, 0, 0⟩ ⟨rfl, rfl, rfl, rfl, rfl⟩
  exact ⟨V, hs⟩
theorem Der.bnd {D : Dv} (h : Der D) : DBnd D := by
  obtain ⟨V, hs⟩ := h.sim
  have := hs.h10
  exact ⟨h.t0, h.t2, by omega, hs.n6, fun b hb => (hs.lay.blk b (by simpa using hb)).1⟩
theorem Der.below {D : Dv} (h : Der D) : D.below ≤ 10 := by
  obtain ⟨V, hs⟩ := h.sim
  have := hs.h10
  omega
theorem rev_last {D : Dv} (h : D.ctl.length ≠ 0) : D.ctl.reverse = lastB D :: (D.ctl.take (D.ctl.length - 1)).reverse := by
  have e : D.ctl = D.ctl.take (D.ctl.length - 1) ++ [lastB D] := by
    have e2 : D.ctl.drop (D.ctl.length - 1) = [lastB D] := by
      rw [List.drop_eq_getElem_cons (by omega)]
      unfold lastB
      simp [List.getElem?_eq_getElem (show D.ctl.length - 1 < D.ctl.length by omega), List.drop_eq_nil_of_le (show D.ctl.length ≤ D.ctl.length - 1 + 1 by omega)]
    rw [← e2, List.take_append_drop]
  have := congrArg List.reverse e
  rw [List.reverse_append] at this
  simpa using this
theorem Der.outer {D : Dv} (h : Der D) (h0 : D.ctl.length ≠ 0) : (lastB D).outer.length ≤ D.below := by
  obtain ⟨V, hs⟩ := h.sim
  have hl := hs.lay
  rw [rev_last h0] at hl
  exact hl.2.2.2.2.2.2.2.2.2.1

theorem Der.begin (on : Bool) {t : Int} (h0 : 0 ≤ t) (h2 : t ≤ 2) : Der ⟨on, t, [], [], [], [], 0⟩ := by
  refine ⟨h0, h2, rfl, by simp, fun x hx => by simp at hx, fun M n V0 hM => ⟨_, rfl, ?_⟩⟩
  refine ⟨rfl, rfl, ⟨rfl, by simp [headV, upd], by simp [headV, upd], by simp [headV, upd], by simp [headV, upd], fun i hi => by simp at hi, Vals.nil⟩, by simp, by simp⟩

theorem Der.push {D D' : Dv} {x : Insn} (h : Der D) (hb : D'.body = D.body ++ [x]) (ht : D'.t = D.t) (htb : D'.tabs = D.tabs) (hlen : D.body.length < 95) (hx : 0 ≤ x.op ∧ x.op ≤ 255 ∧ x.op ≠ 14 ∧ 0 ≤ x.x ∧ x.x ≤ 4294967295)
    (hs : ∀ M n pc V, IsFrame M D.t → Sim D V → ∃ V', stepF M (sidesF D.t).1 n pc V x = (none, V') ∧ Sim D' V') : Der D' := by
  refine ⟨by rw [ht]; exact h.t0, by rw [ht]; exact h.t2, htb.trans h.tabs, by rw [hb]; simp; omega, fun y hy => ?_, fun M n V0 hM => ?_⟩
  · rw [hb] at hy
    rcases List.mem_append.mp hy with h1 | h1
    · exact h.insn y h1
    · rw [List.mem_singleton] at h1; subst h1; exact hx
  · rw [ht] at hM ⊢
    obtain ⟨V, h1, h2⟩ := h.run M n V0 hM
    obtain ⟨V', h3, h4⟩ := hs M n (0 + D.body.length) V hM h2
    exact ⟨V', hb ▸ Steps.snoc h1 h3, h4⟩

/-! ### The steps -/

/-- the operands below the top are as they were; c is pushed -/
theorem simPush {U : VS} (pc : Nat) {give : List UInt8} (hl : give.length ≤ 1) (hv : Vals give) (hh : U.height + give.length ≤ 10) :
    ∃ V', after pc (firstF give, 0, U) = (none, V') ∧ V'.height = U.height + give.length ∧ V'.depth = U.depth ∧ V'.flr = U.flr ∧ V'.cop = U.cop ∧ V'.res = U.res ∧ V'.dead = U.dead ∧ (∀ i, i < U.height → V'.ops i = U.ops i) ∧ OpsAt V' U.height give := by
  match give, hl, hv, hh with
  | [], _, _, _ =>
    refine ⟨U, by simp [after, firstF], by simp, rfl, rfl, rfl, rfl, rfl, fun _ _ => rfl, fun i hi => by simp at hi⟩
  | [c], _, hv, hh =>
    have hc := val_nat (hv c (by simp))
    have h9 : ¬ 10 ≤ U.height := by simp at hh; omega
    refine ⟨{ U with ops := upd U.ops U.height (c.toNat : Int), height := U.height + 1, high := max U.high ((U.height + 1 : Nat) : Int) }, ?_, by simp, rfl, rfl, rfl, rfl, rfl, fun i hi => ?_, fun i hi => ?_⟩
    · simp [after, firstF, hc.2, pushF, h9]
    · simp only [upd]; rw [if_neg (by omega)]
    · have : i = 0 := by simpa using hi
      subst this
      simp [upd]

theorem simDeep {U : VS} (pc : Nat) {give : List UInt8} (hl : give.length ≤ 1) (hv : Vals give) (hu : U.height ≤ 10) (hh : 10 < U.height + give.length) : ∃ V', after pc (firstF give, 0, U) = (some ((pc : Int), 28), V') := by
  match give, hl, hv, hh with
  | [], _, _, hh => simp at hh; omega
  | [c], _, hv, hh =>
    have hc := val_nat (hv c (by simp))
    have h9 : 10 ≤ U.height := by simp at hh; omega
    refine ⟨U, ?_⟩
    simp [after, firstF, hc.2, pushF, h9]

theorem opsAt_app {V : VS} {below : Nat} {a b : List UInt8} (h1 : OpsAt V below a) (h2 : OpsAt V (below + a.length) b) : OpsAt V below (a ++ b) := fun i hi => by
  by_cases h : i < a.length
  · rw [h1 i h]
    simp [List.getElem?_append_left h]
  · have hb : i - a.length < b.length := by simp at hi; omega
    have := h2 (i - a.length) hb
    rw [show below + a.length + (i - a.length) = below + i by omega] at this
    rw [this]
    simp [List.getElem?_append_right (Nat.le_of_not_lt h)]
theorem opsAt_left {V : VS} {below : Nat} {a b : List UInt8} (h : OpsAt V below (a ++ b)) : OpsAt V below a := fun i hi => by
  have := h i (by simp; omega)
  rw [this]
  simp [List.getElem?_append_left hi]

/-- a rule applies: take is taken, give is given -/
theorem Sim.rule {D : Dv} {V : VS} (h : Sim D V) (pc : Nat) {take give sp : List UInt8} (hsp : D.st = sp ++ take) (ht : Vals take) (hgl : give.length ≤ 1) (hg : Vals give) (hh : D.below + sp.length + give.length ≤ 10) {D' : Dv} (e1 : D'.t = D.t) (e2 : D'.ctl = D.ctl) (e3 : D'.below = D.below) (e4 : D'.st = sp ++ give) :
    ∃ V', after pc (firstF give, typedF (popsF V take).1, (popsF V take).2) = (none, V') ∧ Sim D' V' := by
  have he : endsF D.st take = true := by rw [endsF_iff, hsp]; exact List.suffix_append _ _
  obtain ⟨p1, p2⟩ := h.top.pops h.live ht
  rw [p1, he, p2 he]
  have hht := h.ht
  rw [hsp, List.length_append] at hht
  have hU : ({ V with height := V.height - take.length } : VS).height = D.below + sp.length := by simp only []; omega
  obtain ⟨V', q1, q2, q3, q4, q5, q6, q7, q8, q9⟩ := simPush (U := { V with height := V.height - take.length }) pc hgl hg (by rw [hU]; omega)
  refine ⟨V', q1, ?_⟩
  have hl := h.lay
  have ho : OpsAt V D.below (sp ++ take) := hsp ▸ hl.ops
  have hvs : Vals (sp ++ take) := hsp ▸ hl.vals
  refine ⟨by rw [q3, e2]; exact h.dep, by rw [q2, hU, e3, e4, List.length_append]; omega, ?_, by rw [e3, e4, List.length_append]; omega, by rw [e2]; exact h.n6⟩
  rw [e1, e2, e3, e4]
  refine hl.turn (fun k _ => ⟨by rw [q4], by rw [q5], by rw [q6], by rw [q7]⟩) (fun i hi => q8 i (by rw [hU]; omega)) ?_ (Vals.app (fun c hc => hvs c (by simp [hc])) hg)
  refine opsAt_app (fun i hi => ?_) ?_
  · rw [q8 _ (by rw [hU]; omega)]
    exact opsAt_left ho i hi
  · rw [hU] at q9; exact q9

end Go.Proofs.Qxb6500273a
