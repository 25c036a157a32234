/-
  PLAIN LEAN: the rule of an instruction that is no control instruction.
-/
import Derived.Test.Qxb6500273aSim1
set_option linter.unusedVariables false
set_option linter.unusedSimpArgs false
namespace Go.Proofs.Qxb6500273a

/-- an alignment of 2^B above the width -/
def above (w B : Int) : Bool := if B = 0 then decide (w < 1) else if B = 1 then decide (w < 2) else if B = 2 then decide (w < 4) else decide (w < 8)

/-- what it takes, what it gives, its X, whether its names are there -/
def plainL (t : Int) (st : List UInt8) (op B : Int) : List UInt8 × List UInt8 × Int × Bool :=
  if (numSigF op).1 = 1 then (strF (numSigF op).2.1, strF (numSigF op).2.2, 0, true)
  else if (numSigF op).1 = 2 then (strF (numSigF op).2.1 ++ strF (numSigF op).2.1, strF (numSigF op).2.2, 0, true)
  else if op = 1 then ([], [], 0, true)
  else if 65 ≤ op ∧ op ≤ 68 then ([], strF (192 - op), 0, true)
  else if op = 26 then if st.length < 1 then ([], [], 0, false) else (st.drop (st.length - 1), [], 0, true)
  else if op = 27 then if st.length < 3 then ([], [], 0, false) else ((st.drop (st.length - 2)).take 1 ++ (st.drop (st.length - 2)).take 1 ++ [127], (st.drop (st.length - 2)).take 1, 0, true)
  else if 32 ≤ op ∧ op ≤ 34 then
    if B < 0 ∨ (((sidesF t).1 ++ allFour).length : Int) ≤ B then ([], [], 0, false)
    else if op = 32 then ([], (((sidesF t).1 ++ allFour).drop B.toNat).take 1, B, true)
    else if op = 33 then ((((sidesF t).1 ++ allFour).drop B.toNat).take 1, [], B, true)
    else ((((sidesF t).1 ++ allFour).drop B.toNat).take 1, (((sidesF t).1 ++ allFour).drop B.toNat).take 1, B, true)
  else if op = 35 ∨ op = 36 then
    if B < 0 ∨ 4 ≤ B then ([], [], 0, false)
    else if op = 35 then ([], (allFour.drop B.toNat).take 1, B, true)
    else ((allFour.drop B.toNat).take 1, [], B, true)
  else if (memSigF op).1 ≠ 0 then
    if B < 0 ∨ 3 < B ∨ above (memSigF op).1 B = true then ([], [], 0, false)
    else if op ≤ 53 then ([127], strF (memSigF op).2.1, B, true)
    else ([127] ++ strF (memSigF op).2.1, [], B, true)
  else if op = 63 then ([], [127], 0, true)
  else if op = 64 then ([127], [127], 0, true)
  else if op = 16 then
    if B ≠ 0 ∧ B ≠ 1 then ([], [], 0, false)
    else ((sidesF (if B = 1 then t else 1)).1, (sidesF (if B = 1 then t else 1)).2, B, true)
  else if op = 17 then
    if B < 0 ∨ 2 < B then ([], [], 0, false)
    else ((sidesF B).1 ++ [127], (sidesF B).2, B, true)
  else ([], [], 0, false)

structure IsFrame (M : Md) (t : Int) : Prop where
  t1 : M.t1 = [127, 58, 127]
  it : M.it = 1
  ft : M.ft = t
  mem : M.memMin = 1
  tab : M.tabMin = 1

theorem three {k : Int} (h0 : 0 ≤ k) (h2 : k ≤ 2) : k = 0 ∨ k = 1 ∨ k = 2 := by omega

theorem IsFrame.text {M : Md} {t : Int} (h : IsFrame M t) {k : Int} (h0 : 0 ≤ k) (h2 : k ≤ 2) : typeText M k.toNat = typeT k := by
  rcases three h0 h2 with rfl | rfl | rfl
  · rfl
  · simp [typeText, typeT, h.t1]
  · rfl

theorem IsFrame.typeOf {M : Md} {t : Int} (h : IsFrame M t) (h0 : 0 ≤ t) (h2 : t ≤ 2) {B : Int} (hB : B = 0 ∨ B = 1) : typeOfF M B = (typeT (if B = 1 then t else 1), true) := by
  unfold typeOfF
  rcases hB with rfl | rfl
  · have := h.text (k := 1) (by omega) (by omega)
    simp only [if_true, h.it]
    simpa using this
  · have := h.text h0 h2
    simp [h.ft, h0, this, show t < 3 by omega]

theorem sides_vals {k : Int} (h0 : 0 ≤ k) (h2 : k ≤ 2) : Vals (sidesF k).1 ∧ Vals (sidesF k).2 ∧ (sidesF k).2.length ≤ 1 ∧ (sidesF k).1.length ≤ 4 := by
  rcases three h0 h2 with rfl | rfl | rfl
  · refine ⟨?_, ?_, by decide, by decide⟩ <;> exact fun c hc => by simp [sidesF, typeT, splitF] at hc
  · refine ⟨?_, ?_, by decide, by decide⟩ <;> exact fun c hc => by simp [sidesF, typeT, splitF] at hc; exact .inl hc
  · refine ⟨?_, ?_, by decide, by decide⟩
    · exact fun c hc => by simp [sidesF, typeT, splitF] at hc; exact hc
    · exact fun c hc => by simp [sidesF, typeT, splitF] at hc; simp [hc]

theorem four_vals : Vals allFour := fun c hc => by simpa [allFour] using hc

theorem take1 {l : List UInt8} {n : Nat} (h : n < l.length) : (l.drop n).take 1 = [l.getD n 0] := by
  rw [List.drop_eq_getElem_cons h, List.take_succ_cons, List.take_zero, List.getD_eq_getElem?_getD, List.getElem?_eq_getElem h, Option.getD_some]

/-- an error is an error, whatever it would give -/
theorem simAfterErr (pc : Nat) (a b : Int) (U : VS) : after pc (a, 27, U) = after pc (b, 27, U) := by simp [after]

theorem after_typed (pc : Nat) (a b : Int) (r : Bool × VS) (h : r.1 = true → a = b) : after pc (a, typedF r.1, r.2) = after pc (b, typedF r.1, r.2) := by
  cases hr : r.1
  · exact simAfterErr pc a b r.2
  · rw [h hr]

theorem step_other (M : Md) (ps : List UInt8) (n pc : Nat) (V : VS) (x : Insn) (h : x.op ≠ 1 ∧ x.op ≠ 0 ∧ x.op ≠ 2 ∧ x.op ≠ 3 ∧ x.op ≠ 4 ∧ x.op ≠ 5 ∧ x.op ≠ 11 ∧ x.op ≠ 12 ∧ x.op ≠ 13 ∧ x.op ≠ 14 ∧ x.op ≠ 15) :
    stepF M ps n pc V x = after pc (plainF M V ps x) := by
  unfold stepF
  rw [if_neg (by omega), if_neg (by omega), if_neg (by omega), if_neg (by omega), if_neg (by omega), if_neg (by omega), if_neg (by omega), if_neg (by omega), if_neg (by omega), if_neg (by omega)]

theorem sel_law {V : VS} {below : Nat} {st : List UInt8} (hT : Top V below st) (h3 : ¬ st.length < 3) (pc : Nat) :
    after pc (selF V) = after pc (firstF ((st.drop (st.length - 2)).take 1), typedF (popsF V ((st.drop (st.length - 2)).take 1 ++ (st.drop (st.length - 2)).take 1 ++ [127])).1, (popsF V ((st.drop (st.length - 2)).take 1 ++ (st.drop (st.length - 2)).take 1 ++ [127])).2) := by
  rcases snoc_cases st with rfl | ⟨s1, c, rfl⟩
  · simp at h3
  rcases snoc_cases s1 with rfl | ⟨s2, b, rfl⟩
  · simp at h3
  rcases snoc_cases s2 with rfl | ⟨s3, a, rfl⟩
  · simp at h3
  have e1 : ((s3 ++ [a] ++ [b] ++ [c]).drop ((s3 ++ [a] ++ [b] ++ [c]).length - 2)).take 1 = [b] := by
    rw [take1 (by simp)]
    simp [List.getElem?_append]
  rw [e1]
  obtain ⟨p1, T1⟩ := hT.pop 127
  obtain ⟨p2, T2⟩ := T1.pop 0
  have hb := T1.vals.snoc.2
  obtain ⟨p2', _⟩ := T1.pop (b.toNat : Int)
  obtain ⟨p3, _⟩ := T2.pop (b.toNat : Int)
  have hbn := val_nat hb
  have hq : carryF V 127 = ((decide ((127 : Int) = 0) || decide ((c.toNat : Int) = 127)), { V with height := V.height - 1 }) := by
    unfold carryF
    rw [if_neg (by decide), p1]
  rw [popsF_two V ([b] ++ [b]) 127, ← carry_127]
  unfold selF
  simp only [hq]
  by_cases hc : (c.toNat : Int) = 127
  · simp only [hc, decide_true, Bool.or_true, if_true, p2, Bool.true_or]
    rw [popsF_snoc, p2', popsF_one]
    simp only [decide_true, Bool.or_true, if_true, p3]
    by_cases ha : (a.toNat : Int) = b.toNat
    · simp [ha, firstF]
    · have h0 : decide ((b.toNat : Int) = 0) = false := decide_eq_false hbn.1
      have h1 : decide ((a.toNat : Int) = (b.toNat : Int)) = false := decide_eq_false ha
      simp only [h0, h1, Bool.or_false, typedF]
      exact simAfterErr _ _ _ _
  · have h1 : decide ((c.toNat : Int) = 127) = false := decide_eq_false hc
    simp only [h1, Bool.or_false, typedF]
    simp [after]

theorem local_law (ps : List UInt8) {B : Int} (h0 : ¬ B < 0) : localF ps allFour B = if ((ps ++ allFour).length : Int) ≤ B then (0, false) else ((((ps ++ allFour).getD B.toNat 0).toNat : Int), true) := by
  unfold localF
  have h4 : allFour.length = 4 := rfl
  simp only [List.length_append, h4]
  by_cases h1 : B < ps.length
  · rw [if_pos h1, if_neg (by omega)]
    simp [List.getElem?_append_left (show B.toNat < ps.length by omega)]
  · rw [if_neg h1]
    by_cases h2 : B - ps.length < 4
    · rw [if_pos (by omega), if_neg (by omega)]
      simp [List.getElem?_append_right (show ps.length ≤ B.toNat by omega), show (B - ps.length).toNat = B.toNat - ps.length by omega]
    · rw [if_neg (by omega), if_pos (by omega)]

theorem getD_vals {l : List UInt8} (h : Vals l) {n : Nat} (hn : n < l.length) : (l.getD n 0) = 127 ∨ (l.getD n 0) = 126 ∨ (l.getD n 0) = 125 ∨ (l.getD n 0) = 124 := by
  refine h _ ?_
  simp [hn]

theorem wide_above {w B : Int} (hw : w = 1 ∨ w = 2 ∨ w = 4 ∨ w = 8) (h0 : ¬ B < 0) : wide w B = (decide (3 < B) || above w B) := by
  by_cases h : 3 < B
  · simp [wide, h]
  · have : B = 0 ∨ B = 1 ∨ B = 2 ∨ B = 3 := by omega
    rcases this with rfl | rfl | rfl | rfl <;> rcases hw with rfl | rfl | rfl | rfl <;> decide

theorem g_law {B : Int} (h0 : ¬ B < 0) (h4 : ¬ 4 ≤ B) : ∃ c : UInt8, (allFour.drop B.toNat).take 1 = [c] ∧ gType B.toNat = (c.toNat : Int) ∧ (c = 127 ∨ c = 126 ∨ c = 125 ∨ c = 124) := by
  have : B = 0 ∨ B = 1 ∨ B = 2 ∨ B = 3 := by omega
  rcases this with rfl | rfl | rfl | rfl
  · exact ⟨127, by decide, by decide, by decide⟩
  · exact ⟨126, by decide, by decide, by decide⟩
  · exact ⟨125, by decide, by decide, by decide⟩
  · exact ⟨124, by decide, by decide, by decide⟩

set_option maxHeartbeats 1000000 in
theorem step_plain {M : Md} {t : Int} (hF : IsFrame M t) (h0 : 0 ≤ t) (h2 : t ≤ 2) {st : List UInt8} {op B : Int} {take give : List UInt8} {X : Int} (hp : plainL t st op B = (take, give, X, true))
    {V : VS} {below : Nat} (hT : Top V below st) (h3 : ¬ (op = 36 ∧ B = 3)) (n pc : Nat) (z : Int) :
    stepF M (sidesF t).1 n pc V ⟨op, X, z⟩ = after pc (firstF give, typedF (popsF V take).1, (popsF V take).2) := by
  unfold plainL at hp
  by_cases c1 : (numSigF op).1 = 1
  · rw [if_pos c1] at hp
    simp only [Prod.mk.injEq, and_true] at hp
    obtain ⟨rfl, rfl, rfl⟩ := hp
    have hr := numSig_range (op := op) (by omega)
    have hv := numSig_val (op := op) (by omega)
    rw [step_other _ _ _ _ _ _ (by simp only []; omega)]
    unfold plainF
    simp only []
    rw [if_neg (by omega), if_neg (by omega), if_neg (by omega), if_neg (by omega), if_neg (by omega), if_neg (by omega), if_neg (by omega), if_neg (by omega), if_neg (by omega), carry_str _ hv.1, first_str hv.2]
  rw [if_neg c1] at hp
  by_cases c2 : (numSigF op).1 = 2
  · rw [if_pos c2] at hp
    simp only [Prod.mk.injEq, and_true] at hp
    obtain ⟨rfl, rfl, rfl⟩ := hp
    have hr := numSig_range (op := op) (by omega)
    have hv := numSig_val (op := op) (by omega)
    rw [step_other _ _ _ _ _ _ (by simp only []; omega)]
    unfold plainF
    simp only []
    rw [if_neg (by omega), if_neg (by omega), if_neg (by omega), if_neg (by omega), if_neg (by omega), if_neg (by omega), if_neg (by omega), if_neg (by omega), carry_str _ hv.1, first_str hv.2]
    obtain ⟨c, hc, _, _⟩ := ofNat_val hv.1
    simp only [carry_str _ hv.1]
    rw [hc, popsF_two V [c] c]
    cases hq : (popsF V [c]).1
    · simp
    · simp [c2]
  rw [if_neg c2] at hp
  have hn0 : (numSigF op).1 = 0 := by
    have := numOk op
    by_cases h : (numSigF op).1 = 0
    · exact h
    · exfalso
      have key : ∀ p : Int × Int × Int, (p.1 = 0 ∨ p.1 = 1 ∨ p.1 = 2) → p.1 ≠ 1 → p.1 ≠ 2 → p.1 = 0 := by omega
      have : (numSigF op).1 = 0 ∨ (numSigF op).1 = 1 ∨ (numSigF op).1 = 2 := by
        unfold numSigF
        repeat' (refine ite_ind (P := fun p : Int × Int × Int => p.1 = 0 ∨ p.1 = 1 ∨ p.1 = 2) (fun _ => ?_) (fun _ => ?_))
        all_goals decide
      omega
  by_cases c3 : op = 1
  · rw [if_pos c3] at hp
    simp only [Prod.mk.injEq, and_true] at hp
    obtain ⟨rfl, rfl, rfl⟩ := hp
    simp [stepF, c3, after, typedF, firstF, popsF_nil]
  rw [if_neg c3] at hp
  by_cases c4 : 65 ≤ op ∧ op ≤ 68
  · rw [if_pos c4] at hp
    simp only [Prod.mk.injEq, and_true] at hp
    obtain ⟨rfl, rfl, rfl⟩ := hp
    rw [step_other _ _ _ _ _ _ (by simp only []; omega)]
    unfold plainF
    simp only []
    rw [if_neg (by omega), if_neg (by omega), if_neg (by omega), if_neg (by omega), if_neg (by omega), if_neg (by omega), if_pos c4, first_str (by omega)]
    simp [constOfF, c4, popsF_nil, typedF]
  rw [if_neg c4] at hp
  by_cases c5 : op = 26
  · rw [if_pos c5] at hp
    split at hp
    · simp at hp
    rename_i hl
    simp only [Prod.mk.injEq, and_true] at hp
    obtain ⟨rfl, rfl, rfl⟩ := hp
    rw [step_other _ _ _ _ _ _ (by simp only []; omega)]
    rcases snoc_cases st with rfl | ⟨s, c, rfl⟩
    · simp at hl
    obtain ⟨p1, _⟩ := hT.pop 0
    obtain ⟨p2, _⟩ := hT.pop (c.toNat : Int)
    rw [show (s ++ [c]).drop ((s ++ [c]).length - 1) = [c] by simp]
    rw [popsF_one, p2]
    unfold plainF
    simp only []
    rw [if_neg (by omega), if_pos c5, p1]
    simp [firstF]
  rw [if_neg c5] at hp
  by_cases c6 : op = 27
  · rw [if_pos c6] at hp
    split at hp
    · simp at hp
    rename_i hl
    simp only [Prod.mk.injEq, and_true] at hp
    obtain ⟨rfl, rfl, rfl⟩ := hp
    rw [step_other _ _ _ _ _ _ (by simp only []; omega), ← sel_law hT hl]
    unfold plainF
    simp only []
    rw [if_neg (by omega), if_neg (by omega), if_pos c6]
  rw [if_neg c6] at hp
  by_cases c7 : 32 ≤ op ∧ op ≤ 34
  · rw [if_pos c7] at hp
    by_cases hB : B < 0 ∨ (((sidesF t).1 ++ allFour).length : Int) ≤ B
    · rw [if_pos hB] at hp; simp at hp
    rw [if_neg hB] at hp
    have hX : X = B := by
      repeat' split at hp
      all_goals (simp only [Prod.mk.injEq] at hp; exact hp.2.2.1.symm)
    subst hX
    have hlen : X.toNat < ((sidesF t).1 ++ allFour).length := by omega
    have hvl := getD_vals (Vals.app (sides_vals h0 h2).1 four_vals) hlen
    have hll := local_law (sidesF t).1 (B := X) (by omega)
    rw [if_neg (by omega)] at hll
    rw [take1 hlen] at hp
    generalize (((sidesF t).1 ++ allFour).getD X.toNat 0) = c at *
    rw [step_other _ _ _ _ _ _ (by simp only []; omega)]
    unfold plainF
    simp only []
    rw [if_neg (by omega), if_neg (by omega), if_neg (by omega), if_pos c7, hll]
    simp only [if_true, carry_val _ hvl]
    split at hp
    · rename_i e; simp only [Prod.mk.injEq, and_true] at hp
      obtain ⟨rfl, rfl⟩ := hp
      rw [if_pos e]; simp [popsF_nil, typedF, firstF]
    · rename_i e1
      rw [if_neg e1]
      split at hp
      · rename_i e; simp only [Prod.mk.injEq, and_true] at hp
        obtain ⟨rfl, rfl⟩ := hp
        rw [if_pos e]; simp [firstF]
      · rename_i e; simp only [Prod.mk.injEq, and_true] at hp
        obtain ⟨rfl, rfl⟩ := hp
        rw [if_neg e]; simp [firstF]
  rw [if_neg c7] at hp
  by_cases c8 : op = 35 ∨ op = 36
  · rw [if_pos c8] at hp
    by_cases hB : B < 0 ∨ 4 ≤ B
    · rw [if_pos hB] at hp; simp at hp
    rw [if_neg hB] at hp
    have hX : X = B := by
      repeat' split at hp
      all_goals (simp only [Prod.mk.injEq] at hp; exact hp.2.2.1.symm)
    subst hX
    obtain ⟨c, g1, g2, g3⟩ := g_law (B := X) (by omega) (by omega)
    rw [g1] at hp
    rw [step_other _ _ _ _ _ _ (by simp only []; omega)]
    unfold plainF
    simp only []
    rw [if_neg (by omega), if_neg (by omega), if_neg (by omega), if_neg (by omega), if_pos c8, if_neg (by omega), g2]
    split at hp
    · rename_i e; simp only [Prod.mk.injEq, and_true] at hp
      obtain ⟨rfl, rfl⟩ := hp
      rw [if_pos e]; simp [popsF_nil, typedF, firstF]
    · rename_i e; simp only [Prod.mk.injEq, and_true] at hp
      obtain ⟨rfl, rfl⟩ := hp
      rw [if_neg e, if_pos (by unfold gMut; rw [if_neg (by omega)]), carry_val _ g3]
      simp [firstF]
  rw [if_neg c8] at hp
  by_cases c9 : (memSigF op).1 ≠ 0
  · rw [if_pos c9] at hp
    have hr := memSig_range c9
    have hv := memSig_val c9
    by_cases hB : B < 0 ∨ 3 < B ∨ above (memSigF op).1 B = true
    · rw [if_pos hB] at hp; simp at hp
    rw [if_neg hB] at hp
    have hX : X = B := by
      split at hp
      all_goals (simp only [Prod.mk.injEq] at hp; exact hp.2.2.1.symm)
    subst hX
    have hw := wide_above (B := X) hv.2 (by omega)
    rw [show decide (3 < X) = false from decide_eq_false (by omega), show above (memSigF op).1 X = false from by simpa using fun h => hB (.inr (.inr h))] at hw
    rw [step_other _ _ _ _ _ _ (by simp only []; omega)]
    unfold plainF
    simp only []
    rw [if_neg (by omega), if_neg (by omega), if_neg (by omega), if_neg (by omega), if_neg (by omega), if_pos (by omega)]
    unfold memoryF
    simp only []
    rw [hF.mem, if_neg (by omega), if_neg (by omega), if_pos (by omega), hw, if_neg (by simp)]
    split at hp
    · rename_i e; simp only [Prod.mk.injEq, and_true] at hp
      obtain ⟨rfl, rfl⟩ := hp
      rw [if_neg (by omega), carry_127, first_str hv.1]
    · rename_i e; simp only [Prod.mk.injEq, and_true] at hp
      obtain ⟨rfl, rfl⟩ := hp
      rw [if_pos (by omega)]
      obtain ⟨c, hc, _, _⟩ := ofNat_val hv.1
      rw [carry_str _ hv.1, hc, popsF_two V [127] c]
      cases hq : (popsF V [c]).1
      · simp [after, typedF]
      · simp [carry_127, firstF]
  rw [if_neg c9] at hp
  by_cases c10 : op = 63
  · rw [if_pos c10] at hp
    simp only [Prod.mk.injEq, and_true] at hp
    obtain ⟨rfl, rfl, rfl⟩ := hp
    rw [step_other _ _ _ _ _ _ (by simp only []; omega)]
    unfold plainF
    simp only []
    rw [if_neg (by omega), if_neg (by omega), if_neg (by omega), if_neg (by omega), if_neg (by omega), if_pos (by omega)]
    unfold memoryF
    simp only []
    rw [hF.mem, if_neg (by omega), if_pos c10]
    simp [popsF_nil, typedF, firstF]
  rw [if_neg c10] at hp
  by_cases c11 : op = 64
  · rw [if_pos c11] at hp
    simp only [Prod.mk.injEq, and_true] at hp
    obtain ⟨rfl, rfl, rfl⟩ := hp
    rw [step_other _ _ _ _ _ _ (by simp only []; omega)]
    unfold plainF
    simp only []
    rw [if_neg (by omega), if_neg (by omega), if_neg (by omega), if_neg (by omega), if_neg (by omega), if_pos (by omega)]
    unfold memoryF
    simp only []
    rw [hF.mem, if_neg (by omega), if_neg (by omega), if_neg (by omega), carry_127]
    simp [firstF]
  rw [if_neg c11] at hp
  by_cases c12 : op = 16
  · rw [if_pos c12] at hp
    by_cases hB : B ≠ 0 ∧ B ≠ 1
    · rw [if_pos hB] at hp; simp at hp
    rw [if_neg hB] at hp
    simp only [Prod.mk.injEq, and_true] at hp
    obtain ⟨rfl, rfl, rfl⟩ := hp
    rw [step_other _ _ _ _ _ _ (by simp only []; omega)]
    unfold plainF
    simp only []
    rw [if_pos (by omega)]
    unfold callF
    simp only []
    rw [if_pos c12, hF.typeOf h0 h2 (by omega)]
    simp only [if_true, callEnd, sidesF]
  rw [if_neg c12] at hp
  by_cases c13 : op = 17
  · rw [if_pos c13] at hp
    by_cases hB : B < 0 ∨ 2 < B
    · rw [if_pos hB] at hp; simp at hp
    rw [if_neg hB] at hp
    simp only [Prod.mk.injEq, and_true] at hp
    obtain ⟨rfl, rfl, rfl⟩ := hp
    rw [step_other _ _ _ _ _ _ (by simp only []; omega)]
    unfold plainF
    simp only []
    rw [if_pos (by omega)]
    unfold callF
    simp only []
    rw [if_neg (by omega), hF.tab, if_neg (by omega), if_neg (by omega), hF.text (k := B) (by omega) (by omega), carry_127, popsF_two V (sidesF B).1 127]
    cases hq : (popsF V [127]).1
    · simp [after, typedF]
    · simp [callEnd, sidesF]
  rw [if_neg c13] at hp
  simp at hp

end Go.Proofs.Qxb6500273a
