/-
  PLAIN LEAN: what no rule allows is refused, at its place.
-/
import Derived.Test.Qxb6500273aSim4
import Derived.Test.Qxb6500273aTabled
set_option linter.unusedVariables false
set_option linter.unusedSimpArgs false
namespace Go.Proofs.Qxb6500273a

theorem parts_modS {t : Int} (h0 : 0 ≤ t) (h2 : t ≤ 2) (body : List Insn) (tabs : List Int) : partsF (modS t body tabs) = (0, 0) := by
  rcases three h0 h2 with rfl | rfl | rfl <;> rfl

theorem modS_frame (t : Int) (body : List Insn) (tabs : List Int) : IsFrame (modS t body tabs) t := ⟨rfl, rfl, rfl, rfl, rfl⟩

theorem modS_text {t : Int} (h0 : 0 ≤ t) (h2 : t ≤ 2) (body : List Insn) (tabs : List Int) : splitF (typeText (modS t body tabs) (modS t body tabs).ft.toNat) = sidesF t := by
  rcases three h0 h2 with rfl | rfl | rfl <;> rfl

/-- the module with the list ls behind the derivation is refused there -/
def Ruin (D : Dv) (ls : List Insn) (tabs : List Int) (pl want : Int) : Prop :=
  ∀ (e : List Insn) (V : VS), (validateF (modS D.t (D.body ++ ls ++ e) tabs) V).1 = (0, pl, want)

theorem ruin_run {D : Dv} (h : Der D) (ls : List Insn) (tabs : List Int) (pl want : Int) (hw : want ≠ 0)
    (hr : ∀ M n V e, IsFrame M D.t → M.mut3 = false → M.tabs = tabs → Sim D V → (runF M (sidesF D.t).1 n D.body.length V (ls ++ e)).1 = (pl, want)) : Ruin D ls tabs pl want := by
  intro e V
  have hM := modS_frame D.t (D.body ++ ls ++ e) tabs
  have hb : (bodyF (modS D.t (D.body ++ ls ++ e) tabs) V).1 = (pl, want) := by
    unfold bodyF
    rw [modS_text h.t0 h.t2]
    obtain ⟨V1, h1, h2⟩ := h.run _ (modS D.t (D.body ++ ls ++ e) tabs).body.length V hM
    have h3 := h1.run (ls ++ e)
    rw [show (modS D.t (D.body ++ ls ++ e) tabs).body = D.body ++ (ls ++ e) by simp [modS, mod0]]
    rw [show (modS D.t (D.body ++ ls ++ e) tabs).body = D.body ++ (ls ++ e) by simp [modS, mod0]] at h3
    rw [h3, Nat.zero_add]
    exact hr _ _ V1 e hM rfl rfl h2
  unfold validateF
  rw [parts_modS h.t0 h.t2, if_neg (by simp), hb, if_pos hw]

theorem ruin_one {D : Dv} (h : Der D) (x : Insn) (tabs : List Int) (want : Int) (hw : want ≠ 0)
    (hs : ∀ M n pc V, IsFrame M D.t → M.mut3 = false → M.tabs = tabs → Sim D V → (stepF M (sidesF D.t).1 n pc V x).1 = some ((pc : Int), want)) : Ruin D [x] tabs D.body.length want := by
  refine ruin_run h [x] tabs _ want hw fun M n V e hM hm ht hS => ?_
  have := hs M n D.body.length V hM hm ht hS
  rw [List.singleton_append, runF]
  revert this
  generalize stepF M (sidesF D.t).1 n D.body.length V x = r
  obtain ⟨r1, r2⟩ := r
  intro this
  simp only [] at this
  subst this
  rfl

theorem after_27 (pc : Nat) (a : Int) (U : VS) : (after pc (a, 27, U)).1 = some ((pc : Int), 27) := by simp [after]

section
variable {D : Dv} {M : Md} {n pc : Nat} {V : VS}

theorem bad_name (h0 : 0 ≤ D.t) (h2 : D.t ≤ 2) (hM : IsFrame M D.t) (hS : Sim D V) {A B : Int} (hA : 0 ≤ A) (hB0 : 0 ≤ B) (hw : nameErr D A B ≠ 0) : (stepF M (sidesF D.t).1 n pc V ⟨A, B, 0⟩).1 = some ((pc : Int), nameErr D A B) := by
  have hdep := hS.dep
  unfold nameErr at hw ⊢
  by_cases c1 : 32 ≤ A ∧ A ≤ 34
  · rw [if_pos c1] at hw ⊢
    by_cases c : ((sidesF D.t).1.length : Int) + 4 ≤ B
    · rw [if_pos c]
      rw [step_other _ _ _ _ _ _ (by simp only []; omega)]
      unfold plainF
      simp only []
      rw [if_neg (by omega), if_neg (by omega), if_neg (by omega), if_pos c1]
      have hl := local_law (sidesF D.t).1 (B := B) (by omega)
      rw [if_pos (by simp only [List.length_append, show allFour.length = 4 from rfl]; omega)] at hl
      rw [hl]
      simp [after]
    · rw [if_neg c] at hw; exact absurd rfl hw
  rw [if_neg c1] at hw ⊢
  by_cases c2 : A = 35 ∨ A = 36
  · rw [if_pos c2] at hw ⊢
    by_cases c : 4 ≤ B
    · rw [if_pos c, step_other _ _ _ _ _ _ (by simp only []; omega)]
      unfold plainF
      simp only []
      rw [if_neg (by omega), if_neg (by omega), if_neg (by omega), if_neg (by omega), if_pos c2, if_pos c]
      simp [after]
    · rw [if_neg c] at hw; exact absurd rfl hw
  rw [if_neg c2] at hw ⊢
  by_cases c3 : A = 16
  · rw [if_pos c3] at hw ⊢
    by_cases c : 2 ≤ B
    · rw [if_pos c, step_other _ _ _ _ _ _ (by simp only []; omega)]
      unfold plainF
      simp only []
      rw [if_pos (by omega)]
      unfold callF typeOfF
      have h20 : ¬ B = 0 := by omega
      have h21 : ¬ B = 1 := by omega
      simp [c3, h20, h21, after]
    · rw [if_neg c] at hw; exact absurd rfl hw
  rw [if_neg c3] at hw ⊢
  by_cases c4 : A = 17
  · rw [if_pos c4] at hw ⊢
    by_cases c : 3 ≤ B
    · rw [if_pos c, step_other _ _ _ _ _ _ (by simp only []; omega)]
      unfold plainF
      simp only []
      rw [if_pos (by omega)]
      unfold callF
      simp only []
      rw [if_neg (by omega), hM.tab, if_neg (by omega), if_pos c]
      simp [after]
    · rw [if_neg c] at hw; exact absurd rfl hw
  rw [if_neg c4] at hw ⊢
  by_cases c5 : (memSigF A).1 ≠ 0
  · rw [if_pos c5] at hw ⊢
    by_cases c : 3 < B ∨ above (memSigF A).1 B = true
    · rw [if_pos c]
      have hr := memSig_range c5
      have hv := memSig_val c5
      have hwd := wide_above (B := B) hv.2 (by omega)
      have hwt : wide (memSigF A).1 B = true := by
        rw [hwd]
        rcases c with c | c
        · simp [c]
        · simp [c]
      rw [step_other _ _ _ _ _ _ (by simp only []; omega)]
      unfold plainF
      simp only []
      rw [if_neg (by omega), if_neg (by omega), if_neg (by omega), if_neg (by omega), if_neg (by omega), if_pos (by omega)]
      unfold memoryF
      simp only []
      rw [hM.mem, if_neg (by omega), if_neg (by omega), if_pos (by omega), hwt]
      simp [after]
    · rw [if_neg c] at hw; exact absurd rfl hw
  rw [if_neg c5] at hw ⊢
  by_cases c6 : A = 12
  · rw [if_pos c6] at hw ⊢
    by_cases c : (D.ctl.length : Int) < B
    · rw [if_pos c]
      have : stepF M (sidesF D.t).1 n pc V ⟨A, B, 0⟩ = brF V pc ⟨A, B, 0⟩ := by simp [stepF, c6]
      rw [this]
      unfold brF
      simp only []
      rw [if_pos (by omega)]
    · rw [if_neg c] at hw; exact absurd rfl hw
  rw [if_neg c6] at hw ⊢
  by_cases c7 : A = 13
  · rw [if_pos c7] at hw ⊢
    by_cases c : (D.ctl.length : Int) < B
    · rw [if_pos c]
      have : stepF M (sidesF D.t).1 n pc V ⟨A, B, 0⟩ = brIfF V pc ⟨A, B, 0⟩ := by simp [stepF, c7]
      rw [this]
      unfold brIfF
      have v127 : Vals [127] := Vals.one (.inl rfl)
      simp only [carry_127]
      cases he : endsF D.st [127]
      · rw [pops_no hS v127 he]; simp
      · rw [endsF_iff] at he
        obtain ⟨sp, hsp⟩ := he
        rw [pops_eq hS hsp.symm v127]
        simp only [if_true]
        rw [if_pos (by omega)]
    · rw [if_neg c] at hw; exact absurd rfl hw
  rw [if_neg c7] at hw
  exact absurd rfl hw

theorem bad_immut (hm : M.mut3 = false) (ps : List UInt8) (z : Int) : (stepF M ps n pc V ⟨36, 3, z⟩).1 = some ((pc : Int), 24) := by
  rw [step_other _ _ _ _ _ _ (by simp only []; omega)]
  simp [plainF, gMut, hm, after]

theorem bad_settled (hS : Sim D V) {res : List UInt8} (hr : V.res (V.depth - 1) = firstF res) (hrl : res.length ≤ 1) (hrv : Vals res) (hs : D.st ≠ res) : (settledF V).1 = false := by
  unfold settledF
  rw [hr, carry_first V hrl hrv]
  cases he : endsF D.st res
  · rw [pops_no hS hrv he]; simp
  · have he2 := he
    rw [endsF_iff] at he2
    obtain ⟨sp, hsp⟩ := he2
    rw [pops_eq hS hsp.symm hrv]
    simp only [if_true]
    have hht := hS.ht
    have hfl := hS.top.fl
    rw [← hsp, List.length_append] at hht
    refine decide_eq_false ?_
    rw [hfl]
    intro hh
    have : sp = [] := List.eq_nil_of_length_eq_zero (by omega)
    rw [this] at hsp
    exact hs (by rw [← hsp]; rfl)

theorem Sim.owed (hS : Sim D V) (h0 : 0 ≤ D.t) (h2 : D.t ≤ 2) : V.res (V.depth - 1) = firstF (owedL D).1 ∧ (owedL D).1.length ≤ 1 ∧ Vals (owedL D).1 ∧ ((owedL D).2 = true → V.cop (V.depth - 1) = 4 ∧ V.res (V.depth - 1) ≠ 64) := by
  unfold owedL
  by_cases c : D.ctl.length = 0
  · rw [if_pos c]
    have hs := sides_vals h0 h2
    have hr := hS.lay.root
    have hd : V.depth - 1 = 0 := by rw [hS.dep, c]
    refine ⟨by rw [hd]; exact hr.2, hs.2.2.1, hs.2.1, fun h => by simp at h⟩
  · rw [if_neg c]
    obtain ⟨l1, l2, l3, l4, l5, l6, l7⟩ := hS.last c
    refine ⟨l3, l4, l5, fun h => ?_⟩
    simp only [Bool.and_eq_true, decide_eq_true_eq, Bool.not_eq_true'] at h
    refine ⟨l2.trans h.1, ?_⟩
    rw [l3]
    match hres : (lastB D).res, l5 with
    | [], _ => rw [hres] at h; simp at h
    | c :: r, hv => exact (val_nat (hv c (by simp))).2

theorem bad_misfit (h0 : 0 ≤ D.t) (h2 : D.t ≤ 2) (hM : IsFrame M D.t) (hS : Sim D V) {A B : Int} (hA : 0 ≤ A) (h36 : ¬ (A = 36 ∧ B = 3)) (hw : (misfitL D A B).2 = true) (z : Int) : (stepF M (sidesF D.t).1 n pc V ⟨A, (misfitL D A B).1, z⟩).1 = some ((pc : Int), 27) := by
  have hdep := hS.dep
  have v127 : Vals [127] := Vals.one (.inl rfl)
  unfold misfitL at hw ⊢
  by_cases c1 : A = 26
  · rw [if_pos c1] at hw ⊢
    simp only [decide_eq_true_eq] at hw
    have hst : D.st = [] := List.eq_nil_of_length_eq_zero (by omega)
    have hT := hS.top
    rw [hst] at hT
    have hp := hT.pop0 0
    rw [step_other _ _ _ _ _ _ (by simp only []; omega)]
    unfold plainF
    simp only []
    rw [if_neg (by omega), if_pos c1, hp, hS.live]
    simp [typedF, after]
  rw [if_neg c1] at hw ⊢
  by_cases c2 : A = 4
  · rw [if_pos c2] at hw ⊢
    simp only [Bool.and_eq_true, Bool.not_eq_true'] at hw
    unfold stepF
    simp only []
    rw [if_neg (by omega), if_neg (by omega), if_neg (by omega), if_pos c2, carry_127, pops_no hS v127 hw.2]
    simp
  rw [if_neg c2] at hw ⊢
  by_cases c3 : A = 11
  · rw [if_pos c3] at hw ⊢
    obtain ⟨o1, o2, o3, o4⟩ := hS.owed h0 h2
    have hst : stepF M (sidesF D.t).1 n pc V ⟨A, (0, (owedL D).2 || !(D.st == (owedL D).1)).1, z⟩ = endF V n pc := by simp [stepF, c3]
    rw [hst]
    unfold endF
    by_cases hs : D.st = (owedL D).1
    · rw [settled_ok hS o1 o2 o3 hs]
      simp only [if_true]
      have hl : (owedL D).2 = true := by simpa [← hs] using hw
      rw [if_pos (o4 hl)]
    · have hsf := bad_settled hS o1 o2 o3 hs
      simp [hsf]
  rw [if_neg c3] at hw ⊢
  by_cases c4 : A = 5
  · rw [if_pos c4] at hw ⊢
    by_cases c : D.ctl.length = 0
    · rw [if_pos c] at hw; simp at hw
    rw [if_neg c] at hw ⊢
    simp only [Bool.and_eq_true, decide_eq_true_eq, Bool.not_eq_true', beq_eq_false_iff_ne] at hw
    obtain ⟨l1, l2, l3, l4, l5, l6, l7⟩ := hS.last c
    have hst : stepF M (sidesF D.t).1 n pc V ⟨A, 0, z⟩ = elseF V pc := by simp [stepF, c4]
    rw [hst]
    unfold elseF
    have hsf := bad_settled hS l3 l4 l5 hw.2
    simp [hsf]
  rw [if_neg c4] at hw ⊢
  by_cases c5 : A = 12 ∨ A = 13
  · rw [if_pos c5] at hw ⊢
    cases hk : (labelL D B).2
    · rw [hk, if_pos rfl] at hw; simp at hw
    rw [hk, if_neg (by simp)] at hw
    rw [if_neg (by simp)]
    obtain ⟨l1, l2, l3, l4⟩ := label_sim hS h0 h2 hk
    by_cases c13 : A = 13
    · simp only [c13, if_true, Bool.not_eq_true'] at hw
      have hst : stepF M (sidesF D.t).1 n pc V ⟨A, B, z⟩ = brIfF V pc ⟨A, B, z⟩ := by simp [stepF, c13]
      rw [hst]
      unfold brIfF
      simp only [carry_127]
      cases he : endsF D.st [127]
      · rw [pops_no hS v127 he]; simp
      · rw [endsF_iff] at he
        obtain ⟨sp, hsp⟩ := he
        have hp := pops_eq hS hsp.symm v127
        rw [hp]
        simp only [if_true]
        have hht := hS.ht
        have h10 := hS.h10
        rw [← hsp] at hht h10
        simp only [List.length_append, List.length_singleton] at hht h10
        have hS1 : Sim { D with st := sp } { V with height := V.height - [(127 : UInt8)].length } := ⟨hS.dep, by simp only [List.length_singleton]; omega, pop_lay hS hsp.symm, by simp only []; omega, hS.n6⟩
        have hne : endsF sp (labelL D B).1 = false := by
          cases hh : endsF sp (labelL D B).1
          · rfl
          · rw [endsF_iff] at hh
            have : endsF D.st ((labelL D B).1 ++ [127]) = true := by
              rw [endsF_iff, ← hsp, suf_snoc]; exact ⟨hh, rfl⟩
            rw [hw] at this; simp at this
        have hlf : labelF { V with height := V.height - [(127 : UInt8)].length } B.toNat = firstF (labelL D B).1 := l1
        rw [if_neg l2, hlf, carry_first _ l3 l4, pops_no hS1 l4 hne]
        simp
    · simp only [c13, if_false, Bool.not_eq_true'] at hw
      have c12 : A = 12 := by omega
      have hst : stepF M (sidesF D.t).1 n pc V ⟨A, B, z⟩ = brF V pc ⟨A, B, z⟩ := by simp [stepF, c12]
      rw [hst]
      unfold brF
      simp only []
      rw [if_neg l2, l1, carry_first _ l3 l4, pops_no hS l4 hw]
      simp
  rw [if_neg c5] at hw ⊢
  by_cases c6 : A = 15
  · rw [if_pos c6] at hw ⊢
    simp only [Bool.not_eq_true'] at hw
    have hs := sides_vals h0 h2
    have hst : stepF M (sidesF D.t).1 n pc V ⟨A, 0, z⟩ = retF V pc := by simp [stepF, c6]
    rw [hst]
    unfold retF
    simp only []
    rw [hS.lay.root.2, carry_first _ hs.2.2.1 hs.2.1, pops_no hS hs.2.1 hw]
    simp
  rw [if_neg c6] at hw ⊢
  by_cases c7 : A = 27 ∧ D.st.length < 3
  · rw [if_pos c7]
    have hT := hS.top
    have hlv := hS.live
    rw [step_other _ _ _ _ _ _ (by simp only []; omega)]
    unfold plainF
    simp only []
    rw [if_neg (by omega), if_neg (by omega), if_pos c7.1]
    unfold selF
    simp only [carry_127]
    cases he : endsF D.st [127]
    · rw [pops_no hS v127 he]; simp [after]
    · rw [endsF_iff] at he
      obtain ⟨sp, hsp⟩ := he
      rw [pops_eq hS hsp.symm v127]
      simp only [if_true]
      rw [← hsp] at hT
      obtain ⟨_, hT1⟩ := hT.pop 127
      have h3 := c7.2
      rw [← hsp] at h3
      simp at h3
      have hT1' : Top { V with height := V.height - [(127 : UInt8)].length } D.below sp := hT1
      rcases snoc_cases sp with rfl | ⟨s2, b, rfl⟩
      · rw [hT1'.pop0]
        simp only [hlv]
        simp [after]
      · obtain ⟨p2, hT2⟩ := hT1'.pop 0
        rw [p2]
        simp only [decide_true, Bool.true_or, if_true]
        have : s2 = [] := List.eq_nil_of_length_eq_zero (by simp at h3; omega)
        subst this
        have hT2' : Top { V with height := V.height - [(127 : UInt8)].length - 1 } D.below [] := hT2
        rw [hT2'.pop0]
        simp only [hlv]
        simp [typedF, after]
  rw [if_neg c7] at hw ⊢
  simp only [Bool.and_eq_true, Bool.not_eq_true'] at hw
  have hvs := plain_vals h0 h2 hS.lay.vals A B
  rw [step_plain hM h0 h2 (by rw [← hw.1]) hS.top h36 n pc z, pops_no hS hvs.1 hw.2]
  simp [typedF, after]

theorem bad_tall (hD : DBnd D) (hM : IsFrame M D.t) (hS : Sim D V) {A B : Int} (h36 : ¬ (A = 36 ∧ B = 3)) (hw : tallL D A B = true) (z : Int) : (stepF M (sidesF D.t).1 n pc V ⟨A, (plainL D.t D.st A B).2.2.1, z⟩).1 = some ((pc : Int), 28) := by
  unfold tallL at hw
  simp only [Bool.and_eq_true, decide_eq_true_eq] at hw
  obtain ⟨hk, he, hh⟩ := hw
  have hvs := plain_vals hD.t0 hD.t2 hS.lay.vals A B
  have hgl := plain_glen hD A B
  have he2 := he
  rw [endsF_iff] at he2
  obtain ⟨sp, hsp⟩ := he2
  rw [step_plain hM hD.t0 hD.t2 (by rw [← hk]) hS.top h36 n pc z, pops_eq hS hsp.symm hvs.1]
  have hlsp : D.st.length = sp.length + (plainL D.t D.st A B).1.length := by rw [← congrArg List.length hsp]; simp
  have hht := hS.ht
  have h10 := hS.h10
  obtain ⟨V', q⟩ := simDeep (U := { V with height := V.height - (plainL D.t D.st A B).1.length }) pc hgl hvs.2 (by simp only []; omega) (by simp only []; omega)
  simp only [typedF, if_true]
  rw [q]

end
end Go.Proofs.Qxb6500273a
