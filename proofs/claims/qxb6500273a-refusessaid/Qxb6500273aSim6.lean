/-
  PLAIN LEAN: br_table, the full frame, dead code, the start.
-/
import Derived.Test.Qxb6500273aSim5
set_option linter.unusedVariables false
set_option linter.unusedSimpArgs false
namespace Go.Proofs.Qxb6500273a

/-! ### The full frame -/

theorem ruin_full {D : Dv} (h : Der D) {B : Int} (hv : isValF B = true) (hn : D.ctl.length < 6) (hf : D.below + D.st.length = 10) : Ruin D [⟨2, B, 0⟩, ⟨0, 0, 0⟩, ⟨11, 0, 0⟩] [] ((D.body.length : Int) + 2) 28 := by
  have hB := isVal_cases hv
  refine ruin_run h _ [] _ 28 (by simp) fun M n V e hM hm ht hS => ?_
  obtain ⟨V1, s1, hS1⟩ := step_open hS M (sidesF D.t).1 n D.body.length (A := 2) (B := B) (.inl rfl) (res := strF B) (by rw [first_str hB]; omega) (by simp [strF]) (vals_str hB) hn (D' := { D with ctl := D.ctl ++ [⟨2, strF B, D.st⟩], below := D.below + D.st.length, st := [] }) rfl rfl rfl rfl
  have h0 : ({ D with ctl := D.ctl ++ [⟨2, strF B, D.st⟩], below := D.below + D.st.length, st := [] } : Dv).ctl.length ≠ 0 := by simp
  obtain ⟨l1, l2, l3, l4, l5, l6, l7⟩ := hS1.last h0
  have hlast : lastB { D with ctl := D.ctl ++ [⟨2, strF B, D.st⟩], below := D.below + D.st.length, st := [] } = ⟨2, strF B, D.st⟩ := by simp [lastB]
  rw [hlast] at l2 l3
  have hfl := hS1.top.fl
  simp only [first_str hB] at l1 l2 l3 hfl
  have hdep := hS1.dep
  simp only [List.length_append, List.length_singleton] at hdep
  have hB64 : B ≠ 64 := by omega
  rw [List.cons_append, runF, s1]
  simp only [List.cons_append, List.nil_append]
  rw [runF, show stepF M (sidesF D.t).1 n (D.body.length + 1) V1 ⟨0, 0, 0⟩ = (none, cutF V1) by simp [stepF]]
  simp only []
  rw [runF]
  have hc : carryF (cutF V1) B = (true, cutF V1) := by
    unfold carryF
    rw [if_neg hB64]
    simp [popF, cutF, upd]
  have hst : stepF M (sidesF D.t).1 n (D.body.length + 1 + 1) (cutF V1) ⟨11, 0, 0⟩ = endF (cutF V1) n (D.body.length + 1 + 1) := by simp [stepF]
  have hres : (cutF V1).res ((cutF V1).depth - 1) = B := l3
  have hse : settledF (cutF V1) = (true, cutF V1) := by
    unfold settledF
    rw [hres, hc]
    simp [cutF]
  rw [hst]
  unfold endF
  simp only [hse, if_true]
  rw [if_neg (by intro hh; have := hh.1; simp only [cutF] at this; rw [l2] at this; simp at this), if_neg (by simp only [cutF]; omega)]
  rw [hres]
  have h10 : 10 ≤ V1.flr (V1.depth - 1) := by rw [hfl]; omega
  simp only [after]
  rw [if_neg (by simp), if_pos hB64]
  simp [pushF, cutF, h10]
  omega

/-! ### br_table -/

theorem first_64 {l : List UInt8} (hv : Vals l) : firstF l = 64 ↔ l = [] := by
  match l, hv with
  | [], _ => simp [firstF]
  | c :: r, hv => simp [firstF]; exact (val_nat (hv c (by simp))).2

theorem fits_ends {D : Dv} {V : VS} (h : Sim D V) {l : List UInt8} (hl : l.length ≤ 1) (hv : Vals l) : fitsF V (firstF l) = endsF D.st l := by
  match l, hl, hv with
  | [], _, _ =>
    rw [show endsF D.st [] = true by rw [endsF_iff]; exact List.nil_suffix]
    rfl
  | [c], _, hv =>
    have hc := val_nat (hv c (by simp))
    show fitsF V (c.toNat : Int) = _
    unfold fitsF
    rw [if_neg hc.2]
    have hT := h.top
    have hlv := h.live
    rcases snoc_cases D.st with hs | ⟨s, d, hs⟩
    · rw [hs] at hT ⊢
      rw [if_pos (by rw [hT.ht, hT.fl]; rfl), hlv]
      rfl
    · rw [hs] at hT ⊢
      have hh := hT.ht
      simp only [List.length_append, List.length_singleton] at hh
      have hf := hT.fl
      have ho := hT.ops s.length (by simp)
      rw [show (s ++ [d]).getD s.length 0 = d by simp] at ho
      have hd := val_nat hT.vals.snoc.2
      rw [if_neg (by omega), show V.height - 1 = D.below + s.length by omega, ho]
      have he : endsF (s ++ [d]) [c] = decide ((d.toNat : Int) = (c.toNat : Int)) := by
        rw [Bool.eq_iff_iff, endsF_iff, decide_eq_true_iff]
        have := suf_snoc (a := []) (s := s) (t := c) (c := d)
        rw [List.nil_append] at this
        rw [this]
        constructor
        · rintro ⟨_, rfl⟩; rfl
        · intro e; exact ⟨List.nil_suffix, (nat_inj e).symm⟩
      rw [he]
      have hd0 : ¬ d.toNat = 0 := by have := hd.1; omega
      simp [hd0]

theorem tab_go {D : Dv} {V : VS} (h : Sim D V) (h0 : 0 ≤ D.t) (h2 : D.t ≤ 2) {df : List UInt8} (hdl : df.length ≤ 1) (hdv : Vals df) : ∀ ls : List UInt8,
    tabGo V (firstF df) (ls.map fun c => (c.toNat : Int)) = if tabLoop D D.st df ls = 0 then none else some (tabLoop D D.st df ls)
  | [] => rfl
  | c :: r => by
    have hdep := h.dep
    rw [List.map_cons, tabGo, tabLoop]
    unfold lab
    cases hk : (labelL D (c.toNat : Int)).2
    · have : (V.depth : Int) ≤ (c.toNat : Int) := by
        unfold labelL at hk
        by_cases q : (c.toNat : Int) < 0 ∨ (D.ctl.length : Int) < (c.toNat : Int)
        · omega
        · rw [if_neg q] at hk
          split at hk
          · simp at hk
          · split at hk <;> simp at hk
      rw [if_pos this, if_pos rfl]
      simp
    · obtain ⟨l1, l2, l3, l4⟩ := label_sim h h0 h2 hk
      rw [if_neg l2, l1]
      simp only [Bool.true_eq_false, if_false]
      have e1 : decide (firstF (labelL D (c.toNat : Int)).1 = 64) = decide ((labelL D (c.toNat : Int)).1.length = 0) := by
        rw [Bool.eq_iff_iff, decide_eq_true_iff, decide_eq_true_iff, first_64 l4]
        exact List.length_eq_zero_iff.symm
      have e2 : decide (firstF df = 64) = decide (df.length = 0) := by
        rw [Bool.eq_iff_iff, decide_eq_true_iff, decide_eq_true_iff, first_64 hdv]
        exact List.length_eq_zero_iff.symm
      rw [e1, e2]
      by_cases hne : (labelL D (c.toNat : Int)).1.length = df.length
      · have q1 : ¬ (decide ((labelL D (c.toNat : Int)).1.length = 0) ≠ decide (df.length = 0)) := by rw [hne]; simp
        have q2 : ¬ ((labelL D (c.toNat : Int)).1.length ≠ df.length) := fun hh => hh hne
        rw [fits_ends h l3 l4, if_neg q1, if_neg q2]
        cases he : endsF D.st (labelL D (c.toNat : Int)).1
        · simp
        · simp only [if_true, Bool.true_eq_false, if_false]
          exact tab_go h h0 h2 hdl hdv r
      · rw [if_pos (by
          intro hh
          have := decide_eq_decide.mp hh
          omega), if_pos hne]
        simp

theorem ruin_table {D : Dv} (h : Der D) {ls : List UInt8} (h1 : 0 < ls.length) (hw : tabledL D ls ≠ 0) : Ruin D [⟨14, 0, (ls.length : Int)⟩] (ls.map fun c => (c.toNat : Int)) D.body.length (tabledL D ls) := by
  refine ruin_one h _ _ _ hw fun M n pc V hM hm ht hS => ?_
  have v127 : Vals [127] := Vals.one (.inl rfl)
  have hst : stepF M (sidesF D.t).1 n pc V ⟨14, 0, (ls.length : Int)⟩ = brTableF V pc M.tabs ⟨14, 0, (ls.length : Int)⟩ := by simp [stepF]
  rw [hst, ht]
  unfold brTableF
  simp only [carry_127]
  unfold tabledL at hw ⊢
  cases he : endsF D.st [127]
  · rw [pops_no hS v127 he]; simp
  rw [he] at hw
  simp only [Bool.true_eq_false, if_false] at hw ⊢
  rw [endsF_iff] at he
  obtain ⟨sp, hsp⟩ := he
  have htk : D.st.take (D.st.length - 1) = sp := by rw [← hsp, List.length_append, List.length_singleton, Nat.add_sub_cancel, List.take_left]
  rw [htk] at hw ⊢
  rw [pops_eq hS hsp.symm v127]
  simp only [if_true]
  have hht := hS.ht
  have h10 := hS.h10
  rw [← hsp] at hht h10
  simp only [List.length_append, List.length_singleton] at hht h10
  have hS1 : Sim { D with st := sp } { V with height := V.height - [(127 : UInt8)].length } := ⟨hS.dep, by simp only [List.length_singleton]; omega, pop_lay hS hsp.symm, by simp only []; omega, hS.n6⟩
  have hlab : ∀ c, lab { D with st := sp } c = lab D c := fun c => rfl
  have hloop : ∀ df l, tabLoop { D with st := sp } sp df l = tabLoop D sp df l := fun df l => by
    induction l with
    | nil => rfl
    | cons c r ih => simp only [tabLoop, hlab, ih]
  rw [if_neg (by simp only [List.length_map]; omega)]
  have hgd : (ls.map fun c => (c.toNat : Int)).getD ((0 : Int) + (ls.length : Int) - 1).toNat 0 = ((ls.getD (ls.length - 1) 0).toNat : Int) := by
    rw [show ((0 : Int) + (ls.length : Int) - 1).toNat = ls.length - 1 by omega]
    have : ls.length - 1 < ls.length := by omega
    simp [List.getD, this]
  rw [hgd]
  have htd : ((ls.map fun c => (c.toNat : Int)).drop (0 : Int).toNat).take ((ls.length : Int)).toNat = ls.map fun c => (c.toNat : Int) := by
    simp only [Int.toNat_zero, List.drop_zero, Int.toNat_natCast]
    exact List.take_of_length_le (by simp)
  rw [htd]
  have hdep := hS.dep
  cases hk : (lab D (ls.getD (ls.length - 1) 0)).2
  · have : ((({ V with height := V.height - [(127 : UInt8)].length } : VS).depth : Int)) ≤ ((ls.getD (ls.length - 1) 0).toNat : Int) := by
      unfold lab labelL at hk
      by_cases q : (((ls.getD (ls.length - 1) 0).toNat : Int)) < 0 ∨ (D.ctl.length : Int) < ((ls.getD (ls.length - 1) 0).toNat : Int)
      · simp only []; omega
      · rw [if_neg q] at hk
        split at hk
        · simp at hk
        · split at hk <;> simp at hk
    rw [if_pos this, if_pos rfl]
  · rw [hk] at hw
    simp only [Bool.true_eq_false, if_false] at hw ⊢
    have hk2 : (labelL { D with st := sp } ((ls.getD (ls.length - 1) 0).toNat : Int)).2 = true := hk
    obtain ⟨l1, l2, l3, l4⟩ := label_sim hS1 h.t0 h.t2 hk2
    rw [if_neg l2]
    have hl1 : labelF { V with height := V.height - [(127 : UInt8)].length } ((ls.getD (ls.length - 1) 0).toNat : Int).toNat = firstF (lab D (ls.getD (ls.length - 1) 0)).1 := l1
    have hgo := tab_go hS1 h.t0 h.t2 (df := (lab D (ls.getD (ls.length - 1) 0)).1) l3 l4 ls
    rw [hl1, hgo]
    rw [hloop] at *
    rw [if_neg hw]

/-! ### Dead code -/

theorem ruin_dead {D : Dv} (h : Der D) {c : UInt8} (hc : c = 127 ∨ c = 126 ∨ c = 125 ∨ c = 124) (hbl : D.below < 10) (x : Insn)
    (hx : ∀ M n pc V, IsFrame M D.t → Top V D.below [c] → V.res (V.depth - 1) = firstF (owedL D).1 → ((owedL D).2 = true → V.cop (V.depth - 1) = 4 ∧ V.res (V.depth - 1) ≠ 64) → (stepF M (sidesF D.t).1 n pc V x).1 = some ((pc : Int), 27)) :
    Ruin D [⟨0, 0, 0⟩, ⟨65 + (127 - (c.toNat : Int)), 0, 0⟩, x] [] ((D.body.length : Int) + 2) 27 := by
  refine ruin_run h _ [] _ 27 (by simp) fun M n V e hM hm ht hS => ?_
  have hcn : (c.toNat : Int) = 127 ∨ (c.toNat : Int) = 126 ∨ (c.toNat : Int) = 125 ∨ (c.toNat : Int) = 124 := by
    rcases hc with rfl | rfl | rfl | rfl <;> decide
  obtain ⟨o1, o2, o3, o4⟩ := hS.owed h.t0 h.t2
  have hfl := hS.top.fl
  rw [List.cons_append, runF, show stepF M (sidesF D.t).1 n D.body.length V ⟨0, 0, 0⟩ = (none, cutF V) by simp [stepF]]
  simp only [List.cons_append, List.nil_append]
  have hcst : stepF M (sidesF D.t).1 n (D.body.length + 1) (cutF V) ⟨65 + (127 - (c.toNat : Int)), 0, 0⟩ = (none, (pushF (cutF V) (c.toNat : Int)).2) := by
    rw [step_other _ _ _ _ _ _ (by simp only []; omega)]
    unfold plainF
    simp only []
    rw [if_neg (by omega), if_neg (by omega), if_neg (by omega), if_neg (by omega), if_neg (by omega), if_neg (by omega), if_pos (by omega)]
    have : constOfF (65 + (127 - (c.toNat : Int))) = (c.toNat : Int) := by unfold constOfF; rw [if_pos (by omega)]; omega
    rw [this]
    have hne : (c.toNat : Int) ≠ 64 := by omega
    have hpt : (pushF (cutF V) (c.toNat : Int)).1 = true := by
      unfold pushF
      rw [if_neg (by simp only [cutF]; omega)]
    simp only [after]
    rw [if_neg (by simp), if_pos hne, if_pos hpt]
  rw [runF, hcst]
  simp only []
  have hpu : (pushF (cutF V) (c.toNat : Int)).2 = { cutF V with ops := upd V.ops D.below (c.toNat : Int), height := D.below + 1, high := max V.high ((D.below + 1 : Nat) : Int) } := by
    unfold pushF
    rw [if_neg (by simp only [cutF]; omega)]
    simp only [cutF, hfl]
  have hT : Top (pushF (cutF V) (c.toNat : Int)).2 D.below [c] := by
    rw [hpu]
    refine ⟨by simp only [cutF]; exact hfl, by simp, fun i hi => ?_, Vals.one hc⟩
    have : i = 0 := by simpa using hi
    subst this
    simp [upd]
  have hstep := hx M n (D.body.length + 1 + 1) (pushF (cutF V) (c.toNat : Int)).2 hM hT (by rw [hpu]; exact o1) (by rw [hpu]; exact o4)
  rw [runF]
  revert hstep
  generalize stepF M (sidesF D.t).1 n (D.body.length + 1 + 1) (pushF (cutF V) (c.toNat : Int)).2 x = r
  obtain ⟨r1, r2⟩ := r
  intro hstep
  simp only [] at hstep
  subst hstep
  simp only []
  rw [show (((D.body.length + 1 + 1 : Nat) : Int)) = (D.body.length : Int) + 2 by omega]

theorem dead_settled {V : VS} {below : Nat} {c : UInt8} (hT : Top V below [c]) {r : List UInt8} (hr : V.res (V.depth - 1) = firstF r) (hrl : r.length ≤ 1) (hrv : Vals r) (hs : r ≠ [c]) : (settledF V).1 = false := by
  have hT' : Top V below ([] ++ [c]) := hT
  unfold settledF
  rw [hr, carry_first V hrl hrv]
  match r, hrl, hrv, hs with
  | [], _, _, _ =>
    rw [popsF_nil]
    simp only [if_true]
    refine decide_eq_false ?_
    rw [hT.fl, hT.ht]
    simp
  | [d], _, hrv, hs =>
    have hd := val_nat (hrv d (by simp))
    obtain ⟨p, _⟩ := hT'.pop (d.toNat : Int)
    have hne : ¬ (c.toNat : Int) = (d.toNat : Int) := fun e => hs (by rw [nat_inj e])
    rw [popsF_one, p]
    have hd0 : ¬ d.toNat = 0 := by have := hd.1; omega
    simp [hd0, hne]

theorem dead_end {D : Dv} (h0 : 0 ≤ D.t) (h2 : D.t ≤ 2) (hb : DBnd D) {V : VS} {c : UInt8} (hr1 : (owedL D).1.length ≤ 1) (hrv : Vals (owedL D).1) (hT : Top V D.below [c]) (hr : V.res (V.depth - 1) = firstF (owedL D).1) (hl : (owedL D).2 = true → V.cop (V.depth - 1) = 4 ∧ V.res (V.depth - 1) ≠ 64) (hbad : (owedL D).1 ≠ [c] ∨ (owedL D).2 = true) (M : Md) (ps : List UInt8) (n pc : Nat) (a b : Int) : (stepF M ps n pc V ⟨11, a, b⟩).1 = some ((pc : Int), 27) := by
  have hst : stepF M ps n pc V ⟨11, a, b⟩ = endF V n pc := by simp [stepF]
  rw [hst]
  unfold endF
  by_cases hs : (owedL D).1 = [c]
  · have hl2 : (owedL D).2 = true := by
      rcases hbad with h | h
      · exact absurd hs h
      · exact h
    have hT' : Top V D.below ([] ++ [c]) := hT
    obtain ⟨p, hT2⟩ := hT'.pop (c.toNat : Int)
    have hfl := hT.fl
    have hht := hT.ht
    have hse : settledF V = (true, { V with height := V.height - 1 }) := by
      unfold settledF
      rw [hr, carry_first V hr1 hrv, hs, popsF_one, p]
      simp only [decide_true, Bool.or_true, if_true]
      rw [show decide (V.height - 1 = V.flr (V.depth - 1)) = true from decide_eq_true (by rw [hfl, hht]; simp)]
    simp only [hse, if_true]
    rw [if_pos (hl hl2)]
  · have hsf := dead_settled hT hr hr1 hrv hs
    simp [hsf]

theorem dead_plain {D : Dv} {M : Md} (h0 : 0 ≤ D.t) (h2 : D.t ≤ 2) (hM : IsFrame M D.t) {V : VS} {c : UInt8} (hT : Top V D.below [c]) {A B : Int} (h36 : ¬ (A = 36 ∧ B = 3)) (hk : (plainL D.t [c] A B).2.2.2 = true) {tp : List UInt8} {d : UInt8} (htk : (plainL D.t [c] A B).1 = tp ++ [d]) (hd : d ≠ c) (n pc : Nat) (z : Int) : (stepF M (sidesF D.t).1 n pc V ⟨A, (plainL D.t [c] A B).2.2.1, z⟩).1 = some ((pc : Int), 27) := by
  have hvs := (plain_vals (D := { D with st := [c] }) h0 h2 hT.vals A B).1
  simp only [] at hvs
  rw [htk] at hvs
  have hdn := val_nat hvs.snoc.2
  have hT' : Top V D.below ([] ++ [c]) := hT
  obtain ⟨p, _⟩ := hT'.pop (d.toNat : Int)
  have hne : ¬ (c.toNat : Int) = (d.toNat : Int) := fun e => hd (nat_inj e).symm
  rw [step_plain hM h0 h2 (by rw [← hk]) hT h36 n pc z, htk, popsF_snoc, p]
  have hd0 : ¬ d.toNat = 0 := by have := hdn.1; omega
  simp [hd0, hne, typedF, after]

/-! ### The start -/

def modT (t : Int) (body : List Insn) (tabs : List Int) : Md := { mod0 t body tabs with start := 1 }

theorem started {D : Dv} (h : Der D) (h0 : D.ctl.length = 0) (hs : D.st = (owedL D).1) (V : VS) : (validateF (modT D.t (D.body ++ [⟨11, 0, 0⟩]) []) V).1 = if D.t = 0 then (1, 0, 0) else (-1, 0, 19) := by
  by_cases ht : D.t = 0
  · rw [if_pos ht]
    have hM : IsFrame (modT D.t (D.body ++ [⟨11, 0, 0⟩]) []) D.t := ⟨rfl, rfl, rfl, rfl, rfl⟩
    have hp : partsF (modT D.t (D.body ++ [⟨11, 0, 0⟩]) []) = (0, 0) := by rw [ht]; rfl
    have htx : splitF (typeText (modT D.t (D.body ++ [⟨11, 0, 0⟩]) []) (modT D.t (D.body ++ [⟨11, 0, 0⟩]) []).ft.toNat) = sidesF D.t := by rw [ht]; rfl
    have hb : (bodyF (modT D.t (D.body ++ [⟨11, 0, 0⟩]) []) V).1 = (0, 0) := by
      unfold bodyF
      rw [htx]
      obtain ⟨V1, h1, hS⟩ := h.run _ (modT D.t (D.body ++ [⟨11, 0, 0⟩]) []).body.length V hM
      have h3 := h1.run [⟨11, 0, 0⟩]
      have hbd : (modT D.t (D.body ++ [⟨11, 0, 0⟩]) []).body = D.body ++ [⟨11, 0, 0⟩] := rfl
      rw [hbd] at h3 ⊢
      rw [h3, Nat.zero_add, runF]
      obtain ⟨o1, o2, o3, o4⟩ := hS.owed h.t0 h.t2
      have hse := settled_ok hS o1 o2 o3 hs
      have hdep := hS.dep
      have hcop := hS.lay.root.1
      have hst : stepF (modT D.t (D.body ++ [⟨11, 0, 0⟩]) []) (sidesF D.t).1 (D.body ++ [(⟨11, 0, 0⟩ : Insn)]).length D.body.length V1 ⟨11, 0, 0⟩ = endF V1 (D.body ++ [(⟨11, 0, 0⟩ : Insn)]).length D.body.length := by simp [stepF]
      rw [hst]
      unfold endF
      simp only [hse, if_true]
      have hd0 : V1.depth - 1 = 0 := by omega
      rw [if_neg (by rw [hd0, hcop]; simp), if_pos hd0, if_neg (by simp)]
    unfold validateF
    rw [hp, if_neg (by simp), hb, if_neg (by simp)]
  · rw [if_neg ht]
    have hp : partsF (modT D.t (D.body ++ [⟨11, 0, 0⟩]) []) = (0, 19) := by
      have := three h.t0 h.t2
      rcases this with e | e | e
      · exact absurd e ht
      · rw [e]; rfl
      · rw [e]; rfl
    unfold validateF
    rw [hp, if_pos (by simp)]

end Go.Proofs.Qxb6500273a
