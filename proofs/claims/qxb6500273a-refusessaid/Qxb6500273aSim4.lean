/-
  PLAIN LEAN: one step of the derivation is one step of the validator.
-/
import Derived.Test.Qxb6500273aSim3
import Derived.Test.Qxb6500273aTall
set_option linter.unusedVariables false
set_option linter.unusedSimpArgs false
namespace Go.Proofs.Qxb6500273a

theorem plain_vals {D : Dv} (h0 : 0 ≤ D.t) (h2 : D.t ≤ 2) (hv : Vals D.st) (A B : Int) : Vals (plainL D.t D.st A B).1 ∧ Vals (plainL D.t D.st A B).2.1 := by
  have hs := sides_vals h0 h2
  have v127 : Vals [127] := Vals.one (.inl rfl)
  have hl := Vals.app hs.1 four_vals
  have numv : (numSigF A).1 ≠ 0 → Vals (strF (numSigF A).2.1) ∧ Vals (strF (numSigF A).2.2) := fun h => ⟨vals_str (numSig_val h).1, vals_str (numSig_val h).2⟩
  unfold plainL
  repeat' (refine ite_ind (P := fun p : List UInt8 × List UInt8 × Int × Bool => Vals p.1 ∧ Vals p.2.1) (fun hc => ?_) (fun hc => ?_))
  all_goals simp only []
  · exact numv (by omega)
  · exact ⟨Vals.app (numv (by omega)).1 (numv (by omega)).1, (numv (by omega)).2⟩
  · exact ⟨Vals.nil, Vals.nil⟩
  · exact ⟨Vals.nil, vals_str (by omega)⟩
  · exact ⟨Vals.nil, Vals.nil⟩
  · exact ⟨hv.drop _, Vals.nil⟩
  · exact ⟨Vals.nil, Vals.nil⟩
  · exact ⟨Vals.app (Vals.app ((hv.drop _).take _) ((hv.drop _).take _)) v127, (hv.drop _).take _⟩
  · exact ⟨Vals.nil, Vals.nil⟩
  · exact ⟨Vals.nil, (hl.drop _).take _⟩
  · exact ⟨(hl.drop _).take _, Vals.nil⟩
  · exact ⟨(hl.drop _).take _, (hl.drop _).take _⟩
  · exact ⟨Vals.nil, Vals.nil⟩
  · exact ⟨Vals.nil, (four_vals.drop _).take _⟩
  · exact ⟨(four_vals.drop _).take _, Vals.nil⟩
  · exact ⟨Vals.nil, Vals.nil⟩
  · exact ⟨v127, vals_str (memSig_val (by assumption)).1⟩
  · exact ⟨Vals.app v127 (vals_str (memSig_val (by assumption)).1), Vals.nil⟩
  · exact ⟨Vals.nil, v127⟩
  · exact ⟨v127, v127⟩
  · exact ⟨Vals.nil, Vals.nil⟩
  · by_cases hB : B = 1
    · simp only [hB, if_true]; exact ⟨hs.1, hs.2.1⟩
    · simp only [hB, if_false]
      have := sides_vals (k := 1) (by omega) (by omega)
      exact ⟨this.1, this.2.1⟩
  · exact ⟨Vals.nil, Vals.nil⟩
  · have := sides_vals (k := B) (by omega) (by omega)
    exact ⟨Vals.app this.1 v127, this.2.1⟩
  · exact ⟨Vals.nil, Vals.nil⟩

theorem plain_X {t : Int} {st : List UInt8} {A B : Int} : 0 ≤ (plainL t st A B).2.2.1 ∧ (t = 0 ∨ t = 1 ∨ t = 2 → (plainL t st A B).2.2.1 ≤ 4294967295) := by
  have hl : t = 0 ∨ t = 1 ∨ t = 2 → ((sidesF t).1 ++ allFour).length ≤ 8 := fun h => by rcases h with rfl | rfl | rfl <;> decide
  unfold plainL
  repeat' (refine ite_ind (P := fun p : List UInt8 × List UInt8 × Int × Bool => 0 ≤ p.2.2.1 ∧ (t = 0 ∨ t = 1 ∨ t = 2 → p.2.2.1 ≤ 4294967295)) (fun hc => ?_) (fun hc => ?_))
  all_goals simp only []
  all_goals first
    | exact ⟨by omega, fun _ => by omega⟩
    | exact ⟨by omega, fun h => by have := hl h; omega⟩

/-- a block opens over a state whose operands are st -/
theorem open_sim {D : Dv} {V : VS} (pc : Nat) (x : Insn) {st res : List UInt8} (hdep : V.depth = D.ctl.length + 1) (hht : V.height = D.below + st.length) (hl : LayR V D.t D.ctl.reverse st D.below) (h10 : D.below + st.length ≤ 10) (hx : x.op = 2 ∨ x.op = 3 ∨ x.op = 4 ∨ x.op = 5) (hr : firstF res = x.x % 256) (hrl : res.length ≤ 1) (hrv : Vals res) (hn : D.ctl.length < 6)
    {D' : Dv} (e1 : D'.t = D.t) (e2 : D'.ctl = D.ctl ++ [⟨x.op, res, st⟩]) (e3 : D'.below = D.below + st.length) (e4 : D'.st = []) : ∃ V', openF V pc x = (none, V') ∧ Sim D' V' := by
  unfold openF
  rw [if_neg (by omega)]
  refine ⟨_, rfl, ?_, ?_, ?_, ?_, ?_⟩
  · simp [e2, hdep]
  · simp only [e3, e4, List.length_nil]; omega
  · rw [e1, e2, e3, e4, List.reverse_append, List.reverse_singleton, List.singleton_append]
    have hlen : D.ctl.reverse.length + 1 = V.depth := by rw [List.length_reverse]; omega
    refine ⟨hx, hrl, hrv, ?_, ?_, ?_, ?_, fun i hi => by simp at hi, Vals.nil, by simp only []; omega, ?_⟩
    · simp only [hlen, upd, if_true]; omega
    · simp only [hlen, upd, if_true]
    · simp only [hlen, upd, if_true]; exact hr.symm
    · simp only [hlen, upd, if_true]
    · simp only [show D.below + st.length - st.length = D.below by omega]
      refine hl.turn (fun k hk => ?_) (fun i hi => rfl) hl.ops hl.vals
      have hk2 : k ≠ V.depth := by rw [List.length_reverse] at hk; omega
      simp [upd, hk2]
  · simp only [e3, e4, List.length_nil]; omega
  · rw [e2]; simp; omega

theorem step_open {D : Dv} {V : VS} (h : Sim D V) (M : Md) (ps : List UInt8) (n pc : Nat) {A B : Int} (hA : A = 2 ∨ A = 3) {res : List UInt8} (hr : firstF res = B % 256) (hrl : res.length ≤ 1) (hrv : Vals res) (hn : D.ctl.length < 6) {D' : Dv} (e1 : D'.t = D.t) (e2 : D'.ctl = D.ctl ++ [⟨A, res, D.st⟩]) (e3 : D'.below = D.below + D.st.length) (e4 : D'.st = []) :
    ∃ V', stepF M ps n pc V ⟨A, B, 0⟩ = (none, V') ∧ Sim D' V' := by
  have hs : stepF M ps n pc V ⟨A, B, 0⟩ = openF V pc ⟨A, B, 0⟩ := by
    unfold stepF
    simp only []
    rw [if_neg (by omega), if_neg (by omega), if_pos hA]
  rw [hs]
  exact open_sim pc ⟨A, B, 0⟩ h.dep h.ht h.lay h.h10 (by simp only []; omega) hr hrl hrv hn e1 e2 e3 e4

theorem pop_lay {D : Dv} {V : VS} (h : Sim D V) {sp take : List UInt8} (hsp : D.st = sp ++ take) : LayR { V with height := V.height - take.length } D.t D.ctl.reverse sp D.below := by
  have hvs : Vals (sp ++ take) := hsp ▸ h.lay.vals
  refine h.lay.turn (fun k _ => ⟨rfl, rfl, rfl, rfl⟩) (fun i _ => rfl) ?_ (fun c hc => hvs c (by simp [hc]))
  exact opsAt_left (V := V) (hsp ▸ h.lay.ops)

theorem pops_eq {D : Dv} {V : VS} (h : Sim D V) {sp take : List UInt8} (hsp : D.st = sp ++ take) (hv : Vals take) : popsF V take = (true, { V with height := V.height - take.length }) := by
  have he : endsF D.st take = true := by rw [endsF_iff, hsp]; exact List.suffix_append _ _
  obtain ⟨p1, p2⟩ := h.top.pops h.live hv
  exact Prod.ext (p1.trans he) (p2 he)
theorem pops_no {D : Dv} {V : VS} (h : Sim D V) {take : List UInt8} (hv : Vals take) (he : endsF D.st take = false) : (popsF V take).1 = false := (h.top.pops h.live hv).1.trans he

theorem step_if {D : Dv} {V : VS} (h : Sim D V) (M : Md) (ps : List UInt8) (n pc : Nat) {B : Int} {res st : List UInt8} (hst : D.st = st ++ [127]) (hr : firstF res = B % 256) (hrl : res.length ≤ 1) (hrv : Vals res) (hn : D.ctl.length < 6) {D' : Dv} (e1 : D'.t = D.t) (e2 : D'.ctl = D.ctl ++ [⟨4, res, st⟩]) (e3 : D'.below = D.below + st.length) (e4 : D'.st = []) :
    ∃ V', stepF M ps n pc V ⟨4, B, 0⟩ = (none, V') ∧ Sim D' V' := by
  have hp := pops_eq h hst (Vals.one (.inl rfl))
  have hs : stepF M ps n pc V ⟨4, B, 0⟩ = openF { V with height := V.height - 1 } pc ⟨4, B, 0⟩ := by
    unfold stepF
    simp only []
    rw [if_neg (by omega), if_neg (by omega), if_neg (by omega), if_pos trivial, carry_127, hp]
    simp
  rw [hs]
  have hht := h.ht
  have h10 := h.h10
  rw [hst, List.length_append, List.length_singleton] at hht h10
  exact open_sim (D := D) (V := { V with height := V.height - 1 }) pc ⟨4, B, 0⟩ h.dep (by simp only []; omega) (pop_lay h hst) (by omega) (.inr (.inr (.inl rfl))) hr hrl hrv hn e1 e2 e3 e4

/-- the settled block -/
theorem settled_ok {D : Dv} {V : VS} (h : Sim D V) {res : List UInt8} (hr : V.res (V.depth - 1) = firstF res) (hrl : res.length ≤ 1) (hrv : Vals res) (hs : D.st = res) : settledF V = (true, { V with height := D.below }) := by
  have hp := pops_eq h (sp := []) (take := res) (by rw [hs]; rfl) hrv
  have hht := h.ht
  rw [hs] at hht
  have hc : carryF V (V.res (V.depth - 1)) = (true, { V with height := D.below }) := by
    rw [hr, carry_first V hrl hrv, hp]
    simp only [show V.height - res.length = D.below by omega]
  unfold settledF
  rw [hc]
  have hf := h.top.fl
  simp [hf]

theorem Sim.last {D : Dv} {V : VS} (h : Sim D V) (h0 : D.ctl.length ≠ 0) : V.depth - 1 = D.ctl.length ∧ V.cop (V.depth - 1) = (lastB D).op ∧ V.res (V.depth - 1) = firstF (lastB D).res ∧ (lastB D).res.length ≤ 1 ∧ Vals (lastB D).res ∧ (lastB D).outer.length ≤ D.below ∧ LayR V D.t (D.ctl.take (D.ctl.length - 1)).reverse (lastB D).outer (D.below - (lastB D).outer.length) := by
  have hl := h.lay
  rw [rev_last h0] at hl
  obtain ⟨a1, a2, a3, a4, a5, a6, a7, a8, a9, a10, a11⟩ := hl
  have hlen : (D.ctl.take (D.ctl.length - 1)).reverse.length + 1 = D.ctl.length := by simp; omega
  rw [hlen] at a4 a5 a6 a7
  have hd : V.depth - 1 = D.ctl.length := by rw [h.dep]; omega
  exact ⟨hd, by rw [hd]; exact a5, by rw [hd]; exact a6, a2, a3, a10, a11⟩

theorem step_else {D : Dv} {V : VS} (h : Sim D V) (M : Md) (ps : List UInt8) (n pc : Nat) (h0 : D.ctl.length ≠ 0) (h4 : (lastB D).op = 4) (hs : D.st = (lastB D).res) {D' : Dv} (e1 : D'.t = D.t) (e2 : D'.ctl = D.ctl.take (D.ctl.length - 1) ++ [⟨5, (lastB D).res, (lastB D).outer⟩]) (e3 : D'.below = D.below) (e4 : D'.st = []) :
    ∃ V', stepF M ps n pc V ⟨5, 0, 0⟩ = (none, V') ∧ Sim D' V' := by
  obtain ⟨l1, l2, l3, l4, l5, l6, l7⟩ := h.last h0
  have hse := settled_ok h l3 l4 l5 hs
  have hst : stepF M ps n pc V ⟨5, 0, 0⟩ = elseF V pc := by simp [stepF]
  have hdep := h.dep
  rw [hst]
  unfold elseF
  simp only [hse, if_true]
  rw [if_neg (by omega), if_neg (by rw [l2, h4]; simp)]
  have hlen : (D.ctl.take (D.ctl.length - 1)).length = D.ctl.length - 1 := by simp
  refine ⟨_, rfl, ?_, ?_, ?_, ?_, ?_⟩
  · simp only [e2, List.length_append, hlen, List.length_singleton]; omega
  · simp only [e3, e4, List.length_nil]; omega
  · rw [e1, e2, e3, e4, List.reverse_append, List.reverse_singleton, List.singleton_append]
    have hk : (D.ctl.take (D.ctl.length - 1)).reverse.length + 1 = V.depth - 1 := by rw [List.length_reverse, hlen]; omega
    refine ⟨by simp, l4, l5, ?_, ?_, ?_, ?_, fun i hi => by simp at hi, Vals.nil, l6, ?_⟩
    · simp only [hk]; exact h.top.fl
    · simp only [hk, upd, if_true]
    · simp only [hk]; exact l3
    · simp only [hk, upd, if_true]
    · refine l7.turn (fun k hkk => ?_) (fun i hi => rfl) l7.ops l7.vals
      have : k ≠ V.depth - 1 := by rw [List.length_reverse, hlen] at hkk; omega
      simp [upd, this]
  · simp only [e3, e4, List.length_nil]; have := h.h10; omega
  · rw [e2, List.length_append, hlen]; simp; have := h.n6; omega

theorem step_end {D : Dv} {V : VS} (h : Sim D V) (M : Md) (ps : List UInt8) (n pc : Nat) (h0 : D.ctl.length ≠ 0) (h4 : ¬ ((lastB D).op = 4 ∧ (lastB D).res ≠ [])) (hs : D.st = (lastB D).res) {D' : Dv} (e1 : D'.t = D.t) (e2 : D'.ctl = D.ctl.take (D.ctl.length - 1)) (e3 : D'.below = D.below - (lastB D).outer.length) (e4 : D'.st = (lastB D).outer ++ (lastB D).res) :
    ∃ V', stepF M ps n pc V ⟨11, 0, 0⟩ = (none, V') ∧ Sim D' V' := by
  obtain ⟨l1, l2, l3, l4, l5, l6, l7⟩ := h.last h0
  have hse := settled_ok h l3 l4 l5 hs
  have hst : stepF M ps n pc V ⟨11, 0, 0⟩ = endF V n pc := by simp [stepF]
  have hdep := h.dep
  have h10 := h.h10
  rw [hs] at h10
  rw [hst]
  unfold endF
  simp only [hse, if_true]
  have hne : ¬ (V.cop (V.depth - 1) = 4 ∧ V.res (V.depth - 1) ≠ 64) := by
    rw [l2, l3]
    intro hh
    refine h4 ⟨hh.1, fun e => hh.2 (by rw [e]; rfl)⟩
  rw [if_neg hne, if_neg (by omega), l3]
  obtain ⟨V', q1, q2, q3, q4, q5, q6, q7, q8, q9⟩ := simPush (U := { V with height := D.below, depth := V.depth - 1 }) pc l4 l5 (by simp only []; omega)
  refine ⟨V', q1, ?_⟩
  simp only [] at q2 q3 q4 q5 q6 q7 q8 q9
  have hlen : (D.ctl.take (D.ctl.length - 1)).length = D.ctl.length - 1 := by simp
  refine ⟨by rw [q3, e2, hlen]; omega, by rw [q2, e3, e4, List.length_append]; omega, ?_, by rw [e3, e4, List.length_append]; omega, by rw [e2, hlen]; have := h.n6; omega⟩
  rw [e1, e2, e3, e4]
  refine l7.turn (fun k _ => ⟨by rw [q4], by rw [q5], by rw [q6], by rw [q7]⟩) (fun i hi => q8 i (by omega)) ?_ (Vals.app l7.vals l5)
  refine opsAt_app (fun i hi => ?_) ?_
  · rw [q8 _ (by omega)]; exact l7.ops i hi
  · rw [show D.below - (lastB D).outer.length + (lastB D).outer.length = D.below by omega]; exact q9

/-- a label's types -/
theorem label_sim {D : Dv} {V : VS} (h : Sim D V) (h0 : 0 ≤ D.t) (h2 : D.t ≤ 2) {B : Int} (hk : (labelL D B).2 = true) : labelF V B.toNat = firstF (labelL D B).1 ∧ ¬ ((V.depth : Int) ≤ B) ∧ (labelL D B).1.length ≤ 1 ∧ Vals (labelL D B).1 := by
  have hdep := h.dep
  unfold labelL at hk ⊢
  by_cases c1 : B < 0 ∨ (D.ctl.length : Int) < B
  · rw [if_pos c1] at hk; simp at hk
  rw [if_neg c1] at hk ⊢
  have hs := sides_vals h0 h2
  by_cases c2 : B = D.ctl.length
  · rw [if_pos c2] at hk ⊢
    obtain ⟨r1, r2⟩ := h.lay.root
    refine ⟨?_, by omega, hs.2.2.1, hs.2.1⟩
    unfold labelF
    rw [show V.depth - 1 - B.toNat = 0 by omega, r1, if_neg (by omega), r2]
  rw [if_neg c2] at hk ⊢
  have hlt : B.toNat < D.ctl.length := by omega
  obtain ⟨r1, r2⟩ := h.lay.entry B.toNat (by rw [List.length_reverse]; exact hlt)
  rw [List.length_reverse] at r1 r2
  have hg : D.ctl.reverse.getD B.toNat blk0 = D.ctl.getD (D.ctl.length - 1 - B.toNat) blk0 := by
    simp [List.getD, List.getElem?_reverse hlt]
  rw [hg] at r1 r2
  have hmem : D.ctl.getD (D.ctl.length - 1 - B.toNat) blk0 ∈ D.ctl := by
    have : D.ctl.length - 1 - B.toNat < D.ctl.length := by omega
    simp [List.getD, this]
  have hbk := h.lay.blk _ (by simpa using hmem)
  unfold labelF
  rw [show V.depth - 1 - B.toNat = D.ctl.length - B.toNat by omega, r1]
  by_cases c3 : (D.ctl.getD (D.ctl.length - 1 - B.toNat) blk0).op = 3
  · rw [if_pos c3, if_pos c3]
    exact ⟨rfl, by omega, by simp, Vals.nil⟩
  · rw [if_neg c3, if_neg c3]
    exact ⟨r2, by omega, hbk.1, hbk.2⟩

theorem step_brif {D : Dv} {V : VS} (h : Sim D V) (h0 : 0 ≤ D.t) (h2 : D.t ≤ 2) (M : Md) (ps : List UInt8) (n pc : Nat) {B : Int} (hk : (labelL D B).2 = true) {sp : List UInt8} (hsp : D.st = sp ++ (labelL D B).1 ++ [127]) {D' : Dv} (e1 : D'.t = D.t) (e2 : D'.ctl = D.ctl) (e3 : D'.below = D.below) (e4 : D'.st = sp ++ (labelL D B).1) :
    ∃ V', stepF M ps n pc V ⟨13, B, 0⟩ = (none, V') ∧ Sim D' V' := by
  obtain ⟨l1, l2, l3, l4⟩ := label_sim h h0 h2 hk
  have hp := pops_eq h hsp (Vals.one (.inl rfl))
  have hht := h.ht
  have h10 := h.h10
  rw [hsp] at hht h10
  simp only [List.length_append, List.length_singleton] at hht h10
  -- the state behind the i32
  have hS1 : Sim { D with st := sp ++ (labelL D B).1 } { V with height := V.height - [(127 : UInt8)].length } := by
    refine ⟨h.dep, by simp only [List.length_append, List.length_singleton]; omega, pop_lay h hsp, by simp only [List.length_append]; omega, h.n6⟩
  have hp2 := pops_eq hS1 rfl l4
  have hst : stepF M ps n pc V ⟨13, B, 0⟩ = brIfF V pc ⟨13, B, 0⟩ := by simp [stepF]
  rw [hst]
  unfold brIfF
  have hlf : labelF { V with height := V.height - [(127 : UInt8)].length } B.toNat = firstF (labelL D B).1 := l1
  simp only [carry_127, hp, if_true]
  rw [if_neg l2, hlf, carry_first _ l3 l4, hp2]
  simp only [if_true]
  have hr := Sim.rule hS1 pc (take := (labelL D B).1) (give := (labelL D B).1) (sp := sp) rfl l4 l3 l4 (by simp only []; omega) (D' := D') e1 e2 e3 e4
  rw [hp2] at hr
  exact hr

/-! ### The derivation goes on -/

theorem Der.lay {D : Dv} (h : Der D) {A B : Int} (hf : fallsF A = true) (h36 : ¬ (A = 36 ∧ B = 3)) (z : Int) : Der (layL D A B z) := by
  have hf2 : A ≠ 0 ∧ A ≠ 12 ∧ A ≠ 14 ∧ A ≠ 15 := by
    unfold fallsF at hf
    simp only [Bool.and_eq_true, bne_iff_ne] at hf
    omega
  have ht0 := h.t0
  have ht2 := h.t2
  unfold layL
  split
  · exact h
  rename_i hg
  have hlen : D.body.length < 95 := by omega
  have hA : 0 ≤ A ∧ A ≤ 255 := by omega
  by_cases a1 : A = 2 ∨ A = 3 ∨ A = 4
  · rw [if_pos a1]
    by_cases hv : B ≠ 64 ∧ isValF B = false
    · rw [if_pos hv]; exact h
    rw [if_neg hv]
    have hB : B = 64 ∨ (B = 127 ∨ B = 126 ∨ B = 125 ∨ B = 124) := by
      by_cases hb : B = 64
      · exact .inl hb
      · refine .inr (isVal_cases ?_)
        cases hh : isValF B
        · exact absurd ⟨hb, hh⟩ hv
        · rfl
    have hr : firstF (if B = 64 then [] else strF B) = B % 256 ∧ (if B = 64 then [] else strF B).length ≤ 1 ∧ Vals (if B = 64 then [] else strF B) := by
      rcases hB with rfl | hB
      · exact ⟨by decide, by decide, Vals.nil⟩
      · rw [if_neg (by omega)]
        exact ⟨by rw [first_str hB]; omega, by simp [strF], vals_str hB⟩
    by_cases he : A = 4 ∧ endsF D.st [127] = false
    · rw [if_pos he]; exact h
    rw [if_neg he]
    by_cases hn : 6 ≤ D.ctl.length
    · rw [if_pos hn]; exact h
    rw [if_neg hn]
    by_cases hh : 10 < D.below + (if A = 4 then D.st.take (D.st.length - 1) else D.st).length + (if B = 64 then [] else strF B).length
    · rw [if_pos hh]; exact h
    rw [if_neg hh]
    have hx : 0 ≤ A ∧ A ≤ 255 ∧ A ≠ 14 ∧ 0 ≤ B ∧ B ≤ 4294967295 := by omega
    by_cases a4 : A = 4
    · subst a4
      have hend : endsF D.st [127] = true := by
        cases hh : endsF D.st [127]
        · exact absurd ⟨rfl, hh⟩ he
        · rfl
      rw [endsF_iff] at hend
      obtain ⟨st, hst⟩ := hend
      have htk : D.st.take (D.st.length - 1) = st := by rw [← hst]; simp
      simp only [if_true, htk]
      exact h.push rfl rfl rfl hlen hx fun M n pc V hM hS => step_if hS M _ n pc hst.symm hr.1 hr.2.1 hr.2.2 (by omega) rfl rfl rfl rfl
    · have hA23 : A = 2 ∨ A = 3 := by omega
      simp only [a4, if_false]
      exact h.push rfl rfl rfl hlen hx fun M n pc V hM hS => step_open hS M _ n pc hA23 hr.1 hr.2.1 hr.2.2 (by omega) rfl rfl rfl rfl
  rw [if_neg a1]
  by_cases a5 : A = 5
  · rw [if_pos a5]
    split
    · exact h
    rename_i hc
    have hc1 : D.ctl.length ≠ 0 := fun e => hc (.inl e)
    have hc2 : (lastB D).op = 4 := Classical.byContradiction fun e => hc (.inr (.inl e))
    have hc3 : D.st = (lastB D).res := Classical.byContradiction fun e => hc (.inr (.inr e))
    exact h.push rfl rfl rfl hlen (by simp) fun M n pc V hM hS => step_else hS M _ n pc hc1 hc2 hc3 rfl rfl rfl rfl
  rw [if_neg a5]
  by_cases a11 : A = 11
  · rw [if_pos a11]
    split
    · exact h
    rename_i hc
    have hc1 : D.ctl.length ≠ 0 := fun e => hc (.inl e)
    have hc2 : ¬ ((lastB D).op = 4 ∧ (lastB D).res ≠ []) := fun e => hc (.inr (.inr e))
    have hc3 : D.st = (lastB D).res := Classical.byContradiction fun e => hc (.inr (.inl e))
    exact h.push rfl rfl rfl hlen (by simp) fun M n pc V hM hS => step_end hS M _ n pc hc1 hc2 hc3 rfl rfl rfl rfl
  rw [if_neg a11]
  by_cases a13 : A = 13
  · rw [if_pos a13]
    split
    · exact h
    rename_i hc
    have hk : (labelL D B).2 = true := by
      cases hh : (labelL D B).2
      · exact absurd (.inl hh) hc
      · rfl
    have he : endsF D.st ((labelL D B).1 ++ [127]) = true := by
      cases hh : endsF D.st ((labelL D B).1 ++ [127])
      · exact absurd (.inr hh) hc
      · rfl
    rw [endsF_iff] at he
    obtain ⟨sp, hsp⟩ := he
    have hB : 0 ≤ B ∧ B ≤ D.ctl.length := by
      unfold labelL at hk
      split at hk
      · simp at hk
      · omega
    have h6 := h.bnd.ctl
    have htk : D.st.take (D.st.length - 1) = sp ++ (labelL D B).1 := by
      rw [← hsp, ← List.append_assoc, List.length_append, List.length_singleton, Nat.add_sub_cancel, List.take_left]
    rw [htk]
    exact h.push rfl rfl rfl hlen (by simp only []; omega) fun M n pc V hM hS => step_brif hS ht0 ht2 M _ n pc hk (by rw [← hsp]; simp) rfl rfl rfl rfl
  rw [if_neg a13]
  split
  · exact h
  rename_i hc
  have hk : (plainL D.t D.st A B).2.2.2 = true := by
    cases hh : (plainL D.t D.st A B).2.2.2
    · exact absurd (.inl hh) hc
    · rfl
  have he : endsF D.st (plainL D.t D.st A B).1 = true := by
    cases hh : endsF D.st (plainL D.t D.st A B).1
    · exact absurd (.inr (.inl hh)) hc
    · rfl
  have hh := fun e => hc (.inr (.inr e))
  rw [endsF_iff] at he
  obtain ⟨sp, hsp⟩ := he
  have hlsp : D.st.length = sp.length + (plainL D.t D.st A B).1.length := by rw [← congrArg List.length hsp]; simp
  have htk : D.st.take (D.st.length - (plainL D.t D.st A B).1.length) = sp := by
    rw [show D.st.length - (plainL D.t D.st A B).1.length = sp.length by omega]
    have := congrArg (List.take sp.length) hsp
    simpa using this.symm
  rw [htk]
  have hX := plain_X (t := D.t) (st := D.st) (A := A) (B := B)
  obtain ⟨V0, hV0⟩ := h.sim
  have hvs := plain_vals ht0 ht2 hV0.lay.vals A B
  have hgl : (plainL D.t D.st A B).2.1.length ≤ 1 := plain_glen h.bnd A B
  refine h.push rfl rfl rfl hlen ⟨hA.1, hA.2, by simp only []; omega, hX.1, hX.2 (by omega)⟩ fun M n pc V hM hS => ?_
  rw [step_plain hM ht0 ht2 (by rw [← hk]) hS.top h36 n pc z]
  exact hS.rule pc hsp.symm hvs.1 hgl hvs.2 (by omega) rfl rfl rfl rfl

end Go.Proofs.Qxb6500273a
