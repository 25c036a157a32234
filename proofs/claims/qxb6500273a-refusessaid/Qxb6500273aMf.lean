/-
  misfit, nameless: all their ways.
-/
import Derived.Test.Qxb6500273aMf1
import Derived.Test.Qxb6500273aMf2
import Derived.Test.Qxb6500273aMf3
import Derived.Test.Qxb6500273aMf4
import Derived.Test.Qxb6500273aMf5
import Derived.Test.Qxb6500273aMf6
import Derived.Test.Qxb6500273aMf7
import Derived.Test.Qxb6500273aMf8
import Derived.Test.Qxb6500273aMf9
import Derived.Test.Qxb6500273aMf10
import Derived.Test.Qxb6500273aMf11
import Derived.Test.Qxb6500273aNm1
import Derived.Test.Qxb6500273aNm2
import Derived.Test.Qxb6500273aNm3
import Derived.Test.Qxb6500273aNm4
import Derived.Test.Qxb6500273aNm5
import Derived.Test.Qxb6500273aNm6
import Derived.Test.Qxb6500273aNm7
import Derived.Test.Qxb6500273aNm8
set_option linter.unusedVariables false
namespace Go.Proofs.Qxb6500273a
open Go.RowKit

/-- what the derivation's data are bounded by -/
structure DBnd (D : Dv) : Prop where
  t0 : 0 ≤ D.t
  t2 : D.t ≤ 2
  st : D.st.length ≤ 10
  ctl : D.ctl.length ≤ 6
  res : ∀ b, b ∈ D.ctl → b.res.length ≤ 1

theorem label_len {D : Dv} (h : DBnd D) (B : Int) : (labelL D B).1.length ≤ 1 := by
  unfold labelL
  have h1 := (sides_vals h.t0 h.t2).2.2.1
  split
  · simp
  · split
    · exact h1
    · split
      · simp
      · rename_i a1 a2 a3
        have : D.ctl.length - 1 - B.toNat < D.ctl.length := by omega
        refine h.res _ ?_
        simp [List.getD, this]

theorem plain_len {D : Dv} (h : DBnd D) (A B : Int) : (plainL D.t D.st A B).1.length ≤ 1000 := by
  have hs := h.st
  have h1 := (sides_vals h.t0 h.t2).2.2.2
  have l1 : ∀ n, (strF n).length = 1 := fun n => rfl
  have l2 : ∀ (l : List UInt8) k, ((l.drop k).take 1).length ≤ 1 := fun l k => by simp; omega
  unfold plainL
  repeat' (refine ite_ind (P := fun p : List UInt8 × List UInt8 × Int × Bool => p.1.length ≤ 1000) (fun hc => ?_) (fun hc => ?_))
  all_goals simp only [List.length_append, l1, List.length_nil, List.length_cons, List.length_drop]
  all_goals first
    | omega
    | (have := l2 ((sidesF D.t).1 ++ allFour) B.toNat; omega)
    | (have := l2 allFour B.toNat; omega)
    | (have := l2 D.st (D.st.length - 2); omega)
    | (by_cases hB : B = 1
       · rw [if_pos hB]; omega
       · rw [if_neg hB]; have := (sides_vals (k := 1) (by omega) (by omega)).2.2.2; omega)
    | (have := (sides_vals (k := B) (by omega) (by omega)).2.2.2; omega)

theorem misfit_any (db : Nat) (D : Dv) (vb vt vc : Value) (K A B C : Int) (S T : List UInt8) (w : World) (hD : DAt w db D vb vt vc) (hb : DBnd D) (hA : 0 ≤ A) (hA2 : A ≤ 255) :
    Calls Try.prog 33 #[.pointer (some ⟨db, 0, none⟩), opD K A B C S T] w fun e w' => MisRes D A B e ∧ Below w.heap.size w w' := by
  refine misfit_head db D vb vt vc K A B C S T w hD hA hA2 fun W b3 b6 b9 HW k0 k4 k5 => ?_
  have hDW : DAt W db D vb vt vc := hD.below HW.be
  have hst : D.st.length ≤ 1000 := Nat.le_trans hb.st (by omega)
  have hcl : D.ctl.length ≤ 1000 := Nat.le_trans hb.ctl (by omega)
  obtain ⟨ca, cc, hvc⟩ := hDW.ctlV
  have c5 := hDW.c5
  rw [hvc] at c5
  have hc6 := hb.ctl
  by_cases a1 : A = 26
  · subst a1; exact mf_drop hst HW
  by_cases a2 : A = 4
  · subst a2
    by_cases h6 : D.ctl.length < 6
    · exact mf_if0 h6 hst ca cc c5 HW
    · exact mf_if1 (by omega) ca cc c5 HW
  by_cases a3 : A = 11
  · subst a3
    cases h1 : (owedL D).2
    · exact mf_end0 vb vt vc hDW hb.t0 hb.t2 hcl h1 HW
    · exact mf_end1 vb vt vc hDW hb.t0 hb.t2 hcl h1 HW
  by_cases a4 : A = 5
  · subst a4
    by_cases h0 : D.ctl.length = 0
    · exact mf_else_none ca cc c5 h0 HW
    by_cases h4 : (lastB D).op = 4
    · exact mf_else1 vb vt vc hDW hcl h0 h4 HW
    · exact mf_else0 vb vt vc hDW hcl h0 h4 HW
  by_cases a5 : A = 12
  · subst a5
    cases h1 : (labelL D B).2
    · exact mf_br_no vb vt vc hDW hb.t0 hb.t2 hcl h1 HW
    · have hB : 0 ≤ B ∧ B ≤ 1000 := by
        unfold labelL at h1
        split at h1
        · simp at h1
        · omega
      exact mf_br vb vt vc hDW hb.t0 hb.t2 hcl hst (Nat.le_trans (label_len hb B) (by omega)) h1 hB.1 hB.2 HW
  by_cases a6 : A = 13
  · subst a6
    cases h1 : (labelL D B).2
    · exact mf_brif_no vb vt vc hDW hb.t0 hb.t2 hcl h1 HW
    · have hB : 0 ≤ B ∧ B ≤ 1000 := by
        unfold labelL at h1
        split at h1
        · simp at h1
        · omega
      exact mf_brif vb vt vc hDW hb.t0 hb.t2 hcl hst (Nat.le_trans (label_len hb B) (by omega)) h1 hB.1 hB.2 HW
  by_cases a7 : A = 15
  · subst a7; exact mf_ret hb.t0 hb.t2 hst HW
  have hl := plain_len hb A B
  by_cases a8 : A = 27
  · subst a8
    by_cases h3 : D.st.length < 3
    · exact mf_sel h3 HW
    cases hk : (plainL D.t D.st 27 B).2.2.2
    · exact mf_pls0 K S T vb vt vc hDW hb.t0 hb.t2 hst k0 k4 k5 h3 hk hl HW
    · exact mf_pls1 K S T vb vt vc hDW hb.t0 hb.t2 hst k0 k4 k5 h3 hk hl HW
  have hn : A ≠ 26 ∧ A ≠ 4 ∧ A ≠ 11 ∧ A ≠ 5 ∧ A ≠ 12 ∧ A ≠ 13 ∧ A ≠ 15 ∧ A ≠ 27 := ⟨a1, a2, a3, a4, a5, a6, a7, a8⟩
  cases hk : (plainL D.t D.st A B).2.2.2
  · exact mf_pl0 K S T vb vt vc hDW hb.t0 hb.t2 hst k0 k4 k5 hA hA2 hn hk hl HW
  · exact mf_pl1 K S T vb vt vc hDW hb.t0 hb.t2 hst k0 k4 k5 hA hA2 hn hk hl HW

theorem nameless_any (db : Nat) (D : Dv) (vb vt vc : Value) (K A B C : Int) (S T : List UInt8) (w : World) (hD : DAt w db D vb vt vc) (hb : DBnd D) (hA : 0 ≤ A) (hA2 : A ≤ 255) :
    Calls Try.prog 31 #[.pointer (some ⟨db, 0, none⟩), opD K A B C S T] w fun e w' => e = .returned (.tuple #[.agg #[.int .u8 A, .int .u32 (namelessL D A B).1, .int .u64 0], .int .i64 (namelessL D A B).2]) ∧ Below w.heap.size w w' := by
  refine nameless_head db D vb vt vc K A B C S T w hD hb.t0 hb.t2 hA hA2 fun W b3 b6 b9 h0 hx HW => ?_
  have hst : D.st.length ≤ 1000 := Nat.le_trans hb.st (by omega)
  have hcl : D.ctl.length ≤ 1000 := Nat.le_trans hb.ctl (by omega)
  have h4 := (sides_vals hb.t0 hb.t2).2.2.2
  by_cases a1 : 32 ≤ A ∧ A ≤ 34
  · have hA3 : A = 32 ∨ A = 33 ∨ A = 34 := by omega
    by_cases h1 : ((sidesF D.t).1.length : Int) + 4 ≤ B
    · rcases hA3 with rfl | rfl | rfl
      · exact nm_loc32_1 h1 h4 h0 hx HW
      · exact nm_loc33_1 h1 h4 h0 hx HW
      · exact nm_loc34_1 h1 h4 h0 hx HW
    · rcases hA3 with rfl | rfl | rfl
      · exact nm_loc32_0 h1 h4 h0 hx HW
      · exact nm_loc33_0 h1 h4 h0 hx HW
      · exact nm_loc34_0 h1 h4 h0 hx HW
  by_cases a2 : A = 35
  · subst a2
    by_cases h1 : 4 ≤ B
    · exact nm_glo35_1 h1 h0 hx HW
    · exact nm_glo35_0 (by omega) h0 hx HW
  by_cases a3 : A = 36
  · subst a3
    by_cases h1 : 4 ≤ B
    · exact nm_glo36_1 h1 h0 hx HW
    · exact nm_glo36_0 (by omega) h0 hx HW
  by_cases a4 : A = 16
  · subst a4
    by_cases h1 : 2 ≤ B
    · exact nm_call1 h1 h0 hx HW
    · exact nm_call0 (by omega) h0 hx HW
  by_cases a5 : A = 17
  · subst a5
    by_cases h1 : 3 ≤ B
    · exact nm_ind1 h1 h0 hx HW
    · exact nm_ind0 (by omega) h0 hx HW
  by_cases a8 : (memSigF A).1 = 0
  rotate_left
  · have hr := memSig_range a8
    by_cases hb2 : 3 < B
    · exact nm_mem_b hr.1 hr.2 a8 hb2 h0 hx HW
    have : B = 0 ∨ B = 1 ∨ B = 2 ∨ B = 3 := by omega
    rcases this with rfl | rfl | rfl | rfl
    · by_cases h1 : (memSigF A).1 < 1
      · exact nm_mem_c0 hr.1 hr.2 a8 h1 (by omega) (by omega) HW
      · exact nm_mem_o0 hr.1 hr.2 a8 h1 (by omega) (by omega) HW
    · by_cases h1 : (memSigF A).1 < 2
      · exact nm_mem_c1 hr.1 hr.2 a8 h1 (by omega) (by omega) HW
      · exact nm_mem_o1 hr.1 hr.2 a8 h1 (by omega) (by omega) HW
    · by_cases h1 : (memSigF A).1 < 4
      · exact nm_mem_c2 hr.1 hr.2 a8 h1 (by omega) (by omega) HW
      · exact nm_mem_o2 hr.1 hr.2 a8 h1 (by omega) (by omega) HW
    · by_cases h1 : (memSigF A).1 < 8
      · exact nm_mem_c3 hr.1 hr.2 a8 h1 (by omega) (by omega) HW
      · exact nm_mem_o3 hr.1 hr.2 a8 h1 (by omega) (by omega) HW
  by_cases a6 : A = 12
  · subst a6
    by_cases h1 : (D.ctl.length : Int) < B
    · exact nm_br1 h1 hcl h0 hx HW
    · exact nm_br0 h1 hcl h0 hx HW
  by_cases a7 : A = 13
  · subst a7
    by_cases h1 : (D.ctl.length : Int) < B
    · cases he : endsF D.st [127]
      · exact nm_brif2 h1 hcl hst he h0 hx HW
      · exact nm_brif1 h1 hcl hst he h0 hx HW
    · exact nm_brif0 h1 hcl h0 hx HW
  have ho : A ≠ 35 ∧ A ≠ 36 ∧ A ≠ 16 ∧ A ≠ 17 ∧ A ≠ 12 ∧ A ≠ 13 := ⟨a2, a3, a4, a5, a6, a7⟩
  by_cases g1 : A < 32
  · exact nm_else0 a8 ho g1 h0 hx HW
  · exact nm_else1 a8 ho (by omega) h0 hx HW

end Go.Proofs.Qxb6500273a
