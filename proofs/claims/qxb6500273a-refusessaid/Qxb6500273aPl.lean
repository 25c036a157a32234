/-
  plain: all its ways.
-/
import Derived.Test.Qxb6500273aPl1
import Derived.Test.Qxb6500273aPl2
import Derived.Test.Qxb6500273aPlc0
import Derived.Test.Qxb6500273aPlc1
import Derived.Test.Qxb6500273aPld
import Derived.Test.Qxb6500273aPl3
import Derived.Test.Qxb6500273aPl4
import Derived.Test.Qxb6500273aPl5
import Derived.Test.Qxb6500273aPl6
import Derived.Test.Qxb6500273aPl7
import Derived.Test.Qxb6500273aPl8
import Derived.Test.Qxb6500273aPl9
import Derived.Test.Qxb6500273aPle0
import Derived.Test.Qxb6500273aPle1
import Derived.Test.Qxb6500273aPlk0
import Derived.Test.Qxb6500273aPlk1
import Derived.Test.Qxb6500273aPlm0
import Derived.Test.Qxb6500273aPlm1
import Derived.Test.Qxb6500273aPlm2
import Derived.Test.Qxb6500273aPlm3
import Derived.Test.Qxb6500273aPlm4
set_option linter.unusedVariables false
namespace Go.Proofs.Qxb6500273a
open Go.RowKit

theorem numSig_012 (op : Int) : (numSigF op).1 = 0 ∨ (numSigF op).1 = 1 ∨ (numSigF op).1 = 2 := by
  unfold numSigF
  repeat' (refine ite_ind (P := fun p : Int × Int × Int => p.1 = 0 ∨ p.1 = 1 ∨ p.1 = 2) (fun _ => ?_) (fun _ => ?_))
  all_goals decide

theorem pl_ways {w W : World} {db b3 b6 b9 : Nat} {D : Dv} {A B C : Int} (ht0 : 0 ≤ D.t) (ht2 : D.t ≤ 2) (hst : D.st.length ≤ 1000) (HW : PlW w W db b3 b6 b9 D A B C) : PGoal w W db b3 b6 b9 D A B C := by
  rcases numSig_012 A with hN | h1 | h1
  rotate_left
  · exact pl_num1 h1 HW
  · exact pl_num2 h1 HW
  by_cases a1 : A = 1
  · subst a1; exact pl_nop HW
  by_cases a2 : 65 ≤ A ∧ A ≤ 68
  · have : A = 65 ∨ A = 66 ∨ A = 67 ∨ A = 68 := by omega
    rcases this with rfl | rfl | rfl | rfl
    · exact pl_const0 HW
    · exact pl_const1 HW
    · exact pl_const2 HW
    · exact pl_const3 HW
  by_cases a3 : A = 26
  · subst a3
    rcases snoc_cases D.st with h | ⟨st, t, h⟩
    · exact pl_drop0 h HW
    · exact pl_drop1 st t h hst HW
  by_cases a4 : A = 27
  · subst a4
    by_cases h3 : D.st.length < 3
    · exact pl_sel0 h3 HW
    rcases snoc_cases D.st with h | ⟨s1, z, h⟩
    · rw [h] at h3; simp at h3
    rcases snoc_cases s1 with h' | ⟨s2, y, h'⟩
    · rw [h, h'] at h3; simp at h3
    rcases snoc_cases s2 with h'' | ⟨s3, x, h''⟩
    · rw [h, h', h''] at h3; simp at h3
    exact pl_sel1 s3 x y z (by rw [h, h', h'']; simp) hst HW
  by_cases a5 : 32 ≤ A ∧ A ≤ 34
  · have hl8 : ((sidesF D.t).1 ++ allFour).length ≤ 8 := by
      have := (sides_vals ht0 ht2).2.2.2
      simp only [List.length_append]
      have h4 : allFour.length = 4 := rfl
      omega
    have hA : A = 32 ∨ A = 33 ∨ A = 34 := by omega
    by_cases hb : B < 0
    · rcases hA with rfl | rfl | rfl
      · exact pl_loc0a hb HW
      · exact pl_loc1a hb HW
      · exact pl_loc2a hb HW
    by_cases hb2 : (((sidesF D.t).1 ++ allFour).length : Int) ≤ B
    · rcases hA with rfl | rfl | rfl
      · exact pl_loc0b (by omega) hb2 HW
      · exact pl_loc1b (by omega) hb2 HW
      · exact pl_loc2b (by omega) hb2 HW
    obtain ⟨k, rfl⟩ : ∃ k : Nat, B = k := ⟨B.toNat, by omega⟩
    rcases hA with rfl | rfl | rfl
    · exact pl_loc0c k (by omega) hl8 HW
    · exact pl_loc1c k (by omega) hl8 HW
    · exact pl_loc2c k (by omega) hl8 HW
  by_cases a6 : A = 35
  · subst a6
    by_cases hb : B < 0
    · exact pl_glo35a hb HW
    by_cases hb2 : 4 ≤ B
    · exact pl_glo35b hb2 HW
    have : B = 0 ∨ B = 1 ∨ B = 2 ∨ B = 3 := by omega
    rcases this with rfl | rfl | rfl | rfl
    · exact pl_glo35_0 HW
    · exact pl_glo35_1 HW
    · exact pl_glo35_2 HW
    · exact pl_glo35_3 HW
  by_cases a7 : A = 36
  · subst a7
    by_cases hb : B < 0
    · exact pl_glo36a hb HW
    by_cases hb2 : 4 ≤ B
    · exact pl_glo36b hb2 HW
    have : B = 0 ∨ B = 1 ∨ B = 2 ∨ B = 3 := by omega
    rcases this with rfl | rfl | rfl | rfl
    · exact pl_glo36_0 HW
    · exact pl_glo36_1 HW
    · exact pl_glo36_2 HW
    · exact pl_glo36_3 HW
  by_cases a8 : (memSigF A).1 = 0
  rotate_left
  · have hr := memSig_range a8
    have hv := memSig_val a8
    have hv2 : 0 ≤ (memSigF A).2.1 ∧ (memSigF A).2.1 ≤ 255 := by
      have := hv.1; unfold isV at this; omega
    by_cases hb : B < 0
    · exact pl_mem_a hr.1 hr.2 a8 hN hb HW
    by_cases hb2 : 3 < B
    · exact pl_mem_b hr.1 hr.2 a8 hN hb2 HW
    have : B = 0 ∨ B = 1 ∨ B = 2 ∨ B = 3 := by omega
    rcases this with rfl | rfl | rfl | rfl
    · by_cases h1 : (memSigF A).1 < 1
      · exact pl_mem_c0 hr.1 hr.2 a8 hN h1 HW
      by_cases h5 : A ≤ 53
      · exact pl_mem_ld0 hr.1 hr.2 a8 hN h1 hv2 h5 HW
      · exact pl_mem_st0 hr.1 hr.2 a8 hN h1 hv2 h5 HW
    · by_cases h1 : (memSigF A).1 < 2
      · exact pl_mem_c1 hr.1 hr.2 a8 hN h1 HW
      by_cases h5 : A ≤ 53
      · exact pl_mem_ld1 hr.1 hr.2 a8 hN h1 hv2 h5 HW
      · exact pl_mem_st1 hr.1 hr.2 a8 hN h1 hv2 h5 HW
    · by_cases h1 : (memSigF A).1 < 4
      · exact pl_mem_c2 hr.1 hr.2 a8 hN h1 HW
      by_cases h5 : A ≤ 53
      · exact pl_mem_ld2 hr.1 hr.2 a8 hN h1 hv2 h5 HW
      · exact pl_mem_st2 hr.1 hr.2 a8 hN h1 hv2 h5 HW
    · by_cases h1 : (memSigF A).1 < 8
      · exact pl_mem_c3 hr.1 hr.2 a8 hN h1 HW
      by_cases h5 : A ≤ 53
      · exact pl_mem_ld3 hr.1 hr.2 a8 hN h1 hv2 h5 HW
      · exact pl_mem_st3 hr.1 hr.2 a8 hN h1 hv2 h5 HW
  by_cases a9 : A = 63
  · subst a9; exact pl_size HW
  by_cases a10 : A = 64
  · subst a10; exact pl_grow HW
  by_cases a11 : A = 16
  · subst a11
    by_cases hb : B ≠ 0 ∧ B ≠ 1
    · exact pl_call_a hb HW
    have : B = 0 ∨ B = 1 := by omega
    rcases this with rfl | rfl
    · exact pl_call0 HW
    · exact pl_call1 ht0 ht2 HW
  by_cases a12 : A = 17
  · subst a12
    by_cases hb : B < 0
    · exact pl_ind_a hb HW
    by_cases hb2 : 2 < B
    · exact pl_ind_b hb2 HW
    have : B = 0 ∨ B = 1 ∨ B = 2 := by omega
    rcases this with rfl | rfl | rfl
    · exact pl_ind0 HW
    · exact pl_ind1 HW
    · exact pl_ind2 HW
  have ho : A ≠ 1 ∧ A ≠ 26 ∧ A ≠ 27 ∧ A ≠ 35 ∧ A ≠ 36 ∧ A ≠ 63 ∧ A ≠ 64 ∧ A ≠ 16 ∧ A ≠ 17 := ⟨a1, a3, a4, a6, a7, a9, a10, a11, a12⟩
  by_cases g1 : A < 32
  · exact pl_else0 hN a8 ho g1 HW
  by_cases g2 : A < 65
  · exact pl_else1 hN a8 ho (by omega) g2 HW
  · exact pl_else2 hN a8 ho (by omega) HW

theorem plain_any2 (db : Nat) (D : Dv) (vb vt vc : Value) (K A B C : Int) (S T : List UInt8) (w : World) (hD : DAt w db D vb vt vc) (ht0 : 0 ≤ D.t) (ht2 : D.t ≤ 2) (hst : D.st.length ≤ 1000) (hA : 0 ≤ A) (hA2 : A ≤ 255) :
    Calls Try.prog 26 #[.pointer (some ⟨db, 0, none⟩), opD K A B C S T] w fun e w' => PlainRes D.t D.st A B e ∧ Below w.heap.size w w' :=
  plain_head db D vb vt vc K A B C S T w hD ht0 ht2 hA hA2 fun _ _ _ _ HW => pl_ways ht0 ht2 hst HW

end Go.Proofs.Qxb6500273a
