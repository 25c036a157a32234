/-
  Refused: the ways.
-/
import Derived.Test.Qxb6500273aRf0
import Derived.BigQuiet
set_option linter.unusedVariables false
set_option linter.unusedSimpArgs false
namespace Go.Proofs.Qxb6500273a
open Go.RowKit

section
variable {w W : World} {bv db b5 b8 : Nat} {D : Dv} {vb vt vc : Value} {V : VS} {K A B C : Int} {S T : List UInt8}

set_option maxRecDepth 100000 in
set_option maxHeartbeats 4000000 in
theorem rf_none_b (hb : DBnd D) (hbl : D.below ≤ 10) (X0_ : Int) (hA0 : (0 : Int) ≤ A) (hA5 : A ≤ (255 : Int)) (h14 : A ≠ 14) (h36 : A ≠ 36 ∨ B ≠ 3) (hmb : (misfitL D A B).2 = false) (htl : tallL D A B = false) (h6 : D.ctl.length < 6) (hne : D.below + D.st.length ≠ 10)  (HW : RfW w W bv db b5 b8 D vb vt vc V K A B C S T ⟨A, X0_, 0⟩) : RGoal 5 w W bv db b5 b8 D.body.length 0 false := by
  intro c a hc hf
  unfold RTail at hc
  simp only [Try.f16, Option.map, dropC, Option.some.injEq] at hc
  obtain ⟨s, rfl⟩ := frame16 a _ _ _ _ _ _ _ _ hf.d hf.n hf.h0 hf.h1 hf.h5 hf.h6 hf.h7 hf.h8 hf.h9 hf.h10
  clear hf
  subst hc
  unfold RPost
  have e0 := HW.e0
  have e1 := HW.e1
  have e2 := HW.e2
  have e3 := HW.e3
  have e4 := HW.e4
  have e5 := HW.e5
  have d4 := HW.now.c4
  have d5 := HW.now.c5
  have d6 := HW.now.c6
  have x0 := HW.x0
  have x1 := HW.x1
  have x2 := HW.x2
  have xf := HW.xf
  have n1 : ¬ b5 = b8 := by have := HW.o2; omega
  have n2 : ¬ b8 = b5 := by have := HW.o2; omega
  have n3 : ¬ db = b8 := by have := HW.o1; have := HW.o2; have := HW.at_.lt; omega
  have n4 : ¬ b8 = db := by have := HW.o1; have := HW.o2; have := HW.at_.lt; omega
  obtain ⟨ca, cc, hvc⟩ := HW.now.ctlV
  have HC := misfit_any db D vb vt vc K A B C S T W HW.now hb hA0 hA5
  have HTl : ∀ wx, Below w.heap.size w wx → Calls Try.prog 34 #[.pointer (some ⟨db, 0, none⟩), opD K A B C S T] wx fun e w' => e = .returned (.bool false) ∧ Below wx.heap.size wx w' := fun wx hbx => by
    have q := tall_any db D vb vt vc K A B C S T wx (HW.at_.below hbx) hb hbl hA0 hA5
    rw [htl] at q
    exact q
  unfold opD at HTl
  unfold opD MisRes at HC
  rw [hmb] at HC
  generalize (misfitL D A B).1 = mX at *
  have g1 : (A == 14) = false := by rw [beq_eq_false_iff_ne]; exact h14
  have hst1 : (D.st.length : Int) ≤ 10 := by have := hb.st; omega
  have hbl1 : (D.below : Int) ≤ 10 := by omega
  have g5 : ((D.below : Int) + D.st.length == 10) = false := by rw [beq_eq_false_iff_ne]; omega
  clear hbl hA0 hA5 hmb htl hne h14
  by_cases hA36 : A = 36
  · have hB3 : B ≠ 3 := by rcases h36 with h | h
                           · exact absurd hA36 h
                           · exact h
    have g2 : (B == 3) = false := by rw [beq_eq_false_iff_ne]; exact hB3
    have g3 : (A == 36) = true := by rw [hA36]; rfl
    clear hA36 hB3 h36
    go_upto_region 18 with (go_at_call 33; refine HC.mono ?_; rintro e w1 ⟨⟨z, rfl⟩, hb1⟩; have HW1 := HW.next hb1; have q0 := HW1.x0; have q1 := HW1.x1; have q2 := HW1.x2; have qf := HW1.xf; clear hb1)
    have HW2 := HW1.setX ⟨A, mX, z⟩
    simp only [] at HW2
    obtain ⟨W2, hW2⟩ : ∃ W2, W2 = ((w1.setCell ⟨b8, 0, none⟩ (.int .u8 A)).setCell ⟨b8, 1, none⟩ (.int .u32 mX)).setCell ⟨b8, 2, none⟩ (.int .u64 z) := ⟨_, rfl⟩
    rw [← hW2] at HW2
    rw [← hW2]
    clear hW2 e0 e1 e2 e3 e4 e5 d4 d5 d6 x0 x1 x2 xf q0 q1 q2 qf
    have e0 := HW2.e0
    have e1 := HW2.e1
    have e2 := HW2.e2
    have e3 := HW2.e3
    have e4 := HW2.e4
    have e5 := HW2.e5
    have d4 := HW2.now.c4
    have d5 := HW2.now.c5
    have d6 := HW2.now.c6
    have x0 := HW2.x0
    have x1 := HW2.x1
    have x2 := HW2.x2
    have xf := HW2.xf
    have n1 : ¬ b5 = b8 := by have := HW2.o2; omega
    have n2 : ¬ b8 = b5 := by have := HW2.o2; omega
    have n3 : ¬ db = b8 := by have := HW2.o1; have := HW2.o2; have := HW2.at_.lt; omega
    have n4 : ¬ b8 = db := by have := HW2.o1; have := HW2.o2; have := HW2.at_.lt; omega
    go_upto_region 24 with (go_at_call 34; refine (HTl _ HW2.be).mono ?_; rintro e w3 ⟨rfl, hb3⟩; have HW3 := HW2.next hb3; clear hb3)
    clear e0 e1 e2 e3 e4 e5 d4 d5 d6 x0 x1 x2 xf
    have e0 := HW3.e0
    have e1 := HW3.e1
    have e2 := HW3.e2
    have e3 := HW3.e3
    have e4 := HW3.e4
    have e5 := HW3.e5
    have d4 := HW3.now.c4
    have d5 := HW3.now.c5
    have d6 := HW3.now.c6
    have x0 := HW3.x0
    have x1 := HW3.x1
    have x2 := HW3.x2
    have xf := HW3.xf
    have n1 : ¬ b5 = b8 := by have := HW3.o2; omega
    have n2 : ¬ b8 = b5 := by have := HW3.o2; omega
    have n3 : ¬ db = b8 := by have := HW3.o1; have := HW3.o2; have := HW3.at_.lt; omega
    have n4 : ¬ b8 = db := by have := HW3.o1; have := HW3.o2; have := HW3.at_.lt; omega
    rw [hvc] at d5
    have h6i : (D.ctl.length : Int) < 6 := by omega
    have hK : Hid (∀ n, KeptD bv db w (w3.drewN n)) := fun n => KeptD.below (belowN HW3.bed n) (V := V) (HW3.vnow.same rfl)
    clear HW HW1 HW2 HW3 HC HTl hvc
    go_upto_region 25 with fail
    go_quiet (fail)
    go_wp2_with fail
    go_ret
    exact ⟨rfl, hK.out _⟩

  · have g3 : (A == 36) = false := by rw [beq_eq_false_iff_ne]; exact hA36
    clear hA36 h36
    go_upto_region 18 with (go_at_call 33; refine HC.mono ?_; rintro e w1 ⟨⟨z, rfl⟩, hb1⟩; have HW1 := HW.next hb1; have q0 := HW1.x0; have q1 := HW1.x1; have q2 := HW1.x2; have qf := HW1.xf; clear hb1)
    have HW2 := HW1.setX ⟨A, mX, z⟩
    simp only [] at HW2
    obtain ⟨W2, hW2⟩ : ∃ W2, W2 = ((w1.setCell ⟨b8, 0, none⟩ (.int .u8 A)).setCell ⟨b8, 1, none⟩ (.int .u32 mX)).setCell ⟨b8, 2, none⟩ (.int .u64 z) := ⟨_, rfl⟩
    rw [← hW2] at HW2
    rw [← hW2]
    clear hW2 e0 e1 e2 e3 e4 e5 d4 d5 d6 x0 x1 x2 xf q0 q1 q2 qf
    have e0 := HW2.e0
    have e1 := HW2.e1
    have e2 := HW2.e2
    have e3 := HW2.e3
    have e4 := HW2.e4
    have e5 := HW2.e5
    have d4 := HW2.now.c4
    have d5 := HW2.now.c5
    have d6 := HW2.now.c6
    have x0 := HW2.x0
    have x1 := HW2.x1
    have x2 := HW2.x2
    have xf := HW2.xf
    have n1 : ¬ b5 = b8 := by have := HW2.o2; omega
    have n2 : ¬ b8 = b5 := by have := HW2.o2; omega
    have n3 : ¬ db = b8 := by have := HW2.o1; have := HW2.o2; have := HW2.at_.lt; omega
    have n4 : ¬ b8 = db := by have := HW2.o1; have := HW2.o2; have := HW2.at_.lt; omega
    go_upto_region 24 with (go_at_call 34; refine (HTl _ HW2.be).mono ?_; rintro e w3 ⟨rfl, hb3⟩; have HW3 := HW2.next hb3; clear hb3)
    clear e0 e1 e2 e3 e4 e5 d4 d5 d6 x0 x1 x2 xf
    have e0 := HW3.e0
    have e1 := HW3.e1
    have e2 := HW3.e2
    have e3 := HW3.e3
    have e4 := HW3.e4
    have e5 := HW3.e5
    have d4 := HW3.now.c4
    have d5 := HW3.now.c5
    have d6 := HW3.now.c6
    have x0 := HW3.x0
    have x1 := HW3.x1
    have x2 := HW3.x2
    have xf := HW3.xf
    have n1 : ¬ b5 = b8 := by have := HW3.o2; omega
    have n2 : ¬ b8 = b5 := by have := HW3.o2; omega
    have n3 : ¬ db = b8 := by have := HW3.o1; have := HW3.o2; have := HW3.at_.lt; omega
    have n4 : ¬ b8 = db := by have := HW3.o1; have := HW3.o2; have := HW3.at_.lt; omega
    rw [hvc] at d5
    have h6i : (D.ctl.length : Int) < 6 := by omega
    have hK : Hid (∀ n, KeptD bv db w (w3.drewN n)) := fun n => KeptD.below (belowN HW3.bed n) (V := V) (HW3.vnow.same rfl)
    clear HW HW1 HW2 HW3 HC HTl hvc
    go_upto_region 25 with fail
    go_quiet (fail)
    go_wp2_with fail
    go_ret
    exact ⟨rfl, hK.out _⟩


end
end Go.Proofs.Qxb6500273a
