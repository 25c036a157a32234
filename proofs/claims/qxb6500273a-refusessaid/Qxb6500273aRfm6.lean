/-
  Refused: the ways.
-/
import Derived.Test.Qxb6500273aRf0
import Derived.BigQuiet
set_option linter.unusedVariables false
set_option linter.unusedSimpArgs false
namespace Go.Proofs.Qxb6500273a
open Go.RowKit

section
variable {w W : World} {bv db b5 b8 : Nat} {D : Dv} {vb vt vc : Value} {V : VS} {K A B C : Int} {S T : List UInt8}

set_option maxRecDepth 100000 in
set_option maxHeartbeats 4000000 in
theorem rf_mis6 (hb : DBnd D) (hbl : D.below ≤ 10) (X0_ : Int) (h14 : A ≠ 14) (hA0 : (0 : Int) ≤ A) (hA5 : A ≤ (255 : Int)) (h36 : A ≠ 36 ∨ B ≠ 3) (h6 : D.ctl.length = 6) (hmb : (misfitL D A B).2 = true) (hm : ∀ z, Doom D ⟨A, (misfitL D A B).1, z⟩ D.body.length 27)  (HW : RfW w W bv db b5 b8 D vb vt vc V K A B C S T ⟨A, X0_, 0⟩) : RGoal 5 w W bv db b5 b8 D.body.length 0 false := by
  intro c a hc hf
  unfold RTail at hc
  simp only [Try.f16, Option.map, dropC, Option.some.injEq] at hc
  obtain ⟨s, rfl⟩ := frame16 a _ _ _ _ _ _ _ _ hf.d hf.n hf.h0 hf.h1 hf.h5 hf.h6 hf.h7 hf.h8 hf.h9 hf.h10
  clear hf
  subst hc
  unfold RPost
  have e0 := HW.e0
  have e1 := HW.e1
  have e2 := HW.e2
  have e3 := HW.e3
  have e4 := HW.e4
  have e5 := HW.e5
  have d4 := HW.now.c4
  have d5 := HW.now.c5
  have d6 := HW.now.c6
  have x0 := HW.x0
  have x1 := HW.x1
  have x2 := HW.x2
  have xf := HW.xf
  have n1 : ¬ b5 = b8 := by have := HW.o2; omega
  have n2 : ¬ b8 = b5 := by have := HW.o2; omega
  have n3 : ¬ db = b8 := by have := HW.o1; have := HW.o2; have := HW.at_.lt; omega
  have n4 : ¬ b8 = db := by have := HW.o1; have := HW.o2; have := HW.at_.lt; omega
  obtain ⟨ca, cc, hvc⟩ := HW.now.ctlV
  have HC := misfit_any db D vb vt vc K A B C S T W HW.now hb hA0 hA5
  unfold opD MisRes at HC
  have HM : Hid (∀ z, Doom D ⟨A, (misfitL D A B).1, z⟩ D.body.length 27) := hm
  rw [hmb] at HC
  have HMX : Hid (0 = 0) := rfl
  generalize hmf : misfitL D A B = mf at *
  obtain ⟨mX, mB⟩ := mf
  simp only [] at HC HM
  clear hmf HMX
  have g1 : (A == 14) = false := by rw [beq_eq_false_iff_ne]; exact h14
  have hst1 : (D.st.length : Int) ≤ 10 := by have := hb.st; omega
  have hbl1 : (D.below : Int) ≤ 10 := by omega
  clear hbl hm h14 hA0 hA5 hmb
  by_cases hA36 : A = 36
  · have hB3 : B ≠ 3 := by rcases h36 with h | h
                           · exact absurd hA36 h
                           · exact h
    have g2 : (B == 3) = false := by rw [beq_eq_false_iff_ne]; exact hB3
    have g3 : (A == 36) = true := by rw [hA36]; rfl
    clear hA36 hB3 h36
    go_upto_region 18 with (go_at_call 33; refine HC.mono ?_; rintro e w1 ⟨⟨z, rfl⟩, hb1⟩; have HW1 := HW.next hb1; have q0 := HW1.x0; have q1 := HW1.x1; have q2 := HW1.x2; have qf := HW1.xf; clear hb1)
    have HW2 := HW1.setX ⟨A, mX, z⟩
    simp only [] at HW2
    obtain ⟨W2, hW2⟩ : ∃ W2, W2 = ((w1.setCell ⟨b8, 0, none⟩ (.int .u8 A)).setCell ⟨b8, 1, none⟩ (.int .u32 mX)).setCell ⟨b8, 2, none⟩ (.int .u64 z) := ⟨_, rfl⟩
    rw [← hW2] at HW2
    rw [← hW2]
    clear hW2 e0 e1 e2 e3 e4 e5 d4 d5 d6 x0 x1 x2 xf q0 q1 q2 qf
    have e0 := HW2.e0
    have e1 := HW2.e1
    have e2 := HW2.e2
    have e3 := HW2.e3
    have e4 := HW2.e4
    have e5 := HW2.e5
    have d4 := HW2.now.c4
    have d5 := HW2.now.c5
    have d6 := HW2.now.c6
    have x0 := HW2.x0
    have x1 := HW2.x1
    have x2 := HW2.x2
    have xf := HW2.xf
    have n1 : ¬ b5 = b8 := by have := HW2.o2; omega
    have n2 : ¬ b8 = b5 := by have := HW2.o2; omega
    have n3 : ¬ db = b8 := by have := HW2.o1; have := HW2.o2; have := HW2.at_.lt; omega
    have n4 : ¬ b8 = db := by have := HW2.o1; have := HW2.o2; have := HW2.at_.lt; omega
    rw [hvc, h6] at d5
    have HN : Hid (∀ n, DAt (W2.drewN n) db D vb vt vc) := fun n => HW2.now.drewN n
    have HV : Hid (∀ n, VAt (W2.drewN n) bv V) := fun n => HW2.vnow.same rfl
    have HB : Hid (∀ n, Below db w (W2.drewN n)) := fun n => belowN HW2.bed n
    have hbd : Hid (bv < db) := HW2.bd
    have hdw : Hid (db ≤ w.heap.size) := Nat.le_of_lt HW2.at_.lt
    have X0 : Hid (∀ n, (W2.drewN n).cell? ⟨b8, 0, none⟩ = some (.int .u8 A)) := fun n => by simpa using HW2.x0
    have X1 : Hid (∀ n, (W2.drewN n).cell? ⟨b8, 1, none⟩ = some (.int .u32 mX)) := fun n => by simpa using HW2.x1
    have X2 : Hid (∀ n, (W2.drewN n).cell? ⟨b8, 2, none⟩ = some (.int .u64 z)) := fun n => by simpa using HW2.x2
    clear HW HW1 HW2 HC hvc
    go_upto_region 25 with fail
    go_quiet (fail)
    go_upto_if 209 with fail
    go_cut [6] from 208 to 209 (fun s6 wc => s6 = .bool false ∧ wc = W2.drewN nq)
    case first =>
      go_wp2_with fail
      go_meet
      exact ⟨rfl, rfl⟩
    case rest =>
      obtain ⟨rfl, rfl⟩ := hcut
      refine (by assumption : ∀ (a : Act) (w : World), Code.wp Try.prog _ _ a w → _) _ _ ?_
      exact ref_end bv db b5 b8 w D vb vt vc V _ ⟨A, mX, z⟩ D.body.length 27 _ rfl _ ⟨rfl, rfl, rfl, rfl, rfl, rfl, rfl, rfl, rfl, rfl⟩ (HN.out _) (HV.out _) hbd.out (HB.out _) hdw.out (X0.out _) (X1.out _) (X2.out _) (HM.out z)

  · have g3 : (A == 36) = false := by rw [beq_eq_false_iff_ne]; exact hA36
    clear hA36 h36
    go_upto_region 18 with (go_at_call 33; refine HC.mono ?_; rintro e w1 ⟨⟨z, rfl⟩, hb1⟩; have HW1 := HW.next hb1; have q0 := HW1.x0; have q1 := HW1.x1; have q2 := HW1.x2; have qf := HW1.xf; clear hb1)
    have HW2 := HW1.setX ⟨A, mX, z⟩
    simp only [] at HW2
    obtain ⟨W2, hW2⟩ : ∃ W2, W2 = ((w1.setCell ⟨b8, 0, none⟩ (.int .u8 A)).setCell ⟨b8, 1, none⟩ (.int .u32 mX)).setCell ⟨b8, 2, none⟩ (.int .u64 z) := ⟨_, rfl⟩
    rw [← hW2] at HW2
    rw [← hW2]
    clear hW2 e0 e1 e2 e3 e4 e5 d4 d5 d6 x0 x1 x2 xf q0 q1 q2 qf
    have e0 := HW2.e0
    have e1 := HW2.e1
    have e2 := HW2.e2
    have e3 := HW2.e3
    have e4 := HW2.e4
    have e5 := HW2.e5
    have d4 := HW2.now.c4
    have d5 := HW2.now.c5
    have d6 := HW2.now.c6
    have x0 := HW2.x0
    have x1 := HW2.x1
    have x2 := HW2.x2
    have xf := HW2.xf
    have n1 : ¬ b5 = b8 := by have := HW2.o2; omega
    have n2 : ¬ b8 = b5 := by have := HW2.o2; omega
    have n3 : ¬ db = b8 := by have := HW2.o1; have := HW2.o2; have := HW2.at_.lt; omega
    have n4 : ¬ b8 = db := by have := HW2.o1; have := HW2.o2; have := HW2.at_.lt; omega
    rw [hvc, h6] at d5
    have HN : Hid (∀ n, DAt (W2.drewN n) db D vb vt vc) := fun n => HW2.now.drewN n
    have HV : Hid (∀ n, VAt (W2.drewN n) bv V) := fun n => HW2.vnow.same rfl
    have HB : Hid (∀ n, Below db w (W2.drewN n)) := fun n => belowN HW2.bed n
    have hbd : Hid (bv < db) := HW2.bd
    have hdw : Hid (db ≤ w.heap.size) := Nat.le_of_lt HW2.at_.lt
    have X0 : Hid (∀ n, (W2.drewN n).cell? ⟨b8, 0, none⟩ = some (.int .u8 A)) := fun n => by simpa using HW2.x0
    have X1 : Hid (∀ n, (W2.drewN n).cell? ⟨b8, 1, none⟩ = some (.int .u32 mX)) := fun n => by simpa using HW2.x1
    have X2 : Hid (∀ n, (W2.drewN n).cell? ⟨b8, 2, none⟩ = some (.int .u64 z)) := fun n => by simpa using HW2.x2
    clear HW HW1 HW2 HC hvc
    go_upto_region 25 with fail
    go_quiet (fail)
    go_upto_if 209 with fail
    go_cut [6] from 208 to 209 (fun s6 wc => s6 = .bool false ∧ wc = W2.drewN nq)
    case first =>
      go_wp2_with fail
      go_meet
      exact ⟨rfl, rfl⟩
    case rest =>
      obtain ⟨rfl, rfl⟩ := hcut
      refine (by assumption : ∀ (a : Act) (w : World), Code.wp Try.prog _ _ a w → _) _ _ ?_
      exact ref_end bv db b5 b8 w D vb vt vc V _ ⟨A, mX, z⟩ D.body.length 27 _ rfl _ ⟨rfl, rfl, rfl, rfl, rfl, rfl, rfl, rfl, rfl, rfl⟩ (HN.out _) (HV.out _) hbd.out (HB.out _) hdw.out (X0.out _) (X1.out _) (X2.out _) (HM.out z)


end
end Go.Proofs.Qxb6500273a
