/-
  nameless: the ways.
-/
import Derived.Test.Qxb6500273aNm0
import Derived.BigQuiet
set_option linter.unusedVariables false
set_option linter.unusedSimpArgs false
namespace Go.Proofs.Qxb6500273a
open Go.RowKit

section
variable {w W : World} {db b3 b6 b9 : Nat} {D : Dv} {A B : Int}

set_option maxRecDepth 100000 in
set_option maxHeartbeats 4000000 in
theorem nm_mem_o0 (hA : 40 ≤ A) (hA2 : A ≤ 62) (hm0 : (memSigF A).1 ≠ 0) (h1 : ¬ (memSigF A).1 < 1) (hB0 : 0 ≤ 0) (hBx : 0 ≤ 4294967295) (HW : NmW w W db b3 b6 b9 D A 0) : NGoal w W db b3 b6 b9 D A 0 := by
  intro c a hc hf
  unfold NTail at hc
  simp only [Try.f31, Option.map, dropC, Option.some.injEq] at hc
  obtain ⟨s, rfl⟩ := frame31 a _ _ _ _ _ _ _ hf.d hf.n hf.h0 hf.h3 hf.h4 hf.h5 hf.h6 hf.h7 hf.h9
  clear hf
  subst hc
  unfold NPost
  have HL : Hid (namelessL D A 0 = (0, 0)) := by
    refine show namelessL D A 0 = (0, 0) from ?_
    unfold namelessL
    rw [if_neg (by omega)]
    congr 1
    unfold nameErr
    rw [if_neg (by omega), if_neg (by omega), if_neg (by omega), if_neg (by omega), if_pos hm0, if_neg (by simp [above]; omega)]
  have o0 := HW.o0
  have o1 := HW.o1
  have o2 := HW.o2
  have o3 := HW.o3
  have o4 := HW.o4
  have n1 : ¬ b6 = b9 := by omega
  have n2 : ¬ b9 = b6 := by omega
  have n5 : ¬ b3 = b6 := by omega
  have n6 : ¬ b6 = b3 := by omega
  have n8 : ¬ db = b6 := by omega
  have e1 := HW.e1
  have e2 := HW.e2
  have d4 := HW.d4
  obtain ⟨ca, cc, d5⟩ := HW.d5
  have r0 := HW.r0
  have r1 := HW.r1
  have r2 := HW.r2
  have rf := HW.rf
  have x0 := HW.x0
  have x1 := HW.x1
  have x2 := HW.x2
  have hbe : Hid (Below w.heap.size w W) := HW.be
  have HO : Hid (db < w.heap.size ∧ w.heap.size ≤ b3 ∧ b3 < b6 ∧ b6 < b9 ∧ b9 < W.heap.size) := ⟨o0, o1, o2, o3, o4⟩
  clear o0 o1 o2 o3 o4 HW hBx
  have g35 : (A == 35) = false := by rw [beq_eq_false_iff_ne]; omega
  have g36 : (A == 36) = false := by rw [beq_eq_false_iff_ne]; omega
  have g16 : (A == 16) = false := by rw [beq_eq_false_iff_ne]; omega
  have g17 : (A == 17) = false := by rw [beq_eq_false_iff_ne]; omega
  have g1 : decide (32 ≤ A) = true := decide_eq_true (by omega)
  have g2 : decide (A ≤ 34) = false := decide_eq_false (by omega)
  have g3 : ((memSigF A).1 != 0) = true := by rw [bne_iff_ne]; exact hm0
  have h7 : 1 ≤ (memSigF A).1 := by omega
  clear hm0 hA hA2 h1
  go_wp2
  all_goals (try simp only [Exit.inBlock, Exit.then])
  all_goals refine bodyPost_ret (results31c (b6 := b6) (.int .u8 A) (.int .u32 0) (.int .u64 0) rfl ?_ ?_ ?_) rfl ⟨?_, ?_⟩
  all_goals first
    | (simp [go_sem, r0, r1, r2, x0, x1, x2, n1, n2, *]; done)
    | (rw [HL.out]; done)
    | (rw [HL.out]; rfl)
    | (clear r0 r1 r2 rf x0 x1 x2; obtain ⟨o0, o1, o2, o3, o4⟩ := HO.out
       repeat (first | exact hbe.out | refine Below.drew ?_ | refine belowN ?_ _ | refine Below.setCell ?_ (by simp only []; omega) _ | refine Below.alloc ?_ (by (try simp only [World.size_alloc, World.size_setCell]); omega) _))

set_option maxRecDepth 100000 in
set_option maxHeartbeats 4000000 in
theorem nm_mem_o1 (hA : 40 ≤ A) (hA2 : A ≤ 62) (hm0 : (memSigF A).1 ≠ 0) (h1 : ¬ (memSigF A).1 < 2) (hB0 : 0 ≤ 1) (hBx : 1 ≤ 4294967295) (HW : NmW w W db b3 b6 b9 D A 1) : NGoal w W db b3 b6 b9 D A 1 := by
  intro c a hc hf
  unfold NTail at hc
  simp only [Try.f31, Option.map, dropC, Option.some.injEq] at hc
  obtain ⟨s, rfl⟩ := frame31 a _ _ _ _ _ _ _ hf.d hf.n hf.h0 hf.h3 hf.h4 hf.h5 hf.h6 hf.h7 hf.h9
  clear hf
  subst hc
  unfold NPost
  have HL : Hid (namelessL D A 1 = (1, 0)) := by
    refine show namelessL D A 1 = (1, 0) from ?_
    unfold namelessL
    rw [if_neg (by omega)]
    congr 1
    unfold nameErr
    rw [if_neg (by omega), if_neg (by omega), if_neg (by omega), if_neg (by omega), if_pos hm0, if_neg (by simp [above]; omega)]
  have o0 := HW.o0
  have o1 := HW.o1
  have o2 := HW.o2
  have o3 := HW.o3
  have o4 := HW.o4
  have n1 : ¬ b6 = b9 := by omega
  have n2 : ¬ b9 = b6 := by omega
  have n5 : ¬ b3 = b6 := by omega
  have n6 : ¬ b6 = b3 := by omega
  have n8 : ¬ db = b6 := by omega
  have e1 := HW.e1
  have e2 := HW.e2
  have d4 := HW.d4
  obtain ⟨ca, cc, d5⟩ := HW.d5
  have r0 := HW.r0
  have r1 := HW.r1
  have r2 := HW.r2
  have rf := HW.rf
  have x0 := HW.x0
  have x1 := HW.x1
  have x2 := HW.x2
  have hbe : Hid (Below w.heap.size w W) := HW.be
  have HO : Hid (db < w.heap.size ∧ w.heap.size ≤ b3 ∧ b3 < b6 ∧ b6 < b9 ∧ b9 < W.heap.size) := ⟨o0, o1, o2, o3, o4⟩
  clear o0 o1 o2 o3 o4 HW hBx
  have g35 : (A == 35) = false := by rw [beq_eq_false_iff_ne]; omega
  have g36 : (A == 36) = false := by rw [beq_eq_false_iff_ne]; omega
  have g16 : (A == 16) = false := by rw [beq_eq_false_iff_ne]; omega
  have g17 : (A == 17) = false := by rw [beq_eq_false_iff_ne]; omega
  have g1 : decide (32 ≤ A) = true := decide_eq_true (by omega)
  have g2 : decide (A ≤ 34) = false := decide_eq_false (by omega)
  have g3 : ((memSigF A).1 != 0) = true := by rw [bne_iff_ne]; exact hm0
  have h7 : 2 ≤ (memSigF A).1 := by omega
  clear hm0 hA hA2 h1
  go_wp2
  all_goals (try simp only [Exit.inBlock, Exit.then])
  all_goals refine bodyPost_ret (results31c (b6 := b6) (.int .u8 A) (.int .u32 1) (.int .u64 0) rfl ?_ ?_ ?_) rfl ⟨?_, ?_⟩
  all_goals first
    | (simp [go_sem, r0, r1, r2, x0, x1, x2, n1, n2, *]; done)
    | (rw [HL.out]; done)
    | (rw [HL.out]; rfl)
    | (clear r0 r1 r2 rf x0 x1 x2; obtain ⟨o0, o1, o2, o3, o4⟩ := HO.out
       repeat (first | exact hbe.out | refine Below.drew ?_ | refine belowN ?_ _ | refine Below.setCell ?_ (by simp only []; omega) _ | refine Below.alloc ?_ (by (try simp only [World.size_alloc, World.size_setCell]); omega) _))

set_option maxRecDepth 100000 in
set_option maxHeartbeats 4000000 in
theorem nm_mem_o2 (hA : 40 ≤ A) (hA2 : A ≤ 62) (hm0 : (memSigF A).1 ≠ 0) (h1 : ¬ (memSigF A).1 < 4) (hB0 : 0 ≤ 2) (hBx : 2 ≤ 4294967295) (HW : NmW w W db b3 b6 b9 D A 2) : NGoal w W db b3 b6 b9 D A 2 := by
  intro c a hc hf
  unfold NTail at hc
  simp only [Try.f31, Option.map, dropC, Option.some.injEq] at hc
  obtain ⟨s, rfl⟩ := frame31 a _ _ _ _ _ _ _ hf.d hf.n hf.h0 hf.h3 hf.h4 hf.h5 hf.h6 hf.h7 hf.h9
  clear hf
  subst hc
  unfold NPost
  have HL : Hid (namelessL D A 2 = (2, 0)) := by
    refine show namelessL D A 2 = (2, 0) from ?_
    unfold namelessL
    rw [if_neg (by omega)]
    congr 1
    unfold nameErr
    rw [if_neg (by omega), if_neg (by omega), if_neg (by omega), if_neg (by omega), if_pos hm0, if_neg (by simp [above]; omega)]
  have o0 := HW.o0
  have o1 := HW.o1
  have o2 := HW.o2
  have o3 := HW.o3
  have o4 := HW.o4
  have n1 : ¬ b6 = b9 := by omega
  have n2 : ¬ b9 = b6 := by omega
  have n5 : ¬ b3 = b6 := by omega
  have n6 : ¬ b6 = b3 := by omega
  have n8 : ¬ db = b6 := by omega
  have e1 := HW.e1
  have e2 := HW.e2
  have d4 := HW.d4
  obtain ⟨ca, cc, d5⟩ := HW.d5
  have r0 := HW.r0
  have r1 := HW.r1
  have r2 := HW.r2
  have rf := HW.rf
  have x0 := HW.x0
  have x1 := HW.x1
  have x2 := HW.x2
  have hbe : Hid (Below w.heap.size w W) := HW.be
  have HO : Hid (db < w.heap.size ∧ w.heap.size ≤ b3 ∧ b3 < b6 ∧ b6 < b9 ∧ b9 < W.heap.size) := ⟨o0, o1, o2, o3, o4⟩
  clear o0 o1 o2 o3 o4 HW hBx
  have g35 : (A == 35) = false := by rw [beq_eq_false_iff_ne]; omega
  have g36 : (A == 36) = false := by rw [beq_eq_false_iff_ne]; omega
  have g16 : (A == 16) = false := by rw [beq_eq_false_iff_ne]; omega
  have g17 : (A == 17) = false := by rw [beq_eq_false_iff_ne]; omega
  have g1 : decide (32 ≤ A) = true := decide_eq_true (by omega)
  have g2 : decide (A ≤ 34) = false := decide_eq_false (by omega)
  have g3 : ((memSigF A).1 != 0) = true := by rw [bne_iff_ne]; exact hm0
  have h7 : 4 ≤ (memSigF A).1 := by omega
  clear hm0 hA hA2 h1
  go_wp2
  all_goals (try simp only [Exit.inBlock, Exit.then])
  all_goals refine bodyPost_ret (results31c (b6 := b6) (.int .u8 A) (.int .u32 2) (.int .u64 0) rfl ?_ ?_ ?_) rfl ⟨?_, ?_⟩
  all_goals first
    | (simp [go_sem, r0, r1, r2, x0, x1, x2, n1, n2, *]; done)
    | (rw [HL.out]; done)
    | (rw [HL.out]; rfl)
    | (clear r0 r1 r2 rf x0 x1 x2; obtain ⟨o0, o1, o2, o3, o4⟩ := HO.out
       repeat (first | exact hbe.out | refine Below.drew ?_ | refine belowN ?_ _ | refine Below.setCell ?_ (by simp only []; omega) _ | refine Below.alloc ?_ (by (try simp only [World.size_alloc, World.size_setCell]); omega) _))

set_option maxRecDepth 100000 in
set_option maxHeartbeats 4000000 in
theorem nm_mem_o3 (hA : 40 ≤ A) (hA2 : A ≤ 62) (hm0 : (memSigF A).1 ≠ 0) (h1 : ¬ (memSigF A).1 < 8) (hB0 : 0 ≤ 3) (hBx : 3 ≤ 4294967295) (HW : NmW w W db b3 b6 b9 D A 3) : NGoal w W db b3 b6 b9 D A 3 := by
  intro c a hc hf
  unfold NTail at hc
  simp only [Try.f31, Option.map, dropC, Option.some.injEq] at hc
  obtain ⟨s, rfl⟩ := frame31 a _ _ _ _ _ _ _ hf.d hf.n hf.h0 hf.h3 hf.h4 hf.h5 hf.h6 hf.h7 hf.h9
  clear hf
  subst hc
  unfold NPost
  have HL : Hid (namelessL D A 3 = (3, 0)) := by
    refine show namelessL D A 3 = (3, 0) from ?_
    unfold namelessL
    rw [if_neg (by omega)]
    congr 1
    unfold nameErr
    rw [if_neg (by omega), if_neg (by omega), if_neg (by omega), if_neg (by omega), if_pos hm0, if_neg (by simp [above]; omega)]
  have o0 := HW.o0
  have o1 := HW.o1
  have o2 := HW.o2
  have o3 := HW.o3
  have o4 := HW.o4
  have n1 : ¬ b6 = b9 := by omega
  have n2 : ¬ b9 = b6 := by omega
  have n5 : ¬ b3 = b6 := by omega
  have n6 : ¬ b6 = b3 := by omega
  have n8 : ¬ db = b6 := by omega
  have e1 := HW.e1
  have e2 := HW.e2
  have d4 := HW.d4
  obtain ⟨ca, cc, d5⟩ := HW.d5
  have r0 := HW.r0
  have r1 := HW.r1
  have r2 := HW.r2
  have rf := HW.rf
  have x0 := HW.x0
  have x1 := HW.x1
  have x2 := HW.x2
  have hbe : Hid (Below w.heap.size w W) := HW.be
  have HO : Hid (db < w.heap.size ∧ w.heap.size ≤ b3 ∧ b3 < b6 ∧ b6 < b9 ∧ b9 < W.heap.size) := ⟨o0, o1, o2, o3, o4⟩
  clear o0 o1 o2 o3 o4 HW hBx
  have g35 : (A == 35) = false := by rw [beq_eq_false_iff_ne]; omega
  have g36 : (A == 36) = false := by rw [beq_eq_false_iff_ne]; omega
  have g16 : (A == 16) = false := by rw [beq_eq_false_iff_ne]; omega
  have g17 : (A == 17) = false := by rw [beq_eq_false_iff_ne]; omega
  have g1 : decide (32 ≤ A) = true := decide_eq_true (by omega)
  have g2 : decide (A ≤ 34) = false := decide_eq_false (by omega)
  have g3 : ((memSigF A).1 != 0) = true := by rw [bne_iff_ne]; exact hm0
  have h7 : 8 ≤ (memSigF A).1 := by omega
  clear hm0 hA hA2 h1
  go_wp2
  all_goals (try simp only [Exit.inBlock, Exit.then])
  all_goals refine bodyPost_ret (results31c (b6 := b6) (.int .u8 A) (.int .u32 3) (.int .u64 0) rfl ?_ ?_ ?_) rfl ⟨?_, ?_⟩
  all_goals first
    | (simp [go_sem, r0, r1, r2, x0, x1, x2, n1, n2, *]; done)
    | (rw [HL.out]; done)
    | (rw [HL.out]; rfl)
    | (clear r0 r1 r2 rf x0 x1 x2; obtain ⟨o0, o1, o2, o3, o4⟩ := HO.out
       repeat (first | exact hbe.out | refine Below.drew ?_ | refine belowN ?_ _ | refine Below.setCell ?_ (by simp only []; omega) _ | refine Below.alloc ?_ (by (try simp only [World.size_alloc, World.size_setCell]); omega) _))

end
end Go.Proofs.Qxb6500273a
