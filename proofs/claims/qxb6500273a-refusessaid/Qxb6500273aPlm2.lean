/-
  plain: the ways.
-/
import Derived.Test.Qxb6500273aPl0
import Derived.BigQuiet
import Derived.Deep.RegionWith
set_option linter.unusedVariables false
set_option linter.unusedSimpArgs false
namespace Go.Proofs.Qxb6500273a
open Go.RowKit

section
variable {w W : World} {db b3 b6 b9 : Nat} {D : Dv} {A B C : Int}

set_option maxRecDepth 100000 in
set_option maxHeartbeats 4000000 in
theorem pl_mem_ld1 (hA : 40 ≤ A) (hA2 : A ≤ 62) (hm0 : (memSigF A).1 ≠ 0) (hN : (numSigF A).1 = 0) (h1 : ¬ (memSigF A).1 < 2) (hv : 0 ≤ (memSigF A).2.1 ∧ (memSigF A).2.1 ≤ 255) (h5 : A ≤ 53) (HW : PlW w W db b3 b6 b9 D A 1 C) : PGoal w W db b3 b6 b9 D A 1 C := by
  intro c a hc hf
  unfold PTail at hc
  simp only [Try.f26, Option.map, dropC, Option.some.injEq] at hc
  obtain ⟨s, rfl⟩ := frame26 a _ _ _ _ _ _ _ _ _ _ _ _ _ _ _ hf.d hf.n hf.h0 hf.h3 hf.h4 hf.h5 hf.h6 hf.h7 hf.h8 hf.h9 hf.h12 hf.h13 hf.h16 hf.h17 hf.h19 hf.h20 hf.h21
  clear hf
  subst hc
  unfold PPost
  rw [hN]
  have HL : Hid (plainL D.t D.st A 1 = ([127], strF (memSigF A).2.1, 1, true)) := by
    refine show plainL D.t D.st A 1 = ([127], strF (memSigF A).2.1, 1, true) from ?_
    unfold plainL
    rw [if_neg (by omega), if_neg (by omega), if_neg (by omega), if_neg (by omega), if_neg (by omega), if_neg (by omega), if_neg (by omega), if_neg (by omega), if_pos hm0, if_neg (by simp [above]; omega), if_pos h5]
  have o1 := HW.o1
  have o2 := HW.o2
  have o3 := HW.o3
  have o4 := HW.o4
  have n1 : ¬ b6 = b9 := by omega
  have n2 : ¬ b9 = b6 := by omega
  have n3 : ¬ b3 = b9 := by omega
  have n4 : ¬ b9 = b3 := by omega
  have n5 : ¬ b3 = b6 := by omega
  have n6 : ¬ b6 = b3 := by omega
  have n7 : ¬ db = b9 := by have := HW.o0; omega
  have n8 : ¬ db = b6 := by have := HW.o0; omega
  have d1 := HW.d1
  have d4 := HW.d4
  have e2 := HW.e2
  have e3 := HW.e3
  have r0 := HW.r0
  have r1 := HW.r1
  have r2 := HW.r2
  have rf := HW.rf
  have x0 := HW.x0
  have x1 := HW.x1
  have x2 := HW.x2
  have xf := HW.xf
  have hbe : Hid (Below w.heap.size w W) := HW.be
  have HO : Hid (w.heap.size ≤ b3 ∧ b3 < b6 ∧ b6 < b9 ∧ b9 < W.heap.size) := ⟨o1, o2, o3, o4⟩
  clear HW o1 o2 o3 o4
  have b1 : (A == 1) = false := by rw [beq_eq_false_iff_ne]; omega
  have b2 : decide (65 ≤ A) = false := decide_eq_false (by omega)
  have b3' : (A == 26) = false := by rw [beq_eq_false_iff_ne]; omega
  have b4 : (A == 27) = false := by rw [beq_eq_false_iff_ne]; omega
  have b5x : decide (32 ≤ A) = true := decide_eq_true (by omega)
  have b5 : decide (A ≤ 34) = false := decide_eq_false (by omega)
  have b6' : (A == 35) = false := by rw [beq_eq_false_iff_ne]; omega
  have b7 : (A == 36) = false := by rw [beq_eq_false_iff_ne]; omega
  have b8 : ((memSigF A).1 != 0) = true := by rw [bne_iff_ne]; exact hm0
  have h6 : decide (A ≤ 53) = true := decide_eq_true h5
  have h7 : 2 ≤ (memSigF A).1 := by omega
  clear hN hm0 hA hA2 h5 h1
  have hl1 : (strF (memSigF A).2.1).length = 1 := rfl
  have p9 : b9 < W.heap.size := HO.out.2.2.2
  have p6 : b6 < W.heap.size := by have := HO.out; omega
  go_upto_region 52 with fail
  obtain ⟨W2, hW2⟩ : ∃ W2, W2 = (W.setCell ⟨b9, 1, none⟩ (.int .u32 1)).setCell ⟨b9, 2, none⟩ (.int .u64 (C % 4294967296)) := ⟨_, rfl⟩
  rw [← hW2]
  have r0 : W2.cell? ⟨b6, 0, none⟩ = some (.int .u8 0) := by rw [hW2]; simp [go_sem, r0, n1, n2]
  have r1 : W2.cell? ⟨b6, 1, none⟩ = some (.int .u32 0) := by rw [hW2]; simp [go_sem, r1, n1, n2]
  have r2 : W2.cell? ⟨b6, 2, none⟩ = some (.int .u64 0) := by rw [hW2]; simp [go_sem, r2, n1, n2]
  have rf : ∀ o, W2.frozen? ⟨b6, o, none⟩ = false := fun o => by rw [hW2]; simp [rf]
  have x0 : W2.cell? ⟨b9, 0, none⟩ = some (.int .u8 A) := by rw [hW2]; simp [go_sem, x0]
  have x1 : W2.cell? ⟨b9, 1, none⟩ = some (.int .u32 1) := by rw [hW2]; simp [go_sem, x1]
  have x2 : W2.cell? ⟨b9, 2, none⟩ = some (.int .u64 (C % 4294967296)) := by rw [hW2]; simp [go_sem, x2]
  have hbe : Hid (Below w.heap.size w W2) := by
    rw [hW2]
    exact Below.setCell (p := ⟨b9, 2, none⟩) (Below.setCell (p := ⟨b9, 1, none⟩) hbe.out (by have := HO.out; simp only []; omega) _) (by have := HO.out; simp only []; omega) _
  have HO : Hid (w.heap.size ≤ b3 ∧ b3 < b6 ∧ b6 < b9 ∧ b9 < W2.heap.size) := by
    rw [hW2]
    refine show w.heap.size ≤ b3 ∧ b3 < b6 ∧ b6 < b9 ∧ b9 < _ from ?_
    simpa using HO.out
  have p9 : b9 < W2.heap.size := HO.out.2.2.2
  have p6 : b6 < W2.heap.size := by have := HO.out; omega
  have HT := fun wx => str_any _ hv.1 hv.2 wx
  generalize memSigF A = m at *
  generalize strF m.2.1 = sm at *
  clear hW2 b1 b2 b3' b4 b5x b5 b6' b7 b8 h6 h7 hv d1 d4 e2 e3 n3 n4 n5 n6 n7 n8
  go_region_with (go_at_call 22; refine (HT _).mono ?_; rintro e w4 ⟨rfl, rfl⟩)
  all_goals go_wp2
  all_goals (try simp only [Exit.inBlock, Exit.then])
  all_goals refine bodyPost_ret (results26c (b6 := b6) (.int .u8 A) (.int .u32 (1)) (.int .u64 (C % 4294967296)) rfl ?_ ?_ ?_) rfl ⟨⟨C % 4294967296, ?_⟩, ?_⟩
  all_goals first
    | (simp [go_sem, r0, r1, r2, x0, x1, x2, n1, n2, *]; done)
    | (rw [HL.out]; done)
    | (rw [HL.out]; rfl)
    | (clear r0 r1 r2 rf x0 x1 x2 xf; obtain ⟨o1, o2, o3, o4⟩ := HO.out
       repeat (first | exact hbe.out | exact hb4 | refine Below.drew ?_ | refine belowN ?_ _ | refine Below.setCell ?_ (by simp only []; omega) _ | refine Below.alloc ?_ (by (try simp only [World.size_alloc, World.size_setCell]); omega) _))

set_option maxRecDepth 100000 in
set_option maxHeartbeats 4000000 in
theorem pl_mem_st1 (hA : 40 ≤ A) (hA2 : A ≤ 62) (hm0 : (memSigF A).1 ≠ 0) (hN : (numSigF A).1 = 0) (h1 : ¬ (memSigF A).1 < 2) (hv : 0 ≤ (memSigF A).2.1 ∧ (memSigF A).2.1 ≤ 255) (h5 : ¬ A ≤ 53) (HW : PlW w W db b3 b6 b9 D A 1 C) : PGoal w W db b3 b6 b9 D A 1 C := by
  intro c a hc hf
  unfold PTail at hc
  simp only [Try.f26, Option.map, dropC, Option.some.injEq] at hc
  obtain ⟨s, rfl⟩ := frame26 a _ _ _ _ _ _ _ _ _ _ _ _ _ _ _ hf.d hf.n hf.h0 hf.h3 hf.h4 hf.h5 hf.h6 hf.h7 hf.h8 hf.h9 hf.h12 hf.h13 hf.h16 hf.h17 hf.h19 hf.h20 hf.h21
  clear hf
  subst hc
  unfold PPost
  rw [hN]
  have HL : Hid (plainL D.t D.st A 1 = ([127] ++ strF (memSigF A).2.1, [], 1, true)) := by
    refine show plainL D.t D.st A 1 = ([127] ++ strF (memSigF A).2.1, [], 1, true) from ?_
    unfold plainL
    rw [if_neg (by omega), if_neg (by omega), if_neg (by omega), if_neg (by omega), if_neg (by omega), if_neg (by omega), if_neg (by omega), if_neg (by omega), if_pos hm0, if_neg (by simp [above]; omega), if_neg h5]
  have o1 := HW.o1
  have o2 := HW.o2
  have o3 := HW.o3
  have o4 := HW.o4
  have n1 : ¬ b6 = b9 := by omega
  have n2 : ¬ b9 = b6 := by omega
  have n3 : ¬ b3 = b9 := by omega
  have n4 : ¬ b9 = b3 := by omega
  have n5 : ¬ b3 = b6 := by omega
  have n6 : ¬ b6 = b3 := by omega
  have n7 : ¬ db = b9 := by have := HW.o0; omega
  have n8 : ¬ db = b6 := by have := HW.o0; omega
  have d1 := HW.d1
  have d4 := HW.d4
  have e2 := HW.e2
  have e3 := HW.e3
  have r0 := HW.r0
  have r1 := HW.r1
  have r2 := HW.r2
  have rf := HW.rf
  have x0 := HW.x0
  have x1 := HW.x1
  have x2 := HW.x2
  have xf := HW.xf
  have hbe : Hid (Below w.heap.size w W) := HW.be
  have HO : Hid (w.heap.size ≤ b3 ∧ b3 < b6 ∧ b6 < b9 ∧ b9 < W.heap.size) := ⟨o1, o2, o3, o4⟩
  clear HW o1 o2 o3 o4
  have b1 : (A == 1) = false := by rw [beq_eq_false_iff_ne]; omega
  have b2 : decide (65 ≤ A) = false := decide_eq_false (by omega)
  have b3' : (A == 26) = false := by rw [beq_eq_false_iff_ne]; omega
  have b4 : (A == 27) = false := by rw [beq_eq_false_iff_ne]; omega
  have b5x : decide (32 ≤ A) = true := decide_eq_true (by omega)
  have b5 : decide (A ≤ 34) = false := decide_eq_false (by omega)
  have b6' : (A == 35) = false := by rw [beq_eq_false_iff_ne]; omega
  have b7 : (A == 36) = false := by rw [beq_eq_false_iff_ne]; omega
  have b8 : ((memSigF A).1 != 0) = true := by rw [bne_iff_ne]; exact hm0
  have h6 : decide (A ≤ 53) = false := decide_eq_false h5
  have h7 : 2 ≤ (memSigF A).1 := by omega
  clear hN hm0 hA hA2 h5 h1
  have hl1 : (strF (memSigF A).2.1).length = 1 := rfl
  have p9 : b9 < W.heap.size := HO.out.2.2.2
  have p6 : b6 < W.heap.size := by have := HO.out; omega
  go_upto_region 53 with fail
  obtain ⟨W2, hW2⟩ : ∃ W2, W2 = (W.setCell ⟨b9, 1, none⟩ (.int .u32 1)).setCell ⟨b9, 2, none⟩ (.int .u64 (C % 4294967296)) := ⟨_, rfl⟩
  rw [← hW2]
  have r0 : W2.cell? ⟨b6, 0, none⟩ = some (.int .u8 0) := by rw [hW2]; simp [go_sem, r0, n1, n2]
  have r1 : W2.cell? ⟨b6, 1, none⟩ = some (.int .u32 0) := by rw [hW2]; simp [go_sem, r1, n1, n2]
  have r2 : W2.cell? ⟨b6, 2, none⟩ = some (.int .u64 0) := by rw [hW2]; simp [go_sem, r2, n1, n2]
  have rf : ∀ o, W2.frozen? ⟨b6, o, none⟩ = false := fun o => by rw [hW2]; simp [rf]
  have x0 : W2.cell? ⟨b9, 0, none⟩ = some (.int .u8 A) := by rw [hW2]; simp [go_sem, x0]
  have x1 : W2.cell? ⟨b9, 1, none⟩ = some (.int .u32 1) := by rw [hW2]; simp [go_sem, x1]
  have x2 : W2.cell? ⟨b9, 2, none⟩ = some (.int .u64 (C % 4294967296)) := by rw [hW2]; simp [go_sem, x2]
  have hbe : Hid (Below w.heap.size w W2) := by
    rw [hW2]
    exact Below.setCell (p := ⟨b9, 2, none⟩) (Below.setCell (p := ⟨b9, 1, none⟩) hbe.out (by have := HO.out; simp only []; omega) _) (by have := HO.out; simp only []; omega) _
  have HO : Hid (w.heap.size ≤ b3 ∧ b3 < b6 ∧ b6 < b9 ∧ b9 < W2.heap.size) := by
    rw [hW2]
    refine show w.heap.size ≤ b3 ∧ b3 < b6 ∧ b6 < b9 ∧ b9 < _ from ?_
    simpa using HO.out
  have p9 : b9 < W2.heap.size := HO.out.2.2.2
  have p6 : b6 < W2.heap.size := by have := HO.out; omega
  have HT := fun wx => str_any _ hv.1 hv.2 wx
  generalize memSigF A = m at *
  generalize strF m.2.1 = sm at *
  clear hW2 b1 b2 b3' b4 b5x b5 b6' b7 b8 h6 h7 hv d1 d4 e2 e3 n3 n4 n5 n6 n7 n8
  go_region_with (go_at_call 22; refine (HT _).mono ?_; rintro e w4 ⟨rfl, rfl⟩)
  all_goals go_wp2
  all_goals (try simp only [Exit.inBlock, Exit.then])
  all_goals refine bodyPost_ret (results26c (b6 := b6) (.int .u8 A) (.int .u32 (1)) (.int .u64 (C % 4294967296)) rfl ?_ ?_ ?_) rfl ⟨⟨C % 4294967296, ?_⟩, ?_⟩
  all_goals first
    | (simp [go_sem, r0, r1, r2, x0, x1, x2, n1, n2, *]; done)
    | (rw [HL.out]; done)
    | (rw [HL.out]; rfl)
    | (clear r0 r1 r2 rf x0 x1 x2 xf; obtain ⟨o1, o2, o3, o4⟩ := HO.out
       repeat (first | exact hbe.out | exact hb4 | refine Below.drew ?_ | refine belowN ?_ _ | refine Below.setCell ?_ (by simp only []; omega) _ | refine Below.alloc ?_ (by (try simp only [World.size_alloc, World.size_setCell]); omega) _))

end
end Go.Proofs.Qxb6500273a
