/-
  plain: the ways.
-/
import Derived.Test.Qxb6500273aPl0
import Derived.BigQuiet
import Derived.Deep.RegionWith
set_option linter.unusedVariables false
set_option linter.unusedSimpArgs false
namespace Go.Proofs.Qxb6500273a
open Go.RowKit

section
variable {w W : World} {db b3 b6 b9 : Nat} {D : Dv} {A B C : Int}

set_option maxRecDepth 100000 in
set_option maxHeartbeats 4000000 in
theorem pl_const2  (HW : PlW w W db b3 b6 b9 D 67 B C) : PGoal w W db b3 b6 b9 D 67 B C := by
  intro c a hc hf
  unfold PTail at hc
  simp only [Try.f26, Option.map, dropC, Option.some.injEq] at hc
  obtain ⟨s, rfl⟩ := frame26 a _ _ _ _ _ _ _ _ _ _ _ _ _ _ _ hf.d hf.n hf.h0 hf.h3 hf.h4 hf.h5 hf.h6 hf.h7 hf.h8 hf.h9 hf.h12 hf.h13 hf.h16 hf.h17 hf.h19 hf.h20 hf.h21
  clear hf
  subst hc
  unfold PPost
  have hN : (numSigF 67).1 = 0 := by decide
  have hM : (memSigF 67).1 = 0 := by decide
  rw [hN, hM]
  have HL : Hid (plainL D.t D.st 67 B = ([], strF 125, 0, true)) := by
    refine show plainL D.t D.st 67 B = ([], strF 125, 0, true) from ?_
    unfold plainL
    rw [if_neg (by omega), if_neg (by omega), if_neg (by omega), if_pos (by omega)]; rfl
  have o1 := HW.o1
  have o2 := HW.o2
  have o3 := HW.o3
  have o4 := HW.o4
  have n1 : ¬ b6 = b9 := by omega
  have n2 : ¬ b9 = b6 := by omega
  have n3 : ¬ b3 = b9 := by omega
  have n4 : ¬ b9 = b3 := by omega
  have n5 : ¬ b3 = b6 := by omega
  have n6 : ¬ b6 = b3 := by omega
  have n7 : ¬ db = b9 := by have := HW.o0; omega
  have n8 : ¬ db = b6 := by have := HW.o0; omega
  have d1 := HW.d1
  have d4 := HW.d4
  have e2 := HW.e2
  have e3 := HW.e3
  have r0 := HW.r0
  have r1 := HW.r1
  have r2 := HW.r2
  have rf := HW.rf
  have x0 := HW.x0
  have x1 := HW.x1
  have x2 := HW.x2
  have xf := HW.xf
  have hbe : Hid (Below w.heap.size w W) := HW.be
  have HO : Hid (w.heap.size ≤ b3 ∧ b3 < b6 ∧ b6 < b9 ∧ b9 < W.heap.size) := ⟨o1, o2, o3, o4⟩
  clear HW o1 o2 o3 o4
  clear hN hM
  have p9 : b9 < W.heap.size := HO.out.2.2.2
  have p6 : b6 < W.heap.size := by have := HO.out; omega
  go_upto_region 19 with (first | (go_at_call 44; refine (cut_any2 _ _ _).mono ?_; rintro e w1 ⟨⟨z, rfl⟩, h41⟩; have h42 := h41.symm; clear h41; subst h42))
  go_region_with (go_at_call 22; refine (str_any 125 (by omega) (by omega) _).mono ?_; rintro e w4 ⟨rfl, rfl⟩)
  all_goals go_wp2
  all_goals (try simp only [Exit.inBlock, Exit.then])
  all_goals refine bodyPost_ret (results26c (b6 := b6) (.int .u8 67) (.int .u32 (0)) (.int .u64 (z)) rfl ?_ ?_ ?_) rfl ⟨⟨z, ?_⟩, ?_⟩
  all_goals first
    | (simp [go_sem, r0, r1, r2, x0, x1, x2, n1, n2, *]; done)
    | (rw [HL.out]; done)
    | (rw [HL.out]; rfl)
    | (clear r0 r1 r2 rf x0 x1 x2 xf d1 d4 e2 e3 n1 n2 n3 n4 n5 n6 n7 n8; obtain ⟨o1, o2, o3, o4⟩ := HO.out
       repeat (first | exact hbe.out | exact hb4 | refine Below.drew ?_ | refine belowN ?_ _ | refine Below.setCell ?_ (by simp only []; omega) _ | refine Below.alloc ?_ (by (try simp only [World.size_alloc, World.size_setCell]); omega) _))

set_option maxRecDepth 100000 in
set_option maxHeartbeats 4000000 in
theorem pl_const3  (HW : PlW w W db b3 b6 b9 D 68 B C) : PGoal w W db b3 b6 b9 D 68 B C := by
  intro c a hc hf
  unfold PTail at hc
  simp only [Try.f26, Option.map, dropC, Option.some.injEq] at hc
  obtain ⟨s, rfl⟩ := frame26 a _ _ _ _ _ _ _ _ _ _ _ _ _ _ _ hf.d hf.n hf.h0 hf.h3 hf.h4 hf.h5 hf.h6 hf.h7 hf.h8 hf.h9 hf.h12 hf.h13 hf.h16 hf.h17 hf.h19 hf.h20 hf.h21
  clear hf
  subst hc
  unfold PPost
  have hN : (numSigF 68).1 = 0 := by decide
  have hM : (memSigF 68).1 = 0 := by decide
  rw [hN, hM]
  have HL : Hid (plainL D.t D.st 68 B = ([], strF 124, 0, true)) := by
    refine show plainL D.t D.st 68 B = ([], strF 124, 0, true) from ?_
    unfold plainL
    rw [if_neg (by omega), if_neg (by omega), if_neg (by omega), if_pos (by omega)]; rfl
  have o1 := HW.o1
  have o2 := HW.o2
  have o3 := HW.o3
  have o4 := HW.o4
  have n1 : ¬ b6 = b9 := by omega
  have n2 : ¬ b9 = b6 := by omega
  have n3 : ¬ b3 = b9 := by omega
  have n4 : ¬ b9 = b3 := by omega
  have n5 : ¬ b3 = b6 := by omega
  have n6 : ¬ b6 = b3 := by omega
  have n7 : ¬ db = b9 := by have := HW.o0; omega
  have n8 : ¬ db = b6 := by have := HW.o0; omega
  have d1 := HW.d1
  have d4 := HW.d4
  have e2 := HW.e2
  have e3 := HW.e3
  have r0 := HW.r0
  have r1 := HW.r1
  have r2 := HW.r2
  have rf := HW.rf
  have x0 := HW.x0
  have x1 := HW.x1
  have x2 := HW.x2
  have xf := HW.xf
  have hbe : Hid (Below w.heap.size w W) := HW.be
  have HO : Hid (w.heap.size ≤ b3 ∧ b3 < b6 ∧ b6 < b9 ∧ b9 < W.heap.size) := ⟨o1, o2, o3, o4⟩
  clear HW o1 o2 o3 o4
  clear hN hM
  have p9 : b9 < W.heap.size := HO.out.2.2.2
  have p6 : b6 < W.heap.size := by have := HO.out; omega
  go_upto_region 19 with (first | (go_at_call 44; refine (cut_any2 _ _ _).mono ?_; rintro e w1 ⟨⟨z, rfl⟩, h41⟩; have h42 := h41.symm; clear h41; subst h42))
  go_region_with (go_at_call 22; refine (str_any 124 (by omega) (by omega) _).mono ?_; rintro e w4 ⟨rfl, rfl⟩)
  all_goals go_wp2
  all_goals (try simp only [Exit.inBlock, Exit.then])
  all_goals refine bodyPost_ret (results26c (b6 := b6) (.int .u8 68) (.int .u32 (0)) (.int .u64 (z)) rfl ?_ ?_ ?_) rfl ⟨⟨z, ?_⟩, ?_⟩
  all_goals first
    | (simp [go_sem, r0, r1, r2, x0, x1, x2, n1, n2, *]; done)
    | (rw [HL.out]; done)
    | (rw [HL.out]; rfl)
    | (clear r0 r1 r2 rf x0 x1 x2 xf d1 d4 e2 e3 n1 n2 n3 n4 n5 n6 n7 n8; obtain ⟨o1, o2, o3, o4⟩ := HO.out
       repeat (first | exact hbe.out | exact hb4 | refine Below.drew ?_ | refine belowN ?_ _ | refine Below.setCell ?_ (by simp only []; omega) _ | refine Below.alloc ?_ (by (try simp only [World.size_alloc, World.size_setCell]); omega) _))

end
end Go.Proofs.Qxb6500273a
