/-
  plain: the ways.
-/
import Derived.Test.Qxb6500273aPl0
import Derived.BigQuiet
import Derived.Deep.RegionWith
set_option linter.unusedVariables false
set_option linter.unusedSimpArgs false
namespace Go.Proofs.Qxb6500273a
open Go.RowKit

section
variable {w W : World} {db b3 b6 b9 : Nat} {D : Dv} {A B C : Int}

set_option maxRecDepth 100000 in
set_option maxHeartbeats 4000000 in
theorem pl_ind0  (HW : PlW w W db b3 b6 b9 D 17 0 C) : PGoal w W db b3 b6 b9 D 17 0 C := by
  intro c a hc hf
  unfold PTail at hc
  simp only [Try.f26, Option.map, dropC, Option.some.injEq] at hc
  obtain ⟨s, rfl⟩ := frame26 a _ _ _ _ _ _ _ _ _ _ _ _ _ _ _ hf.d hf.n hf.h0 hf.h3 hf.h4 hf.h5 hf.h6 hf.h7 hf.h8 hf.h9 hf.h12 hf.h13 hf.h16 hf.h17 hf.h19 hf.h20 hf.h21
  clear hf
  subst hc
  unfold PPost
  have hN : (numSigF 17).1 = 0 := by decide
  have hM : (memSigF 17).1 = 0 := by decide
  rw [hN, hM]
  have HL : Hid (plainL D.t D.st 17 0 = ((sidesF 0).1 ++ [127], (sidesF 0).2, 0, true)) := by
    refine show plainL D.t D.st 17 0 = ((sidesF 0).1 ++ [127], (sidesF 0).2, 0, true) from ?_
    unfold plainL
    rw [if_neg (by omega), if_neg (by omega), if_neg (by omega), if_neg (by omega), if_neg (by omega), if_neg (by omega), if_neg (by omega), if_neg (by omega), if_neg (by omega), if_neg (by omega), if_neg (by omega), if_neg (by omega), if_pos rfl, if_neg (by omega)]
  have o1 := HW.o1
  have o2 := HW.o2
  have o3 := HW.o3
  have o4 := HW.o4
  have n1 : ¬ b6 = b9 := by omega
  have n2 : ¬ b9 = b6 := by omega
  have n3 : ¬ b3 = b9 := by omega
  have n4 : ¬ b9 = b3 := by omega
  have n5 : ¬ b3 = b6 := by omega
  have n6 : ¬ b6 = b3 := by omega
  have n7 : ¬ db = b9 := by have := HW.o0; omega
  have n8 : ¬ db = b6 := by have := HW.o0; omega
  have d1 := HW.d1
  have d4 := HW.d4
  have e2 := HW.e2
  have e3 := HW.e3
  have r0 := HW.r0
  have r1 := HW.r1
  have r2 := HW.r2
  have rf := HW.rf
  have x0 := HW.x0
  have x1 := HW.x1
  have x2 := HW.x2
  have xf := HW.xf
  have hbe : Hid (Below w.heap.size w W) := HW.be
  have HO : Hid (w.heap.size ≤ b3 ∧ b3 < b6 ∧ b6 < b9 ∧ b9 < W.heap.size) := ⟨o1, o2, o3, o4⟩
  clear HW o1 o2 o3 o4
  have HS := sides_any 0 (by omega) (by omega) (W.setCell ⟨b9, 1, none⟩ (.int .u32 0))
  have hl4 : (sidesF 0).1.length ≤ 4 := (sides_vals (by omega) (by omega)).2.2.2
  clear hN hM
  go_upto_region 72 with (go_at_call 27; refine HS.mono ?_; rintro e w4 ⟨rfl, hb4⟩)
  have q : ∀ b o, b ≤ b9 → w4.cell? ⟨b, o, none⟩ = (W.setCell ⟨b9, 1, none⟩ (.int .u32 0)).cell? ⟨b, o, none⟩ := fun b o h => hb4.cell (p := ⟨b, o, none⟩) (by have := HO.out; simp only [World.size_setCell]; omega)
  have qz : ∀ o, w4.frozen? ⟨b6, o, none⟩ = false := fun o => by rw [hb4.frozen (p := ⟨b6, o, none⟩) (by have := HO.out; simp only [World.size_setCell]; omega)]; simp [rf]
  have le6 : b6 ≤ b9 := by have := HO.out; omega
  have r0 : w4.cell? ⟨b6, 0, none⟩ = some (.int .u8 0) := by rw [q _ _ le6]; simp [go_sem, r0, n1, n2]
  have r1 : w4.cell? ⟨b6, 1, none⟩ = some (.int .u32 0) := by rw [q _ _ le6]; simp [go_sem, r1, n1, n2]
  have r2 : w4.cell? ⟨b6, 2, none⟩ = some (.int .u64 0) := by rw [q _ _ le6]; simp [go_sem, r2, n1, n2]
  have x0 : w4.cell? ⟨b9, 0, none⟩ = some (.int .u8 17) := by rw [q _ _ (Nat.le_refl _)]; simp [go_sem, x0]
  have x1 : w4.cell? ⟨b9, 1, none⟩ = some (.int .u32 0) := by rw [q _ _ (Nat.le_refl _)]; simp [go_sem, x1]
  have x2 : w4.cell? ⟨b9, 2, none⟩ = some (.int .u64 0) := by rw [q _ _ (Nat.le_refl _)]; simp [go_sem, x2]
  have hb4 : Hid (Below w.heap.size w w4) := Below.trans (Below.setCell (p := ⟨b9, 1, none⟩) hbe.out (by have := HO.out; simp only []; omega) _) (hb4.mono (by have := HO.out; simp only [World.size_setCell]; omega))
  clear q
  go_region
  all_goals go_wp2
  all_goals (try simp only [Exit.inBlock, Exit.then])
  all_goals refine bodyPost_ret (results26c (b6 := b6) (.int .u8 17) (.int .u32 (0)) (.int .u64 (0)) rfl ?_ ?_ ?_) rfl ⟨⟨0, ?_⟩, ?_⟩
  all_goals first
    | (simp [go_sem, r0, r1, r2, x0, x1, x2, n1, n2, *]; done)
    | (rw [HL.out]; done)
    | (rw [HL.out]; rfl)
    | (clear r0 r1 r2 rf x0 x1 x2 xf d1 d4 e2 e3 n1 n2 n3 n4 n5 n6 n7 n8; obtain ⟨o1, o2, o3, o4⟩ := HO.out
       repeat (first | exact hbe.out | exact hb4 | refine Below.drew ?_ | refine belowN ?_ _ | refine Below.setCell ?_ (by simp only []; omega) _ | refine Below.alloc ?_ (by (try simp only [World.size_alloc, World.size_setCell]); omega) _))

set_option maxRecDepth 100000 in
set_option maxHeartbeats 4000000 in
theorem pl_ind1  (HW : PlW w W db b3 b6 b9 D 17 1 C) : PGoal w W db b3 b6 b9 D 17 1 C := by
  intro c a hc hf
  unfold PTail at hc
  simp only [Try.f26, Option.map, dropC, Option.some.injEq] at hc
  obtain ⟨s, rfl⟩ := frame26 a _ _ _ _ _ _ _ _ _ _ _ _ _ _ _ hf.d hf.n hf.h0 hf.h3 hf.h4 hf.h5 hf.h6 hf.h7 hf.h8 hf.h9 hf.h12 hf.h13 hf.h16 hf.h17 hf.h19 hf.h20 hf.h21
  clear hf
  subst hc
  unfold PPost
  have hN : (numSigF 17).1 = 0 := by decide
  have hM : (memSigF 17).1 = 0 := by decide
  rw [hN, hM]
  have HL : Hid (plainL D.t D.st 17 1 = ((sidesF 1).1 ++ [127], (sidesF 1).2, 1, true)) := by
    refine show plainL D.t D.st 17 1 = ((sidesF 1).1 ++ [127], (sidesF 1).2, 1, true) from ?_
    unfold plainL
    rw [if_neg (by omega), if_neg (by omega), if_neg (by omega), if_neg (by omega), if_neg (by omega), if_neg (by omega), if_neg (by omega), if_neg (by omega), if_neg (by omega), if_neg (by omega), if_neg (by omega), if_neg (by omega), if_pos rfl, if_neg (by omega)]
  have o1 := HW.o1
  have o2 := HW.o2
  have o3 := HW.o3
  have o4 := HW.o4
  have n1 : ¬ b6 = b9 := by omega
  have n2 : ¬ b9 = b6 := by omega
  have n3 : ¬ b3 = b9 := by omega
  have n4 : ¬ b9 = b3 := by omega
  have n5 : ¬ b3 = b6 := by omega
  have n6 : ¬ b6 = b3 := by omega
  have n7 : ¬ db = b9 := by have := HW.o0; omega
  have n8 : ¬ db = b6 := by have := HW.o0; omega
  have d1 := HW.d1
  have d4 := HW.d4
  have e2 := HW.e2
  have e3 := HW.e3
  have r0 := HW.r0
  have r1 := HW.r1
  have r2 := HW.r2
  have rf := HW.rf
  have x0 := HW.x0
  have x1 := HW.x1
  have x2 := HW.x2
  have xf := HW.xf
  have hbe : Hid (Below w.heap.size w W) := HW.be
  have HO : Hid (w.heap.size ≤ b3 ∧ b3 < b6 ∧ b6 < b9 ∧ b9 < W.heap.size) := ⟨o1, o2, o3, o4⟩
  clear HW o1 o2 o3 o4
  have HS := sides_any 1 (by omega) (by omega) (W.setCell ⟨b9, 1, none⟩ (.int .u32 1))
  have hl4 : (sidesF 1).1.length ≤ 4 := (sides_vals (by omega) (by omega)).2.2.2
  clear hN hM
  go_upto_region 72 with (go_at_call 27; refine HS.mono ?_; rintro e w4 ⟨rfl, hb4⟩)
  have q : ∀ b o, b ≤ b9 → w4.cell? ⟨b, o, none⟩ = (W.setCell ⟨b9, 1, none⟩ (.int .u32 1)).cell? ⟨b, o, none⟩ := fun b o h => hb4.cell (p := ⟨b, o, none⟩) (by have := HO.out; simp only [World.size_setCell]; omega)
  have qz : ∀ o, w4.frozen? ⟨b6, o, none⟩ = false := fun o => by rw [hb4.frozen (p := ⟨b6, o, none⟩) (by have := HO.out; simp only [World.size_setCell]; omega)]; simp [rf]
  have le6 : b6 ≤ b9 := by have := HO.out; omega
  have r0 : w4.cell? ⟨b6, 0, none⟩ = some (.int .u8 0) := by rw [q _ _ le6]; simp [go_sem, r0, n1, n2]
  have r1 : w4.cell? ⟨b6, 1, none⟩ = some (.int .u32 0) := by rw [q _ _ le6]; simp [go_sem, r1, n1, n2]
  have r2 : w4.cell? ⟨b6, 2, none⟩ = some (.int .u64 0) := by rw [q _ _ le6]; simp [go_sem, r2, n1, n2]
  have x0 : w4.cell? ⟨b9, 0, none⟩ = some (.int .u8 17) := by rw [q _ _ (Nat.le_refl _)]; simp [go_sem, x0]
  have x1 : w4.cell? ⟨b9, 1, none⟩ = some (.int .u32 1) := by rw [q _ _ (Nat.le_refl _)]; simp [go_sem, x1]
  have x2 : w4.cell? ⟨b9, 2, none⟩ = some (.int .u64 0) := by rw [q _ _ (Nat.le_refl _)]; simp [go_sem, x2]
  have hb4 : Hid (Below w.heap.size w w4) := Below.trans (Below.setCell (p := ⟨b9, 1, none⟩) hbe.out (by have := HO.out; simp only []; omega) _) (hb4.mono (by have := HO.out; simp only [World.size_setCell]; omega))
  clear q
  go_region
  all_goals go_wp2
  all_goals (try simp only [Exit.inBlock, Exit.then])
  all_goals refine bodyPost_ret (results26c (b6 := b6) (.int .u8 17) (.int .u32 (1)) (.int .u64 (0)) rfl ?_ ?_ ?_) rfl ⟨⟨0, ?_⟩, ?_⟩
  all_goals first
    | (simp [go_sem, r0, r1, r2, x0, x1, x2, n1, n2, *]; done)
    | (rw [HL.out]; done)
    | (rw [HL.out]; rfl)
    | (clear r0 r1 r2 rf x0 x1 x2 xf d1 d4 e2 e3 n1 n2 n3 n4 n5 n6 n7 n8; obtain ⟨o1, o2, o3, o4⟩ := HO.out
       repeat (first | exact hbe.out | exact hb4 | refine Below.drew ?_ | refine belowN ?_ _ | refine Below.setCell ?_ (by simp only []; omega) _ | refine Below.alloc ?_ (by (try simp only [World.size_alloc, World.size_setCell]); omega) _))

set_option maxRecDepth 100000 in
set_option maxHeartbeats 4000000 in
theorem pl_ind2  (HW : PlW w W db b3 b6 b9 D 17 2 C) : PGoal w W db b3 b6 b9 D 17 2 C := by
  intro c a hc hf
  unfold PTail at hc
  simp only [Try.f26, Option.map, dropC, Option.some.injEq] at hc
  obtain ⟨s, rfl⟩ := frame26 a _ _ _ _ _ _ _ _ _ _ _ _ _ _ _ hf.d hf.n hf.h0 hf.h3 hf.h4 hf.h5 hf.h6 hf.h7 hf.h8 hf.h9 hf.h12 hf.h13 hf.h16 hf.h17 hf.h19 hf.h20 hf.h21
  clear hf
  subst hc
  unfold PPost
  have hN : (numSigF 17).1 = 0 := by decide
  have hM : (memSigF 17).1 = 0 := by decide
  rw [hN, hM]
  have HL : Hid (plainL D.t D.st 17 2 = ((sidesF 2).1 ++ [127], (sidesF 2).2, 2, true)) := by
    refine show plainL D.t D.st 17 2 = ((sidesF 2).1 ++ [127], (sidesF 2).2, 2, true) from ?_
    unfold plainL
    rw [if_neg (by omega), if_neg (by omega), if_neg (by omega), if_neg (by omega), if_neg (by omega), if_neg (by omega), if_neg (by omega), if_neg (by omega), if_neg (by omega), if_neg (by omega), if_neg (by omega), if_neg (by omega), if_pos rfl, if_neg (by omega)]
  have o1 := HW.o1
  have o2 := HW.o2
  have o3 := HW.o3
  have o4 := HW.o4
  have n1 : ¬ b6 = b9 := by omega
  have n2 : ¬ b9 = b6 := by omega
  have n3 : ¬ b3 = b9 := by omega
  have n4 : ¬ b9 = b3 := by omega
  have n5 : ¬ b3 = b6 := by omega
  have n6 : ¬ b6 = b3 := by omega
  have n7 : ¬ db = b9 := by have := HW.o0; omega
  have n8 : ¬ db = b6 := by have := HW.o0; omega
  have d1 := HW.d1
  have d4 := HW.d4
  have e2 := HW.e2
  have e3 := HW.e3
  have r0 := HW.r0
  have r1 := HW.r1
  have r2 := HW.r2
  have rf := HW.rf
  have x0 := HW.x0
  have x1 := HW.x1
  have x2 := HW.x2
  have xf := HW.xf
  have hbe : Hid (Below w.heap.size w W) := HW.be
  have HO : Hid (w.heap.size ≤ b3 ∧ b3 < b6 ∧ b6 < b9 ∧ b9 < W.heap.size) := ⟨o1, o2, o3, o4⟩
  clear HW o1 o2 o3 o4
  have HS := sides_any 2 (by omega) (by omega) (W.setCell ⟨b9, 1, none⟩ (.int .u32 2))
  have hl4 : (sidesF 2).1.length ≤ 4 := (sides_vals (by omega) (by omega)).2.2.2
  clear hN hM
  go_upto_region 72 with (go_at_call 27; refine HS.mono ?_; rintro e w4 ⟨rfl, hb4⟩)
  have q : ∀ b o, b ≤ b9 → w4.cell? ⟨b, o, none⟩ = (W.setCell ⟨b9, 1, none⟩ (.int .u32 2)).cell? ⟨b, o, none⟩ := fun b o h => hb4.cell (p := ⟨b, o, none⟩) (by have := HO.out; simp only [World.size_setCell]; omega)
  have qz : ∀ o, w4.frozen? ⟨b6, o, none⟩ = false := fun o => by rw [hb4.frozen (p := ⟨b6, o, none⟩) (by have := HO.out; simp only [World.size_setCell]; omega)]; simp [rf]
  have le6 : b6 ≤ b9 := by have := HO.out; omega
  have r0 : w4.cell? ⟨b6, 0, none⟩ = some (.int .u8 0) := by rw [q _ _ le6]; simp [go_sem, r0, n1, n2]
  have r1 : w4.cell? ⟨b6, 1, none⟩ = some (.int .u32 0) := by rw [q _ _ le6]; simp [go_sem, r1, n1, n2]
  have r2 : w4.cell? ⟨b6, 2, none⟩ = some (.int .u64 0) := by rw [q _ _ le6]; simp [go_sem, r2, n1, n2]
  have x0 : w4.cell? ⟨b9, 0, none⟩ = some (.int .u8 17) := by rw [q _ _ (Nat.le_refl _)]; simp [go_sem, x0]
  have x1 : w4.cell? ⟨b9, 1, none⟩ = some (.int .u32 2) := by rw [q _ _ (Nat.le_refl _)]; simp [go_sem, x1]
  have x2 : w4.cell? ⟨b9, 2, none⟩ = some (.int .u64 0) := by rw [q _ _ (Nat.le_refl _)]; simp [go_sem, x2]
  have hb4 : Hid (Below w.heap.size w w4) := Below.trans (Below.setCell (p := ⟨b9, 1, none⟩) hbe.out (by have := HO.out; simp only []; omega) _) (hb4.mono (by have := HO.out; simp only [World.size_setCell]; omega))
  clear q
  go_region
  all_goals go_wp2
  all_goals (try simp only [Exit.inBlock, Exit.then])
  all_goals refine bodyPost_ret (results26c (b6 := b6) (.int .u8 17) (.int .u32 (2)) (.int .u64 (0)) rfl ?_ ?_ ?_) rfl ⟨⟨0, ?_⟩, ?_⟩
  all_goals first
    | (simp [go_sem, r0, r1, r2, x0, x1, x2, n1, n2, *]; done)
    | (rw [HL.out]; done)
    | (rw [HL.out]; rfl)
    | (clear r0 r1 r2 rf x0 x1 x2 xf d1 d4 e2 e3 n1 n2 n3 n4 n5 n6 n7 n8; obtain ⟨o1, o2, o3, o4⟩ := HO.out
       repeat (first | exact hbe.out | exact hb4 | refine Below.drew ?_ | refine belowN ?_ _ | refine Below.setCell ?_ (by simp only []; omega) _ | refine Below.alloc ?_ (by (try simp only [World.size_alloc, World.size_setCell]); omega) _))

end
end Go.Proofs.Qxb6500273a
