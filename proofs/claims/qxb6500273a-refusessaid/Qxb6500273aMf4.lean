/-
  misfit: the ways.
-/
import Derived.Test.Qxb6500273aMf0
import Derived.BigQuiet
import Derived.Deep.RegionWith
set_option linter.unusedVariables false
set_option linter.unusedSimpArgs false
namespace Go.Proofs.Qxb6500273a
open Go.RowKit

section
variable {w W : World} {db b3 b6 b9 : Nat} {D : Dv} {A B C : Int}

set_option maxRecDepth 100000 in
set_option maxHeartbeats 4000000 in
theorem mf_else_none (ca : Option Addr) (cc : Nat) (c5 : W.cell? ⟨db, 5, none⟩ = some (.slice ca D.ctl.length cc)) (h0 : D.ctl.length = 0) (HW : PlW w W db b3 b6 b9 D 5 B C) : MGoal w W db b3 b6 b9 D 5 B C := by
  intro c a hc hf
  unfold MTail at hc
  simp only [Try.f33, Option.map, dropC, Option.some.injEq] at hc
  obtain ⟨s, rfl⟩ := frame33 a _ _ _ _ _ _ hf.d hf.n hf.h0 hf.h3 hf.h4 hf.h5 hf.h6 hf.h7
  clear hf
  subst hc
  unfold MPost
  have HL : Hid (misfitL D 5 B = (0, false)) := by
    refine show misfitL D 5 B = (0, false) from ?_
    unfold misfitL
    rw [if_neg (by omega), if_neg (by omega), if_neg (by omega), if_pos rfl, if_pos h0]
  have o0 := HW.o0
  have o1 := HW.o1
  have o2 := HW.o2
  have o3 := HW.o3
  have o4 := HW.o4
  have n1 : ¬ b6 = b9 := by omega
  have n2 : ¬ b9 = b6 := by omega
  have n3 : ¬ b3 = b9 := by omega
  have n4 : ¬ b9 = b3 := by omega
  have n5 : ¬ b3 = b6 := by omega
  have n6 : ¬ b6 = b3 := by omega
  have n7 : ¬ db = b9 := by omega
  have n8 : ¬ db = b6 := by omega
  have d1 := HW.d1
  have d4 := HW.d4
  have e1 := HW.e1
  have e2 := HW.e2
  have r0 := HW.r0
  have r1 := HW.r1
  have r2 := HW.r2
  have rf := HW.rf
  have x0 := HW.x0
  have x1 := HW.x1
  have x2 := HW.x2
  have xf := HW.xf
  have hbe : Hid (Below w.heap.size w W) := HW.be
  have HO : Hid (db < w.heap.size ∧ w.heap.size ≤ b3 ∧ b3 < b6 ∧ b6 < b9 ∧ b9 < W.heap.size) := ⟨o0, o1, o2, o3, o4⟩
  clear o0 o1 o2 o3 o4
  clear HW
  rw [h0] at c5
  clear h0
  go_wp2
  all_goals (try simp only [Exit.inBlock, Exit.then])
  all_goals refine bodyPost_ret (results33c (b6 := b6) (.int .u8 5) (.int .u32 (0)) (.int .u64 (0)) rfl ?_ ?_ ?_) rfl ⟨⟨0, ?_⟩, ?_⟩
  all_goals first
    | (simp [go_sem, r0, r1, r2, x0, x1, x2, n1, n2, *]; done)
    | (rw [HL.out]; done)
    | (rw [HL.out]; rfl)
    | (clear r0 r1 r2 rf x0 x1 x2 xf; obtain ⟨o0, o1, o2, o3, o4⟩ := HO.out
       repeat (first | exact hbe.out | refine Below.drew ?_ | refine belowN ?_ _ | refine Below.setCell ?_ (by simp only []; omega) _ | refine Below.alloc ?_ (by (try simp only [World.size_alloc, World.size_setCell]); omega) _))

set_option maxRecDepth 100000 in
set_option maxHeartbeats 4000000 in
theorem mf_else1 (vb vt vc : Value) (hD : DAt W db D vb vt vc) (hc : D.ctl.length ≤ 1000) (h0 : D.ctl.length ≠ 0) (h4 : (lastB D).op = 4) (HW : PlW w W db b3 b6 b9 D 5 B C) : MGoal w W db b3 b6 b9 D 5 B C := by
  intro c a hc hf
  unfold MTail at hc
  simp only [Try.f33, Option.map, dropC, Option.some.injEq] at hc
  obtain ⟨s, rfl⟩ := frame33 a _ _ _ _ _ _ hf.d hf.n hf.h0 hf.h3 hf.h4 hf.h5 hf.h6 hf.h7
  clear hf
  subst hc
  unfold MPost
  have HL : Hid (misfitL D 5 B = (0, !(D.st == (lastB D).res))) := by
    refine show misfitL D 5 B = (0, !(D.st == (lastB D).res)) from ?_
    unfold misfitL
    rw [if_neg (by omega), if_neg (by omega), if_neg (by omega), if_pos rfl, if_neg h0]; simp [h4]
  have o0 := HW.o0
  have o1 := HW.o1
  have o2 := HW.o2
  have o3 := HW.o3
  have o4 := HW.o4
  have n1 : ¬ b6 = b9 := by omega
  have n2 : ¬ b9 = b6 := by omega
  have n3 : ¬ b3 = b9 := by omega
  have n4 : ¬ b9 = b3 := by omega
  have n5 : ¬ b3 = b6 := by omega
  have n6 : ¬ b6 = b3 := by omega
  have n7 : ¬ db = b9 := by omega
  have n8 : ¬ db = b6 := by omega
  have d1 := HW.d1
  have d4 := HW.d4
  have e1 := HW.e1
  have e2 := HW.e2
  have r0 := HW.r0
  have r1 := HW.r1
  have r2 := HW.r2
  have rf := HW.rf
  have x0 := HW.x0
  have x1 := HW.x1
  have x2 := HW.x2
  have xf := HW.xf
  have hbe : Hid (Below w.heap.size w W) := HW.be
  have HO : Hid (db < w.heap.size ∧ w.heap.size ≤ b3 ∧ b3 < b6 ∧ b6 < b9 ∧ b9 < W.heap.size) := ⟨o0, o1, o2, o3, o4⟩
  clear o0 o1 o2 o3 o4
  have HCt := hD.ctlAt (D.ctl.length - 1) (by omega)
  have HC5 := hD.c5
  obtain ⟨g, cap, hv, hg, k0, k1, k2⟩ := HCt
  rw [hv] at HC5
  have hlb : D.ctl.getD (D.ctl.length - 1) blk0 = lastB D := rfl
  rw [hlb] at k0 k1 k2
  obtain ⟨j, hj⟩ : ∃ j : Nat, D.ctl.length = j + 1 := ⟨D.ctl.length - 1, by omega⟩
  rw [show D.ctl.length - 1 = j by omega] at k0 k1 k2
  rw [hj] at HC5
  have hi1 : (j : Int) + 1 - 1 = j := by omega
  have hk7 : (j : Int) < 1000 := by omega
  have b1 : ((j : Int) + 1 == 0) = false := by rw [beq_eq_false_iff_ne]; omega
  have hgl : g < W.heap.size := World.block_lt_of_cell? _ _ k0
  generalize lastB D = b at *
  clear hD hj hv h0 hlb
  have b4 : (b.op == 4) = true := by rw [h4]; rfl
  have p6 : b6 < W.heap.size := by have := HO.out; omega
  have p9 : b9 < W.heap.size := by have := HO.out; omega
  have pd : db < W.heap.size := by have := HO.out; omega
  generalize D.st = st at *
  clear h4 hc HW
  go_upto_region 15 with fail
  go_region
  go_upto_region 16 with fail
  go_region
  all_goals go_wp2
  all_goals (try simp only [Exit.inBlock, Exit.then])
  all_goals refine bodyPost_ret (results33c (b6 := b6) (.int .u8 5) (.int .u32 (0)) (.int .u64 (0)) rfl ?_ ?_ ?_) rfl ⟨⟨0, ?_⟩, ?_⟩
  all_goals first
    | (simp [go_sem, r0, r1, r2, x0, x1, x2, n1, n2, *]; done)
    | (rw [HL.out]; done)
    | (rw [HL.out]; rfl)
    | (clear r0 r1 r2 rf x0 x1 x2 xf; obtain ⟨o0, o1, o2, o3, o4⟩ := HO.out
       repeat (first | exact hbe.out | refine Below.drew ?_ | refine belowN ?_ _ | refine Below.setCell ?_ (by simp only []; omega) _ | refine Below.alloc ?_ (by (try simp only [World.size_alloc, World.size_setCell]); omega) _))

set_option maxRecDepth 100000 in
set_option maxHeartbeats 4000000 in
theorem mf_else0 (vb vt vc : Value) (hD : DAt W db D vb vt vc) (hc : D.ctl.length ≤ 1000) (h0 : D.ctl.length ≠ 0) (h4 : (lastB D).op ≠ 4) (HW : PlW w W db b3 b6 b9 D 5 B C) : MGoal w W db b3 b6 b9 D 5 B C := by
  intro c a hc hf
  unfold MTail at hc
  simp only [Try.f33, Option.map, dropC, Option.some.injEq] at hc
  obtain ⟨s, rfl⟩ := frame33 a _ _ _ _ _ _ hf.d hf.n hf.h0 hf.h3 hf.h4 hf.h5 hf.h6 hf.h7
  clear hf
  subst hc
  unfold MPost
  have HL : Hid (misfitL D 5 B = (0, false)) := by
    refine show misfitL D 5 B = (0, false) from ?_
    unfold misfitL
    rw [if_neg (by omega), if_neg (by omega), if_neg (by omega), if_pos rfl, if_neg h0]; simp [h4]
  have o0 := HW.o0
  have o1 := HW.o1
  have o2 := HW.o2
  have o3 := HW.o3
  have o4 := HW.o4
  have n1 : ¬ b6 = b9 := by omega
  have n2 : ¬ b9 = b6 := by omega
  have n3 : ¬ b3 = b9 := by omega
  have n4 : ¬ b9 = b3 := by omega
  have n5 : ¬ b3 = b6 := by omega
  have n6 : ¬ b6 = b3 := by omega
  have n7 : ¬ db = b9 := by omega
  have n8 : ¬ db = b6 := by omega
  have d1 := HW.d1
  have d4 := HW.d4
  have e1 := HW.e1
  have e2 := HW.e2
  have r0 := HW.r0
  have r1 := HW.r1
  have r2 := HW.r2
  have rf := HW.rf
  have x0 := HW.x0
  have x1 := HW.x1
  have x2 := HW.x2
  have xf := HW.xf
  have hbe : Hid (Below w.heap.size w W) := HW.be
  have HO : Hid (db < w.heap.size ∧ w.heap.size ≤ b3 ∧ b3 < b6 ∧ b6 < b9 ∧ b9 < W.heap.size) := ⟨o0, o1, o2, o3, o4⟩
  clear o0 o1 o2 o3 o4
  have HCt := hD.ctlAt (D.ctl.length - 1) (by omega)
  have HC5 := hD.c5
  obtain ⟨g, cap, hv, hg, k0, k1, k2⟩ := HCt
  rw [hv] at HC5
  have hlb : D.ctl.getD (D.ctl.length - 1) blk0 = lastB D := rfl
  rw [hlb] at k0 k1 k2
  obtain ⟨j, hj⟩ : ∃ j : Nat, D.ctl.length = j + 1 := ⟨D.ctl.length - 1, by omega⟩
  rw [show D.ctl.length - 1 = j by omega] at k0 k1 k2
  rw [hj] at HC5
  have hi1 : (j : Int) + 1 - 1 = j := by omega
  have hk7 : (j : Int) < 1000 := by omega
  have b1 : ((j : Int) + 1 == 0) = false := by rw [beq_eq_false_iff_ne]; omega
  have hgl : g < W.heap.size := World.block_lt_of_cell? _ _ k0
  generalize lastB D = b at *
  clear hD hj hv h0 hlb
  have b4 : (b.op == 4) = false := by rw [beq_eq_false_iff_ne]; exact h4
  have p6 : b6 < W.heap.size := by have := HO.out; omega
  have p9 : b9 < W.heap.size := by have := HO.out; omega
  have pd : db < W.heap.size := by have := HO.out; omega
  generalize D.st = st at *
  clear h4 hc HW
  go_upto_region 15 with fail
  go_region
  go_upto_region 16 with fail
  go_region
  all_goals go_wp2
  all_goals (try simp only [Exit.inBlock, Exit.then])
  all_goals refine bodyPost_ret (results33c (b6 := b6) (.int .u8 5) (.int .u32 (0)) (.int .u64 (0)) rfl ?_ ?_ ?_) rfl ⟨⟨0, ?_⟩, ?_⟩
  all_goals first
    | (simp [go_sem, r0, r1, r2, x0, x1, x2, n1, n2, *]; done)
    | (rw [HL.out]; done)
    | (rw [HL.out]; rfl)
    | (clear r0 r1 r2 rf x0 x1 x2 xf; obtain ⟨o0, o1, o2, o3, o4⟩ := HO.out
       repeat (first | exact hbe.out | refine Below.drew ?_ | refine belowN ?_ _ | refine Below.setCell ?_ (by simp only []; omega) _ | refine Below.alloc ?_ (by (try simp only [World.size_alloc, World.size_setCell]); omega) _))

end
end Go.Proofs.Qxb6500273a
