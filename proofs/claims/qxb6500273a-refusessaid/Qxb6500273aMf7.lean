/-
  misfit: the ways.
-/
import Derived.Test.Qxb6500273aMf0
import Derived.BigQuiet
import Derived.Deep.RegionWith
set_option linter.unusedVariables false
set_option linter.unusedSimpArgs false
namespace Go.Proofs.Qxb6500273a
open Go.RowKit

section
variable {w W : World} {db b3 b6 b9 : Nat} {D : Dv} {A B C : Int}

set_option maxRecDepth 100000 in
set_option maxHeartbeats 4000000 in
theorem mf_brif (vb vt vc : Value) (hD : DAt W db D vb vt vc) (ht0 : 0 ≤ D.t) (ht2 : D.t ≤ 2) (hc : D.ctl.length ≤ 1000) (hst : D.st.length ≤ 1000) (hlb : (labelL D B).1.length ≤ 10) (h1 : (labelL D B).2 = true) (hB0 : 0 ≤ B) (hB7 : B ≤ 1000) (HW : PlW w W db b3 b6 b9 D 13 B C) : MGoal w W db b3 b6 b9 D 13 B C := by
  intro c a hc hf
  unfold MTail at hc
  simp only [Try.f33, Option.map, dropC, Option.some.injEq] at hc
  obtain ⟨s, rfl⟩ := frame33 a _ _ _ _ _ _ hf.d hf.n hf.h0 hf.h3 hf.h4 hf.h5 hf.h6 hf.h7
  clear hf
  subst hc
  unfold MPost
  have HL : Hid (misfitL D 13 B = (B, !endsF D.st ((labelL D B).1 ++ [127]))) := by
    refine show misfitL D 13 B = (B, !endsF D.st ((labelL D B).1 ++ [127])) from ?_
    unfold misfitL
    rw [if_neg (by omega), if_neg (by omega), if_neg (by omega), if_neg (by omega), if_pos (by omega), if_neg (by rw [h1]; simp)]; simp
  have o0 := HW.o0
  have o1 := HW.o1
  have o2 := HW.o2
  have o3 := HW.o3
  have o4 := HW.o4
  have n1 : ¬ b6 = b9 := by omega
  have n2 : ¬ b9 = b6 := by omega
  have n3 : ¬ b3 = b9 := by omega
  have n4 : ¬ b9 = b3 := by omega
  have n5 : ¬ b3 = b6 := by omega
  have n6 : ¬ b6 = b3 := by omega
  have n7 : ¬ db = b9 := by omega
  have n8 : ¬ db = b6 := by omega
  have d1 := HW.d1
  have d4 := HW.d4
  have e1 := HW.e1
  have e2 := HW.e2
  have r0 := HW.r0
  have r1 := HW.r1
  have r2 := HW.r2
  have rf := HW.rf
  have x0 := HW.x0
  have x1 := HW.x1
  have x2 := HW.x2
  have xf := HW.xf
  have hbe : Hid (Below w.heap.size w W) := HW.be
  have HO : Hid (db < w.heap.size ∧ w.heap.size ≤ b3 ∧ b3 < b6 ∧ b6 < b9 ∧ b9 < W.heap.size) := ⟨o0, o1, o2, o3, o4⟩
  clear o0 o1 o2 o3 o4
  have HC := label_any2 db D vb vt vc B W hD ht0 ht2 hc
  rw [h1] at HC
  generalize (labelL D B).1 = la at *
  have hBm : B % 4294967296 = B := by omega
  have HE : ∀ wx, _ := fun wx => ends_any D.st (la ++ [127]) hst (by (try simp only [List.length_append, List.length_singleton]); omega) wx
  clear hD h1 hst
  go_upto_region 20 with (go_at_call 12; refine HC.mono ?_; rintro e w1 ⟨rfl, hb1⟩)
  have HW1 := HW.next hb1
  have o0 := HW1.o0
  have o1 := HW1.o1
  have o2 := HW1.o2
  have o3 := HW1.o3
  have o4 := HW1.o4
  have n1 : ¬ b6 = b9 := by omega
  have n2 : ¬ b9 = b6 := by omega
  have n3 : ¬ b3 = b9 := by omega
  have n4 : ¬ b9 = b3 := by omega
  have n5 : ¬ b3 = b6 := by omega
  have n6 : ¬ b6 = b3 := by omega
  have n7 : ¬ db = b9 := by omega
  have n8 : ¬ db = b6 := by omega
  have d1 := HW1.d1
  have d4 := HW1.d4
  have e1 := HW1.e1
  have e2 := HW1.e2
  have r0 := HW1.r0
  have r1 := HW1.r1
  have r2 := HW1.r2
  have rf := HW1.rf
  have x0 := HW1.x0
  have x1 := HW1.x1
  have x2 := HW1.x2
  have xf := HW1.xf
  have hbe : Hid (Below w.heap.size w w1) := HW1.be
  have HO : Hid (db < w.heap.size ∧ w.heap.size ≤ b3 ∧ b3 < b6 ∧ b6 < b9 ∧ b9 < w1.heap.size) := ⟨o0, o1, o2, o3, o4⟩
  clear o0 o1 o2 o3 o4
  clear HW HW1 hb1
  clear HC
  go_upto_region 25 with fail
  go_region_held3 (fun u => u.cell? ⟨b9, 0, none⟩ = some (.int .u8 13) ∧ u.cell? ⟨b9, 1, none⟩ = some (.int .u32 B) ∧ u.cell? ⟨b9, 2, none⟩ = some (.int .u64 0) ∧ u.cell? ⟨db, 4, none⟩ = some (.string ⟨D.st.toArray⟩)) (first | (go_keep; done) | (simp [go_sem, x0, x1, x2, d4, n1, n2, n7, n8, *]; done)) (first | (go_at_call 25; refine (HE _).mono ?_; rintro e w5 ⟨rfl, h51⟩; have h52 := h51.symm; clear h51; subst h52))
  all_goals go_wp2
  all_goals (try simp only [Exit.inBlock, Exit.then])
  all_goals refine bodyPost_ret (results33c (b6 := b6) (.int .u8 13) (.int .u32 (B)) (.int .u64 (0)) rfl ?_ ?_ ?_) rfl ⟨⟨0, ?_⟩, ?_⟩
  all_goals first
    | (simp [go_sem, r0, r1, r2, x0, x1, x2, n1, n2, *]; done)
    | (rw [HL.out]; done)
    | (rw [HL.out]; rfl)
    | (clear r0 r1 r2 rf x0 x1 x2 xf; obtain ⟨o0, o1, o2, o3, o4⟩ := HO.out
       repeat (first | exact hbe.out | refine Below.drew ?_ | refine belowN ?_ _ | refine Below.setCell ?_ (by simp only []; omega) _ | refine Below.alloc ?_ (by (try simp only [World.size_alloc, World.size_setCell]); omega) _))

end
end Go.Proofs.Qxb6500273a
