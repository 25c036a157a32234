/-
  misfit: the ways.
-/
import Derived.Test.Qxb6500273aMf0
import Derived.Test.Qxb6500273aPl
import Derived.BigQuiet
import Derived.Deep.RegionWith
set_option linter.unusedVariables false
set_option linter.unusedSimpArgs false
namespace Go.Proofs.Qxb6500273a
open Go.RowKit

section
variable {w W : World} {db b3 b6 b9 : Nat} {D : Dv} {A B C : Int}

set_option maxRecDepth 100000 in
set_option maxHeartbeats 4000000 in
theorem mf_pl0 (K : Int) (S T : List UInt8) (vb vt vc : Value) (hD : DAt W db D vb vt vc) (ht0 : 0 ≤ D.t) (ht2 : D.t ≤ 2) (hst : D.st.length ≤ 1000) (k0 : W.cell? ⟨b3, 0, none⟩ = some (.int .i64 K)) (k4 : W.cell? ⟨b3, 4, none⟩ = some (.string ⟨S.toArray⟩)) (k5 : W.cell? ⟨b3, 5, none⟩ = some (.string ⟨T.toArray⟩)) (hA : 0 ≤ A) (hA2 : A ≤ 255) (hn : A ≠ 26 ∧ A ≠ 4 ∧ A ≠ 11 ∧ A ≠ 5 ∧ A ≠ 12 ∧ A ≠ 13 ∧ A ≠ 15 ∧ A ≠ 27) (hk : (plainL D.t D.st A B).2.2.2 = false) (hl : (plainL D.t D.st A B).1.length ≤ 1000) (HW : PlW w W db b3 b6 b9 D A B C) : MGoal w W db b3 b6 b9 D A B C := by
  intro c a hc hf
  unfold MTail at hc
  simp only [Try.f33, Option.map, dropC, Option.some.injEq] at hc
  obtain ⟨s, rfl⟩ := frame33 a _ _ _ _ _ _ hf.d hf.n hf.h0 hf.h3 hf.h4 hf.h5 hf.h6 hf.h7
  clear hf
  subst hc
  unfold MPost
  have HL : Hid (misfitL D A B = ((plainL D.t D.st A B).2.2.1, false)) := by
    refine show misfitL D A B = ((plainL D.t D.st A B).2.2.1, false) from ?_
    unfold misfitL
    rw [if_neg (by omega), if_neg (by omega), if_neg (by omega), if_neg (by omega), if_neg (by omega), if_neg (by omega), if_neg (by omega), hk]; simp
  have o0 := HW.o0
  have o1 := HW.o1
  have o2 := HW.o2
  have o3 := HW.o3
  have o4 := HW.o4
  have n1 : ¬ b6 = b9 := by omega
  have n2 : ¬ b9 = b6 := by omega
  have n3 : ¬ b3 = b9 := by omega
  have n4 : ¬ b9 = b3 := by omega
  have n5 : ¬ b3 = b6 := by omega
  have n6 : ¬ b6 = b3 := by omega
  have n7 : ¬ db = b9 := by omega
  have n8 : ¬ db = b6 := by omega
  have d1 := HW.d1
  have d4 := HW.d4
  have e1 := HW.e1
  have e2 := HW.e2
  have r0 := HW.r0
  have r1 := HW.r1
  have r2 := HW.r2
  have rf := HW.rf
  have x0 := HW.x0
  have x1 := HW.x1
  have x2 := HW.x2
  have xf := HW.xf
  have hbe : Hid (Below w.heap.size w W) := HW.be
  have HO : Hid (db < w.heap.size ∧ w.heap.size ≤ b3 ∧ b3 < b6 ∧ b6 < b9 ∧ b9 < W.heap.size) := ⟨o0, o1, o2, o3, o4⟩
  clear o0 o1 o2 o3 o4
  have e3 := HW.e3
  have g26 : (A == 26) = false := by rw [beq_eq_false_iff_ne]; omega
  have g4 : (A == 4) = false := by rw [beq_eq_false_iff_ne]; omega
  have g11 : (A == 11) = false := by rw [beq_eq_false_iff_ne]; omega
  have g5 : (A == 5) = false := by rw [beq_eq_false_iff_ne]; omega
  have g12 : (A == 12) = false := by rw [beq_eq_false_iff_ne]; omega
  have g13 : (A == 13) = false := by rw [beq_eq_false_iff_ne]; omega
  have g15 : (A == 15) = false := by rw [beq_eq_false_iff_ne]; omega
  have g27 : (A == 27) = false := by rw [beq_eq_false_iff_ne]; omega
  have HC := plain_any2 db D vb vt vc K A B C S T W hD ht0 ht2 hst hA hA2
  unfold opD at HC
  unfold PlainRes at HC
  rw [hk] at HC
  generalize plainL D.t D.st A B = p at *
  obtain ⟨tk, gv, X, ok⟩ := p
  simp only [] at *
  clear hn hA hA2
  clear hD hk hl hst
  go_upto_region 33 with (go_at_call 26; refine HC.mono ?_; rintro e w1 ⟨⟨z, rfl⟩, hb1⟩)
  have HW1 := HW.next hb1
  have o0 := HW1.o0
  have o1 := HW1.o1
  have o2 := HW1.o2
  have o3 := HW1.o3
  have o4 := HW1.o4
  have n1 : ¬ b6 = b9 := by omega
  have n2 : ¬ b9 = b6 := by omega
  have n3 : ¬ b3 = b9 := by omega
  have n4 : ¬ b9 = b3 := by omega
  have n5 : ¬ b3 = b6 := by omega
  have n6 : ¬ b6 = b3 := by omega
  have n7 : ¬ db = b9 := by omega
  have n8 : ¬ db = b6 := by omega
  have d1 := HW1.d1
  have d4 := HW1.d4
  have e1 := HW1.e1
  have e2 := HW1.e2
  have r0 := HW1.r0
  have r1 := HW1.r1
  have r2 := HW1.r2
  have rf := HW1.rf
  have x0 := HW1.x0
  have x1 := HW1.x1
  have x2 := HW1.x2
  have xf := HW1.xf
  have hbe : Hid (Below w.heap.size w w1) := HW1.be
  have HO : Hid (db < w.heap.size ∧ w.heap.size ≤ b3 ∧ b3 < b6 ∧ b6 < b9 ∧ b9 < w1.heap.size) := ⟨o0, o1, o2, o3, o4⟩
  clear o0 o1 o2 o3 o4
  clear HW HW1 hb1
  have p6 : b6 < w1.heap.size := by have := HO.out; omega
  have pd : db < w1.heap.size := by have := HO.out; omega
  have d4a : ∀ o, (w1.alloc o).cell? ⟨db, 4, none⟩ = some (.string ⟨D.st.toArray⟩) := fun o => by rw [oldc (by omega)]; exact d4
  clear HC
  go_wp2
  all_goals (try simp only [Exit.inBlock, Exit.then])
  all_goals refine bodyPost_ret (results33c (b6 := b6) (.int .u8 A) (.int .u32 (X)) (.int .u64 (z)) rfl ?_ ?_ ?_) rfl ⟨⟨z, ?_⟩, ?_⟩
  all_goals first
    | (simp [go_sem, r0, r1, r2, x0, x1, x2, n1, n2, *]; done)
    | (rw [HL.out]; done)
    | (rw [HL.out]; rfl)
    | (clear r0 r1 r2 rf x0 x1 x2 xf; obtain ⟨o0, o1, o2, o3, o4⟩ := HO.out
       repeat (first | exact hbe.out | refine Below.drew ?_ | refine belowN ?_ _ | refine Below.setCell ?_ (by simp only []; omega) _ | refine Below.alloc ?_ (by (try simp only [World.size_alloc, World.size_setCell]); omega) _))

set_option maxRecDepth 100000 in
set_option maxHeartbeats 4000000 in
theorem mf_pls0 (K : Int) (S T : List UInt8) (vb vt vc : Value) (hD : DAt W db D vb vt vc) (ht0 : 0 ≤ D.t) (ht2 : D.t ≤ 2) (hst : D.st.length ≤ 1000) (k0 : W.cell? ⟨b3, 0, none⟩ = some (.int .i64 K)) (k4 : W.cell? ⟨b3, 4, none⟩ = some (.string ⟨S.toArray⟩)) (k5 : W.cell? ⟨b3, 5, none⟩ = some (.string ⟨T.toArray⟩)) (h3 : ¬ D.st.length < 3) (hk : (plainL D.t D.st 27 B).2.2.2 = false) (hl : (plainL D.t D.st 27 B).1.length ≤ 1000) (HW : PlW w W db b3 b6 b9 D 27 B C) : MGoal w W db b3 b6 b9 D 27 B C := by
  intro c a hc hf
  unfold MTail at hc
  simp only [Try.f33, Option.map, dropC, Option.some.injEq] at hc
  obtain ⟨s, rfl⟩ := frame33 a _ _ _ _ _ _ hf.d hf.n hf.h0 hf.h3 hf.h4 hf.h5 hf.h6 hf.h7
  clear hf
  subst hc
  unfold MPost
  have HL : Hid (misfitL D 27 B = ((plainL D.t D.st 27 B).2.2.1, false)) := by
    refine show misfitL D 27 B = ((plainL D.t D.st 27 B).2.2.1, false) from ?_
    unfold misfitL
    rw [if_neg (by omega), if_neg (by omega), if_neg (by omega), if_neg (by omega), if_neg (by omega), if_neg (by omega), if_neg (by omega), hk]; simp
  have o0 := HW.o0
  have o1 := HW.o1
  have o2 := HW.o2
  have o3 := HW.o3
  have o4 := HW.o4
  have n1 : ¬ b6 = b9 := by omega
  have n2 : ¬ b9 = b6 := by omega
  have n3 : ¬ b3 = b9 := by omega
  have n4 : ¬ b9 = b3 := by omega
  have n5 : ¬ b3 = b6 := by omega
  have n6 : ¬ b6 = b3 := by omega
  have n7 : ¬ db = b9 := by omega
  have n8 : ¬ db = b6 := by omega
  have d1 := HW.d1
  have d4 := HW.d4
  have e1 := HW.e1
  have e2 := HW.e2
  have r0 := HW.r0
  have r1 := HW.r1
  have r2 := HW.r2
  have rf := HW.rf
  have x0 := HW.x0
  have x1 := HW.x1
  have x2 := HW.x2
  have xf := HW.xf
  have hbe : Hid (Below w.heap.size w W) := HW.be
  have HO : Hid (db < w.heap.size ∧ w.heap.size ≤ b3 ∧ b3 < b6 ∧ b6 < b9 ∧ b9 < W.heap.size) := ⟨o0, o1, o2, o3, o4⟩
  clear o0 o1 o2 o3 o4
  have e3 := HW.e3
  have HC := plain_any2 db D vb vt vc K 27 B C S T W hD ht0 ht2 hst (by omega) (by omega)
  unfold opD at HC
  unfold PlainRes at HC
  rw [hk] at HC
  generalize plainL D.t D.st 27 B = p at *
  obtain ⟨tk, gv, X, ok⟩ := p
  simp only [] at *
  have h4 : decide ((D.st.length : Int) < 3) = false := decide_eq_false (by omega)
  clear h3
  clear hD hk hl hst
  go_upto_region 33 with (go_at_call 26; refine HC.mono ?_; rintro e w1 ⟨⟨z, rfl⟩, hb1⟩)
  have HW1 := HW.next hb1
  have o0 := HW1.o0
  have o1 := HW1.o1
  have o2 := HW1.o2
  have o3 := HW1.o3
  have o4 := HW1.o4
  have n1 : ¬ b6 = b9 := by omega
  have n2 : ¬ b9 = b6 := by omega
  have n3 : ¬ b3 = b9 := by omega
  have n4 : ¬ b9 = b3 := by omega
  have n5 : ¬ b3 = b6 := by omega
  have n6 : ¬ b6 = b3 := by omega
  have n7 : ¬ db = b9 := by omega
  have n8 : ¬ db = b6 := by omega
  have d1 := HW1.d1
  have d4 := HW1.d4
  have e1 := HW1.e1
  have e2 := HW1.e2
  have r0 := HW1.r0
  have r1 := HW1.r1
  have r2 := HW1.r2
  have rf := HW1.rf
  have x0 := HW1.x0
  have x1 := HW1.x1
  have x2 := HW1.x2
  have xf := HW1.xf
  have hbe : Hid (Below w.heap.size w w1) := HW1.be
  have HO : Hid (db < w.heap.size ∧ w.heap.size ≤ b3 ∧ b3 < b6 ∧ b6 < b9 ∧ b9 < w1.heap.size) := ⟨o0, o1, o2, o3, o4⟩
  clear o0 o1 o2 o3 o4
  clear HW HW1 hb1
  have p6 : b6 < w1.heap.size := by have := HO.out; omega
  have pd : db < w1.heap.size := by have := HO.out; omega
  have d4a : ∀ o, (w1.alloc o).cell? ⟨db, 4, none⟩ = some (.string ⟨D.st.toArray⟩) := fun o => by rw [oldc (by omega)]; exact d4
  clear HC
  go_wp2
  all_goals (try simp only [Exit.inBlock, Exit.then])
  all_goals refine bodyPost_ret (results33c (b6 := b6) (.int .u8 27) (.int .u32 (X)) (.int .u64 (z)) rfl ?_ ?_ ?_) rfl ⟨⟨z, ?_⟩, ?_⟩
  all_goals first
    | (simp [go_sem, r0, r1, r2, x0, x1, x2, n1, n2, *]; done)
    | (rw [HL.out]; done)
    | (rw [HL.out]; rfl)
    | (clear r0 r1 r2 rf x0 x1 x2 xf; obtain ⟨o0, o1, o2, o3, o4⟩ := HO.out
       repeat (first | exact hbe.out | refine Below.drew ?_ | refine belowN ?_ _ | refine Below.setCell ?_ (by simp only []; omega) _ | refine Below.alloc ?_ (by (try simp only [World.size_alloc, World.size_setCell]); omega) _))

end
end Go.Proofs.Qxb6500273a
