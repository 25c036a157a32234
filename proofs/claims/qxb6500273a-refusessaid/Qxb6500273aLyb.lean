/-
  lay: the ways.
-/
import Derived.Test.Qxb6500273aLy0
import Derived.BigQuiet
set_option linter.unusedVariables false
set_option linter.unusedSimpArgs false
namespace Go.Proofs.Qxb6500273a
open Go.RowKit

section
variable {w W : World} {db b3 b5 : Nat} {D : Dv} {vb vt vc : Value} {K A B C : Int} {S T : List UInt8}

set_option maxRecDepth 100000 in
set_option maxHeartbeats 4000000 in
theorem ly_bad2a (hon : D.on = true) (h95 : D.body.length < 95) (h64 : B ≠ 64) (h1 : B < 0) (HW : LyW w W db b3 b5 D vb vt vc K 2 B C S T) : LGoal w W db b3 b5 D 2 B := by
  intro c a hc hf
  unfold LTail at hc
  simp only [Try.f10, Option.map, dropC, Option.some.injEq] at hc
  obtain ⟨s, rfl⟩ := frame10 a _ _ _ _ _ hf.d hf.n hf.h0 hf.h3 hf.h4 hf.h5 hf.h6
  clear hf
  subst hc
  unfold LPost
  have HL : Hid (layL D 2 B 0 = D) := by
    refine show layL D 2 B 0 = D from ?_
    unfold layL
    rw [if_neg (by rw [hon]; simp; omega), if_pos (by omega), if_pos ⟨h64, by simp [isValF]; omega⟩]
  have HA : Hid (DAt W db D vb vt vc) := HW.now
  have HB : Hid (Below db w W) := HW.bed
  have e2 := HW.e2
  have g1 : (B != 64) = true := by rw [bne_iff_ne]; exact h64
  have g2 : decide (B < 0) = true := decide_eq_true h1
  clear HW h64 hon h95
  go_wp2
  all_goals (try simp only [Exit.inBlock, Exit.then])
  all_goals refine bodyPost_ret (results_none rfl _ _ _) rfl ⟨rfl, ⟨0, vb, vt, vc, ?_⟩, HB.out⟩
  all_goals rw [HL.out]
  all_goals exact HA.out

set_option maxRecDepth 100000 in
set_option maxHeartbeats 4000000 in
theorem ly_bad2b (hon : D.on = true) (h95 : D.body.length < 95) (h64 : B ≠ 64) (h0 : 0 ≤ B) (h1 : 255 < B) (HW : LyW w W db b3 b5 D vb vt vc K 2 B C S T) : LGoal w W db b3 b5 D 2 B := by
  intro c a hc hf
  unfold LTail at hc
  simp only [Try.f10, Option.map, dropC, Option.some.injEq] at hc
  obtain ⟨s, rfl⟩ := frame10 a _ _ _ _ _ hf.d hf.n hf.h0 hf.h3 hf.h4 hf.h5 hf.h6
  clear hf
  subst hc
  unfold LPost
  have HL : Hid (layL D 2 B 0 = D) := by
    refine show layL D 2 B 0 = D from ?_
    unfold layL
    rw [if_neg (by rw [hon]; simp; omega), if_pos (by omega), if_pos ⟨h64, by simp [isValF]; omega⟩]
  have HA : Hid (DAt W db D vb vt vc) := HW.now
  have HB : Hid (Below db w W) := HW.bed
  have e2 := HW.e2
  have g1 : (B != 64) = true := by rw [bne_iff_ne]; exact h64
  have g2 : decide (B < 0) = false := decide_eq_false (by omega)
  have g3 : decide (255 < B) = true := decide_eq_true h1
  clear HW h64 hon h95
  go_wp2
  all_goals (try simp only [Exit.inBlock, Exit.then])
  all_goals refine bodyPost_ret (results_none rfl _ _ _) rfl ⟨rfl, ⟨0, vb, vt, vc, ?_⟩, HB.out⟩
  all_goals rw [HL.out]
  all_goals exact HA.out

set_option maxRecDepth 100000 in
set_option maxHeartbeats 4000000 in
theorem ly_bad2c (hon : D.on = true) (h95 : D.body.length < 95) (h64 : B ≠ 64) (h0 : 0 ≤ B) (h1 : B ≤ 255) (h2 : isValF B = false) (HW : LyW w W db b3 b5 D vb vt vc K 2 B C S T) : LGoal w W db b3 b5 D 2 B := by
  intro c a hc hf
  unfold LTail at hc
  simp only [Try.f10, Option.map, dropC, Option.some.injEq] at hc
  obtain ⟨s, rfl⟩ := frame10 a _ _ _ _ _ hf.d hf.n hf.h0 hf.h3 hf.h4 hf.h5 hf.h6
  clear hf
  subst hc
  unfold LPost
  have HL : Hid (layL D 2 B 0 = D) := by
    refine show layL D 2 B 0 = D from ?_
    unfold layL
    rw [if_neg (by rw [hon]; simp; omega), if_pos (by omega), if_pos ⟨h64, h2⟩]
  have HA : Hid (DAt W db D vb vt vc) := HW.now
  have HB : Hid (Below db w W) := HW.bed
  have e2 := HW.e2
  have g1 : (B != 64) = true := by rw [bne_iff_ne]; exact h64
  have g2 : decide (B < 0) = false := decide_eq_false (by omega)
  have g3 : decide (255 < B) = false := decide_eq_false (by omega)
  have hm : B % 256 = B := by omega
  have HV : ∀ wx, _ := fun wx => isVal_any B wx
  rw [h2] at HV
  clear HW h64 hon h95
  go_wp2_with (go_at_call 24; refine (HV _).mono ?_; rintro e w5 ⟨rfl, h51⟩; have h52 := h51.symm; clear h51; subst h52)
  all_goals (try simp only [Exit.inBlock, Exit.then])
  all_goals refine bodyPost_ret (results_none rfl _ _ _) rfl ⟨rfl, ⟨0, vb, vt, vc, ?_⟩, HB.out⟩
  all_goals rw [HL.out]
  all_goals exact HA.out

set_option maxRecDepth 100000 in
set_option maxHeartbeats 4000000 in
theorem ly_bad3a (hon : D.on = true) (h95 : D.body.length < 95) (h64 : B ≠ 64) (h1 : B < 0) (HW : LyW w W db b3 b5 D vb vt vc K 3 B C S T) : LGoal w W db b3 b5 D 3 B := by
  intro c a hc hf
  unfold LTail at hc
  simp only [Try.f10, Option.map, dropC, Option.some.injEq] at hc
  obtain ⟨s, rfl⟩ := frame10 a _ _ _ _ _ hf.d hf.n hf.h0 hf.h3 hf.h4 hf.h5 hf.h6
  clear hf
  subst hc
  unfold LPost
  have HL : Hid (layL D 3 B 0 = D) := by
    refine show layL D 3 B 0 = D from ?_
    unfold layL
    rw [if_neg (by rw [hon]; simp; omega), if_pos (by omega), if_pos ⟨h64, by simp [isValF]; omega⟩]
  have HA : Hid (DAt W db D vb vt vc) := HW.now
  have HB : Hid (Below db w W) := HW.bed
  have e2 := HW.e2
  have g1 : (B != 64) = true := by rw [bne_iff_ne]; exact h64
  have g2 : decide (B < 0) = true := decide_eq_true h1
  clear HW h64 hon h95
  go_wp2
  all_goals (try simp only [Exit.inBlock, Exit.then])
  all_goals refine bodyPost_ret (results_none rfl _ _ _) rfl ⟨rfl, ⟨0, vb, vt, vc, ?_⟩, HB.out⟩
  all_goals rw [HL.out]
  all_goals exact HA.out

set_option maxRecDepth 100000 in
set_option maxHeartbeats 4000000 in
theorem ly_bad3b (hon : D.on = true) (h95 : D.body.length < 95) (h64 : B ≠ 64) (h0 : 0 ≤ B) (h1 : 255 < B) (HW : LyW w W db b3 b5 D vb vt vc K 3 B C S T) : LGoal w W db b3 b5 D 3 B := by
  intro c a hc hf
  unfold LTail at hc
  simp only [Try.f10, Option.map, dropC, Option.some.injEq] at hc
  obtain ⟨s, rfl⟩ := frame10 a _ _ _ _ _ hf.d hf.n hf.h0 hf.h3 hf.h4 hf.h5 hf.h6
  clear hf
  subst hc
  unfold LPost
  have HL : Hid (layL D 3 B 0 = D) := by
    refine show layL D 3 B 0 = D from ?_
    unfold layL
    rw [if_neg (by rw [hon]; simp; omega), if_pos (by omega), if_pos ⟨h64, by simp [isValF]; omega⟩]
  have HA : Hid (DAt W db D vb vt vc) := HW.now
  have HB : Hid (Below db w W) := HW.bed
  have e2 := HW.e2
  have g1 : (B != 64) = true := by rw [bne_iff_ne]; exact h64
  have g2 : decide (B < 0) = false := decide_eq_false (by omega)
  have g3 : decide (255 < B) = true := decide_eq_true h1
  clear HW h64 hon h95
  go_wp2
  all_goals (try simp only [Exit.inBlock, Exit.then])
  all_goals refine bodyPost_ret (results_none rfl _ _ _) rfl ⟨rfl, ⟨0, vb, vt, vc, ?_⟩, HB.out⟩
  all_goals rw [HL.out]
  all_goals exact HA.out

set_option maxRecDepth 100000 in
set_option maxHeartbeats 4000000 in
theorem ly_bad3c (hon : D.on = true) (h95 : D.body.length < 95) (h64 : B ≠ 64) (h0 : 0 ≤ B) (h1 : B ≤ 255) (h2 : isValF B = false) (HW : LyW w W db b3 b5 D vb vt vc K 3 B C S T) : LGoal w W db b3 b5 D 3 B := by
  intro c a hc hf
  unfold LTail at hc
  simp only [Try.f10, Option.map, dropC, Option.some.injEq] at hc
  obtain ⟨s, rfl⟩ := frame10 a _ _ _ _ _ hf.d hf.n hf.h0 hf.h3 hf.h4 hf.h5 hf.h6
  clear hf
  subst hc
  unfold LPost
  have HL : Hid (layL D 3 B 0 = D) := by
    refine show layL D 3 B 0 = D from ?_
    unfold layL
    rw [if_neg (by rw [hon]; simp; omega), if_pos (by omega), if_pos ⟨h64, h2⟩]
  have HA : Hid (DAt W db D vb vt vc) := HW.now
  have HB : Hid (Below db w W) := HW.bed
  have e2 := HW.e2
  have g1 : (B != 64) = true := by rw [bne_iff_ne]; exact h64
  have g2 : decide (B < 0) = false := decide_eq_false (by omega)
  have g3 : decide (255 < B) = false := decide_eq_false (by omega)
  have hm : B % 256 = B := by omega
  have HV : ∀ wx, _ := fun wx => isVal_any B wx
  rw [h2] at HV
  clear HW h64 hon h95
  go_wp2_with (go_at_call 24; refine (HV _).mono ?_; rintro e w5 ⟨rfl, h51⟩; have h52 := h51.symm; clear h51; subst h52)
  all_goals (try simp only [Exit.inBlock, Exit.then])
  all_goals refine bodyPost_ret (results_none rfl _ _ _) rfl ⟨rfl, ⟨0, vb, vt, vc, ?_⟩, HB.out⟩
  all_goals rw [HL.out]
  all_goals exact HA.out

set_option maxRecDepth 100000 in
set_option maxHeartbeats 4000000 in
theorem ly_bad4a (hon : D.on = true) (h95 : D.body.length < 95) (h64 : B ≠ 64) (h1 : B < 0) (HW : LyW w W db b3 b5 D vb vt vc K 4 B C S T) : LGoal w W db b3 b5 D 4 B := by
  intro c a hc hf
  unfold LTail at hc
  simp only [Try.f10, Option.map, dropC, Option.some.injEq] at hc
  obtain ⟨s, rfl⟩ := frame10 a _ _ _ _ _ hf.d hf.n hf.h0 hf.h3 hf.h4 hf.h5 hf.h6
  clear hf
  subst hc
  unfold LPost
  have HL : Hid (layL D 4 B 0 = D) := by
    refine show layL D 4 B 0 = D from ?_
    unfold layL
    rw [if_neg (by rw [hon]; simp; omega), if_pos (by omega), if_pos ⟨h64, by simp [isValF]; omega⟩]
  have HA : Hid (DAt W db D vb vt vc) := HW.now
  have HB : Hid (Below db w W) := HW.bed
  have e2 := HW.e2
  have g1 : (B != 64) = true := by rw [bne_iff_ne]; exact h64
  have g2 : decide (B < 0) = true := decide_eq_true h1
  clear HW h64 hon h95
  go_wp2
  all_goals (try simp only [Exit.inBlock, Exit.then])
  all_goals refine bodyPost_ret (results_none rfl _ _ _) rfl ⟨rfl, ⟨0, vb, vt, vc, ?_⟩, HB.out⟩
  all_goals rw [HL.out]
  all_goals exact HA.out

set_option maxRecDepth 100000 in
set_option maxHeartbeats 4000000 in
theorem ly_bad4b (hon : D.on = true) (h95 : D.body.length < 95) (h64 : B ≠ 64) (h0 : 0 ≤ B) (h1 : 255 < B) (HW : LyW w W db b3 b5 D vb vt vc K 4 B C S T) : LGoal w W db b3 b5 D 4 B := by
  intro c a hc hf
  unfold LTail at hc
  simp only [Try.f10, Option.map, dropC, Option.some.injEq] at hc
  obtain ⟨s, rfl⟩ := frame10 a _ _ _ _ _ hf.d hf.n hf.h0 hf.h3 hf.h4 hf.h5 hf.h6
  clear hf
  subst hc
  unfold LPost
  have HL : Hid (layL D 4 B 0 = D) := by
    refine show layL D 4 B 0 = D from ?_
    unfold layL
    rw [if_neg (by rw [hon]; simp; omega), if_pos (by omega), if_pos ⟨h64, by simp [isValF]; omega⟩]
  have HA : Hid (DAt W db D vb vt vc) := HW.now
  have HB : Hid (Below db w W) := HW.bed
  have e2 := HW.e2
  have g1 : (B != 64) = true := by rw [bne_iff_ne]; exact h64
  have g2 : decide (B < 0) = false := decide_eq_false (by omega)
  have g3 : decide (255 < B) = true := decide_eq_true h1
  clear HW h64 hon h95
  go_wp2
  all_goals (try simp only [Exit.inBlock, Exit.then])
  all_goals refine bodyPost_ret (results_none rfl _ _ _) rfl ⟨rfl, ⟨0, vb, vt, vc, ?_⟩, HB.out⟩
  all_goals rw [HL.out]
  all_goals exact HA.out

set_option maxRecDepth 100000 in
set_option maxHeartbeats 4000000 in
theorem ly_bad4c (hon : D.on = true) (h95 : D.body.length < 95) (h64 : B ≠ 64) (h0 : 0 ≤ B) (h1 : B ≤ 255) (h2 : isValF B = false) (HW : LyW w W db b3 b5 D vb vt vc K 4 B C S T) : LGoal w W db b3 b5 D 4 B := by
  intro c a hc hf
  unfold LTail at hc
  simp only [Try.f10, Option.map, dropC, Option.some.injEq] at hc
  obtain ⟨s, rfl⟩ := frame10 a _ _ _ _ _ hf.d hf.n hf.h0 hf.h3 hf.h4 hf.h5 hf.h6
  clear hf
  subst hc
  unfold LPost
  have HL : Hid (layL D 4 B 0 = D) := by
    refine show layL D 4 B 0 = D from ?_
    unfold layL
    rw [if_neg (by rw [hon]; simp; omega), if_pos (by omega), if_pos ⟨h64, h2⟩]
  have HA : Hid (DAt W db D vb vt vc) := HW.now
  have HB : Hid (Below db w W) := HW.bed
  have e2 := HW.e2
  have g1 : (B != 64) = true := by rw [bne_iff_ne]; exact h64
  have g2 : decide (B < 0) = false := decide_eq_false (by omega)
  have g3 : decide (255 < B) = false := decide_eq_false (by omega)
  have hm : B % 256 = B := by omega
  have HV : ∀ wx, _ := fun wx => isVal_any B wx
  rw [h2] at HV
  clear HW h64 hon h95
  go_wp2_with (go_at_call 24; refine (HV _).mono ?_; rintro e w5 ⟨rfl, h51⟩; have h52 := h51.symm; clear h51; subst h52)
  all_goals (try simp only [Exit.inBlock, Exit.then])
  all_goals refine bodyPost_ret (results_none rfl _ _ _) rfl ⟨rfl, ⟨0, vb, vt, vc, ?_⟩, HB.out⟩
  all_goals rw [HL.out]
  all_goals exact HA.out

end
end Go.Proofs.Qxb6500273a
