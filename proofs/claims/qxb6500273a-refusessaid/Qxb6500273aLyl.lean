/-
  lay: the ways.
-/
import Derived.Test.Qxb6500273aLy0
import Derived.BigQuiet
set_option linter.unusedVariables false
set_option linter.unusedSimpArgs false
namespace Go.Proofs.Qxb6500273a
open Go.RowKit

section
variable {w W : World} {db b3 b5 : Nat} {D : Dv} {vb vt vc : Value} {K A B C : Int} {S T : List UInt8}

set_option maxRecDepth 100000 in
set_option maxHeartbeats 4000000 in
theorem ly_else_none (hon : D.on = true) (h95 : D.body.length < 95) (h0 : D.ctl.length = 0) (HW : LyW w W db b3 b5 D vb vt vc K 5 B C S T) : LGoal w W db b3 b5 D 5 B := by
  intro c a hc hf
  unfold LTail at hc
  simp only [Try.f10, Option.map, dropC, Option.some.injEq] at hc
  obtain ⟨s, rfl⟩ := frame10 a _ _ _ _ _ hf.d hf.n hf.h0 hf.h3 hf.h4 hf.h5 hf.h6
  clear hf
  subst hc
  unfold LPost
  have HL : Hid (layL D 5 B 0 = D) := by
    refine show layL D 5 B 0 = D from ?_
    unfold layL
    rw [if_neg (by rw [hon]; simp; omega), if_neg (by omega), if_pos rfl, if_pos (.inl h0)]
  have HA : Hid (DAt W db D vb vt vc) := HW.now
  have HB : Hid (Below db w W) := HW.bed
  obtain ⟨ca, cc, hvc⟩ := HW.now.ctlV
  have d5 := HW.now.c5
  rw [hvc, h0] at d5
  clear HW hon h95 h0 hvc
  go_wp2
  all_goals (try simp only [Exit.inBlock, Exit.then])
  all_goals refine bodyPost_ret (results_none rfl _ _ _) rfl ⟨rfl, ⟨0, vb, vt, vc, ?_⟩, HB.out⟩
  all_goals rw [HL.out]
  all_goals exact HA.out

set_option maxRecDepth 100000 in
set_option maxHeartbeats 4000000 in
theorem ly_else_op (hon : D.on = true) (h95 : D.body.length < 95) (hc : D.ctl.length ≤ 6) (h0 : D.ctl.length ≠ 0) (h4 : (lastB D).op ≠ 4) (HW : LyW w W db b3 b5 D vb vt vc K 5 B C S T) : LGoal w W db b3 b5 D 5 B := by
  intro c a hc hf
  unfold LTail at hc
  simp only [Try.f10, Option.map, dropC, Option.some.injEq] at hc
  obtain ⟨s, rfl⟩ := frame10 a _ _ _ _ _ hf.d hf.n hf.h0 hf.h3 hf.h4 hf.h5 hf.h6
  clear hf
  subst hc
  unfold LPost
  have HL : Hid (layL D 5 B 0 = D) := by
    refine show layL D 5 B 0 = D from ?_
    unfold layL
    rw [if_neg (by rw [hon]; simp; omega), if_neg (by omega), if_pos rfl, if_pos (.inr (.inl h4))]
  have HA : Hid (∀ n m, DAt ((W.drewN n).drewN m) db D vb vt vc) := fun n m => (HW.now.drewN n).drewN m
  have HB : Hid (∀ n m, Below db w ((W.drewN n).drewN m)) := fun n m => belowN (belowN HW.bed n) m
  have hDW := HW.now
  have HCt := hDW.ctlAt (D.ctl.length - 1) (by omega)
  have HC5 := hDW.c5
  obtain ⟨g, cap, hv, hg, k0, k1, k2⟩ := HCt
  rw [hv] at HC5
  have hlb : D.ctl.getD (D.ctl.length - 1) blk0 = lastB D := rfl
  rw [hlb] at k0 k1 k2
  obtain ⟨j, hj⟩ : ∃ j : Nat, D.ctl.length = j + 1 := ⟨D.ctl.length - 1, by omega⟩
  rw [show D.ctl.length - 1 = j by omega] at k0 k1 k2
  rw [hj] at HC5
  have hi1 : (j : Int) + 1 - 1 = j := by omega
  have hk7 : (j : Int) < 1000 := by omega
  have b1 : ((j : Int) + 1 == 0) = false := by rw [beq_eq_false_iff_ne]; omega
  have hgl : g < W.heap.size := World.block_lt_of_cell? _ _ k0
  have hd4 := hDW.c4
  have hpd : db < W.heap.size := hDW.lt
  generalize lastB D = b at *
  have b4 : (b.op != 4) = true := by rw [bne_iff_ne]; exact h4
  clear HW hDW hon h95 h0 hj hv hlb h4
  go_upto_region 31 with fail
  go_quiet (fail)
  go_upto_region 32 with fail
  go_quiet (fail)
  go_wp2
  all_goals (try simp only [Exit.inBlock, Exit.then])
  all_goals refine bodyPost_ret (results_none rfl _ _ _) rfl ⟨rfl, ⟨0, vb, vt, vc, ?_⟩, HB.out _ _⟩
  all_goals rw [HL.out]
  all_goals exact HA.out _ _

set_option maxRecDepth 100000 in
set_option maxHeartbeats 4000000 in
theorem ly_else_st (hon : D.on = true) (h95 : D.body.length < 95) (hc : D.ctl.length ≤ 6) (h0 : D.ctl.length ≠ 0) (h4 : (lastB D).op = 4) (hs : D.st ≠ (lastB D).res) (HW : LyW w W db b3 b5 D vb vt vc K 5 B C S T) : LGoal w W db b3 b5 D 5 B := by
  intro c a hc hf
  unfold LTail at hc
  simp only [Try.f10, Option.map, dropC, Option.some.injEq] at hc
  obtain ⟨s, rfl⟩ := frame10 a _ _ _ _ _ hf.d hf.n hf.h0 hf.h3 hf.h4 hf.h5 hf.h6
  clear hf
  subst hc
  unfold LPost
  have HL : Hid (layL D 5 B 0 = D) := by
    refine show layL D 5 B 0 = D from ?_
    unfold layL
    rw [if_neg (by rw [hon]; simp; omega), if_neg (by omega), if_pos rfl, if_pos (.inr (.inr hs))]
  have HA : Hid (∀ n m, DAt ((W.drewN n).drewN m) db D vb vt vc) := fun n m => (HW.now.drewN n).drewN m
  have HB : Hid (∀ n m, Below db w ((W.drewN n).drewN m)) := fun n m => belowN (belowN HW.bed n) m
  have hDW := HW.now
  have HCt := hDW.ctlAt (D.ctl.length - 1) (by omega)
  have HC5 := hDW.c5
  obtain ⟨g, cap, hv, hg, k0, k1, k2⟩ := HCt
  rw [hv] at HC5
  have hlb : D.ctl.getD (D.ctl.length - 1) blk0 = lastB D := rfl
  rw [hlb] at k0 k1 k2
  obtain ⟨j, hj⟩ : ∃ j : Nat, D.ctl.length = j + 1 := ⟨D.ctl.length - 1, by omega⟩
  rw [show D.ctl.length - 1 = j by omega] at k0 k1 k2
  rw [hj] at HC5
  have hi1 : (j : Int) + 1 - 1 = j := by omega
  have hk7 : (j : Int) < 1000 := by omega
  have b1 : ((j : Int) + 1 == 0) = false := by rw [beq_eq_false_iff_ne]; omega
  have hgl : g < W.heap.size := World.block_lt_of_cell? _ _ k0
  have hd4 := hDW.c4
  have hpd : db < W.heap.size := hDW.lt
  generalize lastB D = b at *
  have b4 : (b.op != 4) = false := by rw [h4]; rfl
  have bs : (D.st == b.res) = false := by rw [beq_eq_false_iff_ne]; exact hs
  clear HW hDW hon h95 h0 hj hv hlb h4 hs
  go_upto_region 31 with fail
  go_quiet (fail)
  go_upto_region 32 with fail
  go_quiet (fail)
  go_wp2
  all_goals (try simp only [Exit.inBlock, Exit.then])
  all_goals refine bodyPost_ret (results_none rfl _ _ _) rfl ⟨rfl, ⟨0, vb, vt, vc, ?_⟩, HB.out _ _⟩
  all_goals rw [HL.out]
  all_goals exact HA.out _ _

end
end Go.Proofs.Qxb6500273a
