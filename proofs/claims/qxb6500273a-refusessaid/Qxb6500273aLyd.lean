/-
  lay: the ways.
-/
import Derived.Test.Qxb6500273aLy0
import Derived.BigQuiet
set_option linter.unusedVariables false
set_option linter.unusedSimpArgs false
namespace Go.Proofs.Qxb6500273a
open Go.RowKit

section
variable {w W : World} {db b3 b5 : Nat} {D : Dv} {vb vt vc : Value} {K A B C : Int} {S T : List UInt8}

set_option maxRecDepth 100000 in
set_option maxHeartbeats 4000000 in
theorem ly_end_none (hon : D.on = true) (h95 : D.body.length < 95) (h0 : D.ctl.length = 0) (HW : LyW w W db b3 b5 D vb vt vc K 11 B C S T) : LGoal w W db b3 b5 D 11 B := by
  intro c a hc hf
  unfold LTail at hc
  simp only [Try.f10, Option.map, dropC, Option.some.injEq] at hc
  obtain ⟨s, rfl⟩ := frame10 a _ _ _ _ _ hf.d hf.n hf.h0 hf.h3 hf.h4 hf.h5 hf.h6
  clear hf
  subst hc
  unfold LPost
  have HL : Hid (layL D 11 B 0 = D) := by
    refine show layL D 11 B 0 = D from ?_
    unfold layL
    rw [if_neg (by rw [hon]; simp; omega), if_neg (by omega), if_neg (by omega), if_pos rfl, if_pos (.inl h0)]
  have HA : Hid (DAt W db D vb vt vc) := HW.now
  have HB : Hid (Below db w W) := HW.bed
  obtain ⟨ca, cc, hvc⟩ := HW.now.ctlV
  have d5 := HW.now.c5
  rw [hvc, h0] at d5
  clear HW hon h95 h0 hvc
  go_wp2
  all_goals (try simp only [Exit.inBlock, Exit.then])
  all_goals refine bodyPost_ret (results_none rfl _ _ _) rfl ⟨rfl, ⟨0, vb, vt, vc, ?_⟩, HB.out⟩
  all_goals rw [HL.out]
  all_goals exact HA.out

set_option maxRecDepth 100000 in
set_option maxHeartbeats 4000000 in
theorem ly_end_st (hon : D.on = true) (h95 : D.body.length < 95) (hc : D.ctl.length ≤ 6) (h0 : D.ctl.length ≠ 0) (hs : D.st ≠ (lastB D).res) (HW : LyW w W db b3 b5 D vb vt vc K 11 B C S T) : LGoal w W db b3 b5 D 11 B := by
  intro c a hc hf
  unfold LTail at hc
  simp only [Try.f10, Option.map, dropC, Option.some.injEq] at hc
  obtain ⟨s, rfl⟩ := frame10 a _ _ _ _ _ hf.d hf.n hf.h0 hf.h3 hf.h4 hf.h5 hf.h6
  clear hf
  subst hc
  unfold LPost
  have HL : Hid (layL D 11 B 0 = D) := by
    refine show layL D 11 B 0 = D from ?_
    unfold layL
    rw [if_neg (by rw [hon]; simp; omega), if_neg (by omega), if_neg (by omega), if_pos rfl, if_pos (.inr (.inl hs))]
  have HA : Hid (∀ o n, DAt ((W.alloc o).drewN n) db D vb vt vc) := fun o n => (HW.now.alloc o).drewN n
  have HB : Hid (∀ o n, Below db w ((W.alloc o).drewN n)) := fun o n => belowN (HW.bed.alloc (Nat.le_trans (Nat.le_of_lt HW.at_.lt) HW.bed.size) o) n
  have HA2 : Hid (∀ o n, DAt ((W.alloc o).drew.drewN n) db D vb vt vc) := fun o n => (HW.now.alloc o).drew.drewN n
  have HB2 : Hid (∀ o n, Below db w ((W.alloc o).drew.drewN n)) := fun o n => belowN (HW.bed.alloc (Nat.le_trans (Nat.le_of_lt HW.at_.lt) HW.bed.size) o).drew n
  have hDW := HW.now
  have HCt := hDW.ctlAt (D.ctl.length - 1) (by omega)
  have HC5 := hDW.c5
  obtain ⟨g, cap, hv, hg, k0, k1, k2⟩ := HCt
  rw [hv] at HC5
  have hlb : D.ctl.getD (D.ctl.length - 1) blk0 = lastB D := rfl
  rw [hlb] at k0 k1 k2
  obtain ⟨j, hj⟩ : ∃ j : Nat, D.ctl.length = j + 1 := ⟨D.ctl.length - 1, by omega⟩
  rw [show D.ctl.length - 1 = j by omega] at k0 k1 k2
  rw [hj] at HC5
  have hi1 : (j : Int) + 1 - 1 = j := by omega
  have hk7 : (j : Int) < 1000 := by omega
  have b1 : ((j : Int) + 1 == 0) = false := by rw [beq_eq_false_iff_ne]; omega
  have hgl : g < W.heap.size := World.block_lt_of_cell? _ _ k0
  have hd4 := hDW.c4
  have hpd : db < W.heap.size := hDW.lt
  have d4a : ∀ o, (W.alloc o).cell? ⟨db, 4, none⟩ = some (.string ⟨D.st.toArray⟩) := fun o => (hDW.alloc o).c4
  generalize lastB D = b at *
  have bs : (D.st == b.res) = false := by rw [beq_eq_false_iff_ne]; exact hs
  clear HW hDW hon h95 h0 hj hv hlb hs
  go_upto_region 37 with fail
  go_region
  go_upto_region 38 with fail
  go_quiet (fail)
  go_wp2
  all_goals (try simp only [Exit.inBlock, Exit.then])
  all_goals refine bodyPost_ret (results_none rfl _ _ _) rfl ⟨rfl, ⟨0, vb, vt, vc, ?_⟩, ?_⟩
  all_goals first
    | exact HB.out _ _
    | exact HB2.out _ _
    | (rw [HL.out]; first | exact HA.out _ _ | exact HA2.out _ _)

set_option maxRecDepth 100000 in
set_option maxHeartbeats 4000000 in
theorem ly_end_lame (hon : D.on = true) (h95 : D.body.length < 95) (hc : D.ctl.length ≤ 6) (h0 : D.ctl.length ≠ 0) (hs : D.st = (lastB D).res) (h4 : (lastB D).op = 4) (hr : (lastB D).res ≠ []) (HW : LyW w W db b3 b5 D vb vt vc K 11 B C S T) : LGoal w W db b3 b5 D 11 B := by
  intro c a hc hf
  unfold LTail at hc
  simp only [Try.f10, Option.map, dropC, Option.some.injEq] at hc
  obtain ⟨s, rfl⟩ := frame10 a _ _ _ _ _ hf.d hf.n hf.h0 hf.h3 hf.h4 hf.h5 hf.h6
  clear hf
  subst hc
  unfold LPost
  have HL : Hid (layL D 11 B 0 = D) := by
    refine show layL D 11 B 0 = D from ?_
    unfold layL
    rw [if_neg (by rw [hon]; simp; omega), if_neg (by omega), if_neg (by omega), if_pos rfl, if_pos (.inr (.inr ⟨h4, hr⟩))]
  have HA : Hid (∀ o n, DAt ((W.alloc o).drewN n) db D vb vt vc) := fun o n => (HW.now.alloc o).drewN n
  have HB : Hid (∀ o n, Below db w ((W.alloc o).drewN n)) := fun o n => belowN (HW.bed.alloc (Nat.le_trans (Nat.le_of_lt HW.at_.lt) HW.bed.size) o) n
  have HA2 : Hid (∀ o n, DAt ((W.alloc o).drew.drewN n) db D vb vt vc) := fun o n => (HW.now.alloc o).drew.drewN n
  have HB2 : Hid (∀ o n, Below db w ((W.alloc o).drew.drewN n)) := fun o n => belowN (HW.bed.alloc (Nat.le_trans (Nat.le_of_lt HW.at_.lt) HW.bed.size) o).drew n
  have hDW := HW.now
  have HCt := hDW.ctlAt (D.ctl.length - 1) (by omega)
  have HC5 := hDW.c5
  obtain ⟨g, cap, hv, hg, k0, k1, k2⟩ := HCt
  rw [hv] at HC5
  have hlb : D.ctl.getD (D.ctl.length - 1) blk0 = lastB D := rfl
  rw [hlb] at k0 k1 k2
  obtain ⟨j, hj⟩ : ∃ j : Nat, D.ctl.length = j + 1 := ⟨D.ctl.length - 1, by omega⟩
  rw [show D.ctl.length - 1 = j by omega] at k0 k1 k2
  rw [hj] at HC5
  have hi1 : (j : Int) + 1 - 1 = j := by omega
  have hk7 : (j : Int) < 1000 := by omega
  have b1 : ((j : Int) + 1 == 0) = false := by rw [beq_eq_false_iff_ne]; omega
  have hgl : g < W.heap.size := World.block_lt_of_cell? _ _ k0
  have hd4 := hDW.c4
  have hpd : db < W.heap.size := hDW.lt
  have d4a : ∀ o, (W.alloc o).cell? ⟨db, 4, none⟩ = some (.string ⟨D.st.toArray⟩) := fun o => (hDW.alloc o).c4
  generalize lastB D = b at *
  have b4 : (b.op == 4) = true := by rw [h4]; rfl
  have br : b.res.isEmpty = false := by simpa using hr
  rw [hs] at hd4 d4a
  clear HW hDW hon h95 h0 hj hv hlb hs h4 hr
  go_upto_region 37 with fail
  go_region
  go_upto_region 38 with fail
  go_quiet (fail)
  go_wp2
  all_goals (try simp only [Exit.inBlock, Exit.then])
  all_goals refine bodyPost_ret (results_none rfl _ _ _) rfl ⟨rfl, ⟨0, vb, vt, vc, ?_⟩, ?_⟩
  all_goals first
    | exact HB.out _ _
    | exact HB2.out _ _
    | (rw [HL.out]; first | exact HA.out _ _ | exact HA2.out _ _)

end
end Go.Proofs.Qxb6500273a
