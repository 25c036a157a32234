/-
  lay: the ways.
-/
import Derived.Test.Qxb6500273aLy0
import Derived.BigQuiet
set_option linter.unusedVariables false
set_option linter.unusedSimpArgs false
namespace Go.Proofs.Qxb6500273a
open Go.RowKit

section
variable {w W : World} {db b3 b5 : Nat} {D : Dv} {vb vt vc : Value} {K A B C : Int} {S T : List UInt8}

set_option maxRecDepth 100000 in
set_option maxHeartbeats 4000000 in
theorem ly_else_ok (hon : D.on = true) (h95 : D.body.length < 95) (hc : D.ctl.length ≤ 6) (h0 : D.ctl.length ≠ 0) (h4 : (lastB D).op = 4) (hs : D.st = (lastB D).res) (HW : LyW w W db b3 b5 D vb vt vc K 5 B C S T) : LGoal w W db b3 b5 D 5 B := by
  intro c a hc hf
  unfold LTail at hc
  simp only [Try.f10, Option.map, dropC, Option.some.injEq] at hc
  obtain ⟨s, rfl⟩ := frame10 a _ _ _ _ _ hf.d hf.n hf.h0 hf.h3 hf.h4 hf.h5 hf.h6
  clear hf
  subst hc
  unfold LPost
  have HL : Hid (layL D 5 B 0 = { D with body := D.body ++ [⟨5, 0, 0⟩], ctl := D.ctl.take (D.ctl.length - 1) ++ [⟨5, (lastB D).res, (lastB D).outer⟩], st := [] }) := by
    refine show layL D 5 B 0 = _ from ?_
    unfold layL
    rw [if_neg (by rw [hon]; simp; omega), if_neg (by omega), if_pos rfl, if_neg (by rw [h4, hs]; simp; exact fun h => h0 (by rw [h]; rfl))]
  have hDW := HW.now
  have HCt := hDW.ctlAt (D.ctl.length - 1) (by omega)
  have HC5 := hDW.c5
  obtain ⟨g, cap, hv, hg, k0, k1, k2⟩ := HCt
  rw [hv] at HC5
  have hlb : D.ctl.getD (D.ctl.length - 1) blk0 = lastB D := rfl
  rw [hlb] at k0 k1 k2
  obtain ⟨j, hj⟩ : ∃ j : Nat, D.ctl.length = j + 1 := ⟨D.ctl.length - 1, by omega⟩
  rw [show D.ctl.length - 1 = j by omega] at k0 k1 k2
  rw [hj] at HC5
  have hi1 : (j : Int) + 1 - 1 = j := by omega
  have hk7 : (j : Int) < 1000 := by omega
  have b1 : ((j : Int) + 1 == 0) = false := by rw [beq_eq_false_iff_ne]; omega
  have hgl : g < W.heap.size := World.block_lt_of_cell? _ _ k0
  have hd4 := hDW.c4
  have hpd : db < W.heap.size := hDW.lt
  have h1 := HW.o1
  have h2 := HW.o2
  have h5 := HW.o4
  have hdw := HW.at_.lt
  have n7 : ¬ db = b5 := by omega
  have n8 : ¬ b5 = db := by omega
  have x0 := HW.x0
  have x1 := HW.x1
  have x2 := HW.x2
  have fz : ∀ o, W.frozen? ⟨db, o, none⟩ = false := hDW.fz
  have hgw : g < w.heap.size := own_lt HW.at_.oc (by rw [hv]; rfl)
  have fzg : ∀ o, W.frozen? ⟨g, o, none⟩ = false := fun o => by
    obtain ⟨_, _⟩ := hDW.oc
    rcases hDW.oc.2 with ⟨q, _⟩ | ⟨g', cap', cur, q, q1, q2, _⟩
    · rw [hv] at q; simp at q
    · rw [hv] at q
      simp only [Value.slice.injEq, Option.some.injEq, Addr.mk.injEq, and_true] at q
      obtain ⟨rfl, _⟩ := q
      exact frozen_lit q2 o
  have HEl : Hid (∀ n, DAt (((W.drewN n).setCell ⟨g, j * 3, none⟩ (.int .u8 5)).setCell ⟨db, 4, none⟩ (.string ⟨#[]⟩)) db { D with ctl := D.ctl.take j ++ [⟨5, (lastB D).res, (lastB D).outer⟩], st := [] } vb vt vc) := fun n => by
    have q := ((hDW.drewN n).elseCtl j hj g cap (by rw [hv, hj])).setSt []
    have e : D.ctl.getD j blk0 = lastB D := by rw [← hlb, show D.ctl.length - 1 = j by omega]
    rw [e] at q
    exact q
  have HB : Hid (∀ n, Below db w (((W.drewN n).setCell ⟨g, j * 3, none⟩ (.int .u8 5)).setCell ⟨db, 4, none⟩ (.string ⟨#[]⟩))) := fun n => ((belowN HW.bed n).setCell (p := ⟨g, j * 3, none⟩) (by simp only []; omega) _).setCell (p := ⟨db, 4, none⟩) (by simp only []; omega) _
  have HJ : Hid (D.ctl.length - 1 = j) := show D.ctl.length - 1 = j by omega
  have hng : ¬ db = g := by omega
  have hng2 : ¬ g = db := by omega
  generalize hbb : lastB D = b at *
  have b4 : (b.op != 4) = false := by rw [h4]; rfl
  have bs : (D.st == b.res) = true := by rw [hs]; simp
  rw [hs] at hd4
  clear HW hDW hon h0 hj hv hlb h4 hs hbb
  go_upto_region 31 with fail
  go_quiet (fail)
  go_upto_region 32 with fail
  go_quiet (fail)
  go_upto_region 74 with fail
  refine lay_end db b5 w D _ 5 B 0 5 0 0 vb vt vc _ _ rfl _ rfl rfl rfl rfl (HEl.out _) (HB.out _) ?_ ?_ ?_ ?_ ?_
  · rw [apartc (by omega), apartc (by omega)]; simpa using x0
  · rw [apartc (by omega), apartc (by omega)]; simpa using x1
  · rw [apartc (by omega), apartc (by omega)]; simpa using x2
  · simp only []; omega
  · rw [HL.out, HJ.out]

end
end Go.Proofs.Qxb6500273a
