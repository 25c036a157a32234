/-
  lay: the ways.
-/
import Derived.Test.Qxb6500273aLy0
import Derived.BigQuiet
set_option linter.unusedVariables false
set_option linter.unusedSimpArgs false
namespace Go.Proofs.Qxb6500273a
open Go.RowKit

section
variable {w W : World} {db b3 b5 : Nat} {D : Dv} {vb vt vc : Value} {K A B C : Int} {S T : List UInt8}

set_option maxRecDepth 100000 in
set_option maxHeartbeats 4000000 in
theorem ly_end_ok2 (hon : D.on = true) (h95 : D.body.length < 95) (hc : D.ctl.length ≤ 6) (h0 : D.ctl.length ≠ 0) (hs : D.st = (lastB D).res) (hol : (lastB D).outer.length ≤ D.below) (hbl : D.below ≤ 10) (hrl : (lastB D).res.length ≤ 10) (h4 : (lastB D).op = 4) (hr : (lastB D).res = []) (HW : LyW w W db b3 b5 D vb vt vc K 11 B C S T) : LGoal w W db b3 b5 D 11 B := by
  intro c a hc hf
  unfold LTail at hc
  simp only [Try.f10, Option.map, dropC, Option.some.injEq] at hc
  obtain ⟨s, rfl⟩ := frame10 a _ _ _ _ _ hf.d hf.n hf.h0 hf.h3 hf.h4 hf.h5 hf.h6
  clear hf
  subst hc
  unfold LPost
  have HL : Hid (layL D 11 B 0 = { D with body := D.body ++ [⟨11, 0, 0⟩], ctl := D.ctl.take (D.ctl.length - 1), below := D.below - (lastB D).outer.length, st := (lastB D).outer ++ (lastB D).res }) := by
    refine show layL D 11 B 0 = _ from ?_
    unfold layL
    rw [if_neg (by rw [hon]; simp; omega), if_neg (by omega), if_neg (by omega), if_pos rfl, if_neg (by rw [hs, hr]; simp; exact fun h => h0 (by rw [h]; rfl))]
  have hDW := HW.now
  have HCt := hDW.ctlAt (D.ctl.length - 1) (by omega)
  have HC5 := hDW.c5
  obtain ⟨g, cap, hv, hg, k0, k1, k2⟩ := HCt
  rw [hv] at HC5
  have hlb : D.ctl.getD (D.ctl.length - 1) blk0 = lastB D := rfl
  rw [hlb] at k0 k1 k2
  obtain ⟨j, hj⟩ : ∃ j : Nat, D.ctl.length = j + 1 := ⟨D.ctl.length - 1, by omega⟩
  rw [show D.ctl.length - 1 = j by omega] at k0 k1 k2
  rw [hj] at HC5
  have hi1 : (j : Int) + 1 - 1 = j := by omega
  have hk7 : (j : Int) < 1000 := by omega
  have b1 : ((j : Int) + 1 == 0) = false := by rw [beq_eq_false_iff_ne]; omega
  have hgl : g < W.heap.size := World.block_lt_of_cell? _ _ k0
  have hd4 := hDW.c4
  have hpd : db < W.heap.size := hDW.lt
  have h1 := HW.o1
  have h2 := HW.o2
  have h5 := HW.o4
  have hdw := HW.at_.lt
  have n7 : ¬ db = b5 := by omega
  have n8 : ¬ b5 = db := by omega
  have d4a : ∀ o, (W.alloc o).cell? ⟨db, 4, none⟩ = some (.string ⟨D.st.toArray⟩) := fun o => (hDW.alloc o).c4
  have x0 := HW.x0
  have x1 := HW.x1
  have x2 := HW.x2
  have fz : ∀ o, W.frozen? ⟨db, o, none⟩ = false := hDW.fz
  have d5a : ∀ o, (W.alloc o).cell? ⟨db, 5, none⟩ = some (.slice (some ⟨g, 0, none⟩) (j + 1) cap) := fun o => by rw [← hj, ← hv]; exact (hDW.alloc o).c5
  have d6a : ∀ o, (W.alloc o).cell? ⟨db, 6, none⟩ = some (.int .i64 D.below) := fun o => (hDW.alloc o).c6
  have fza : ∀ o i, (W.alloc o).frozen? ⟨db, i, none⟩ = false := fun o i => (hDW.alloc o).fz i
  have HJ : Hid (D.ctl.length - 1 = j) := show D.ctl.length - 1 = j by omega
  have HEl : Hid (∀ o, DAt (W.alloc o) db D vb vt vc) := fun o => hDW.alloc o
  have hvj : vc = .slice (some ⟨g, 0, none⟩) (j + 1) cap := by rw [hv, hj]
  have hjc : (j : Int) ≤ cap := by
    rcases hDW.oc.2 with ⟨q, _⟩ | ⟨g', cap', cur, q, q1, q2, q3, _⟩
    · rw [hv] at q; simp at q
    · rw [hv] at q
      simp only [Value.slice.injEq] at q
      obtain ⟨_, _, rfl⟩ := q
      omega
  have HP : Hid (∀ u, DAt u db D vb vt vc → DAt (((u.setCell ⟨db, 5, none⟩ (.slice (some ⟨g, 0, none⟩) j cap)).setCell ⟨db, 6, none⟩ (.int .i64 ((D.below - (lastB D).outer.length : Nat) : Int))).setCell ⟨db, 4, none⟩ (.string ⟨((lastB D).outer ++ (lastB D).res).toArray⟩)) db { D with ctl := D.ctl.take j, below := D.below - (lastB D).outer.length, st := (lastB D).outer ++ (lastB D).res } vb vt (.slice (some ⟨g, 0, none⟩) j cap)) := fun u hu => ((hu.popCtl j hj g cap hvj).setBelow _).setSt _
  have HBe : Hid (∀ o, Below db w (W.alloc o)) := fun o => HW.bed.alloc (by omega) o
  generalize hbb : lastB D = b at *
  have hsub : ((D.below - b.outer.length : Nat) : Int) = (D.below : Int) - b.outer.length := by omega
  have hol1 : (b.outer.length : Int) ≤ 10 := by omega
  have hbl1 : (D.below : Int) ≤ 10 := by omega
  have hrl1 : (b.res.length : Int) ≤ 10 := by omega
  have hol2 : (b.outer.length : Int) ≤ D.below := by omega
  obtain ⟨bo, br0, bu⟩ := b
  simp only [] at h4 hr hs k0 k1 k2 HL HP hsub hol1 hrl1 hol2
  subst h4
  subst hr
  have ez : ([] : List UInt8).toArray = #[] := rfl
  rw [ez] at k1
  rw [hs, ez] at hd4 d4a
  clear HW hDW hon h0 hj hv hvj hlb hbb hs ez
  go_upto_region 37 with fail
  go_region
  go_upto_region 38 with fail
  go_quiet (fail)
  go_upto_region 39 with fail
  go_region
  go_upto_region 40 with fail
  go_region
  go_upto_region 74 with fail
  have hD6 := HEl.out (.cells #[.int .u8 4, .string ⟨#[]⟩, .string ⟨bu.toArray⟩] 62)
  have hB6 := HBe.out (.cells #[.int .u8 4, .string ⟨#[]⟩, .string ⟨bu.toArray⟩] 62)
  have y0 : (W.alloc (.cells #[.int .u8 4, .string ⟨#[]⟩, .string ⟨bu.toArray⟩] 62)).cell? ⟨b5, 0, none⟩ = some (.int .u8 11) := (oldc h5).trans x0
  have y1 : (W.alloc (.cells #[.int .u8 4, .string ⟨#[]⟩, .string ⟨bu.toArray⟩] 62)).cell? ⟨b5, 1, none⟩ = some (.int .u32 0) := (oldc h5).trans x1
  have y2 : (W.alloc (.cells #[.int .u8 4, .string ⟨#[]⟩, .string ⟨bu.toArray⟩] 62)).cell? ⟨b5, 2, none⟩ = some (.int .u64 0) := (oldc h5).trans x2
  generalize (W.alloc (.cells #[.int .u8 4, .string ⟨#[]⟩, .string ⟨bu.toArray⟩] 62)) = W6 at *
  have hE := fun n => (HP.out _ (hD6.drewN n)).drew
  rw [hsub] at hE
  refine lay_end db b5 w D _ 11 B 0 11 0 0 vb vt _ _ _ rfl _ rfl rfl rfl rfl (hE _) ?_ ?_ ?_ ?_ ?_ ?_
  · refine Below.drew ?_
    refine Below.setCell ?_ (by simp only []; omega) _
    refine Below.setCell ?_ (by simp only []; omega) _
    refine Below.setCell ?_ (by simp only []; omega) _
    exact belowN hB6 _
  · rw [World.cell?_drew, apartc (by omega), apartc (by omega), apartc (by omega)]; simpa using y0
  · rw [World.cell?_drew, apartc (by omega), apartc (by omega), apartc (by omega)]; simpa using y1
  · rw [World.cell?_drew, apartc (by omega), apartc (by omega), apartc (by omega)]; simpa using y2
  · simp only []; omega
  · rw [HL.out, HJ.out]

end
end Go.Proofs.Qxb6500273a
