/-
  lay: the ways.
-/
import Derived.Test.Qxb6500273aLy0
import Derived.BigQuiet
set_option linter.unusedVariables false
set_option linter.unusedSimpArgs false
namespace Go.Proofs.Qxb6500273a
open Go.RowKit

section
variable {w W : World} {db b3 b5 : Nat} {D : Dv} {vb vt vc : Value} {K A B C : Int} {S T : List UInt8}

theorem info62_4n : (Try.prog.info? 62).map (fun i => (i.zero, i.size, i.bytes)) = some (some (.agg #[.int .u8 0, .string ⟨#[]⟩, .string ⟨#[]⟩]), 3, 40) := by kernel_rfl

set_option maxRecDepth 100000 in
set_option maxHeartbeats 4000000 in
theorem ly_blk4n_ok (hon : D.on = true) (h95 : D.body.length < 95) (hb : DBnd D) (hbl : D.below ≤ 10) (st : List UInt8) (hst : D.st = st ++ [127]) (hn : D.ctl.length < 6) (hh : ¬ 10 < D.below + st.length + 0)  (HW : LyW w W db b3 b5 D vb vt vc K 4 64 C S T) : LGoal w W db b3 b5 D 4 64 := by
  intro c a hc hf
  unfold LTail at hc
  simp only [Try.f10, Option.map, dropC, Option.some.injEq] at hc
  obtain ⟨s, rfl⟩ := frame10 a _ _ _ _ _ hf.d hf.n hf.h0 hf.h3 hf.h4 hf.h5 hf.h6
  clear hf
  subst hc
  unfold LPost
  have hres : (if (64 : Int) = 64 then [] else strF 64) = [] := if_pos rfl
  have htk : (if (4 : Int) = 4 then D.st.take (D.st.length - 1) else D.st) = st := by
    rw [if_pos rfl, hst]; simp
  have hsl : st.length ≤ 10 := by have := hb.st; rw [hst] at this; simp at this; omega
  have hend : endsF D.st [127] = true := by rw [endsF_iff, hst]; exact List.suffix_append _ _
  have HL : Hid (layL D 4 64 0 = { D with body := D.body ++ [⟨4, 64, 0⟩], ctl := D.ctl ++ [⟨4, [], st⟩], below := D.below + st.length, st := [] }) := by
    refine show layL D 4 64 0 = { D with body := D.body ++ [⟨4, 64, 0⟩], ctl := D.ctl ++ [⟨4, [], st⟩], below := D.below + st.length, st := [] } from ?_
    unfold layL
    rw [if_neg (by rw [hon]; simp; omega), if_pos (by omega), if_neg (by simp), if_neg (by rw [hend]; simp), if_neg (by omega), hres, htk, if_neg (by simp only [List.length_nil, strF, List.length_singleton]; omega)]
  have e2 := HW.e2
  have hpd : db < W.heap.size := HW.now.lt
  obtain ⟨ca, cc, hvc⟩ := HW.now.ctlV
  have d4 : W.cell? ⟨db, 4, none⟩ = some (.string ⟨D.st.toArray⟩) := HW.now.c4
  have d5 : W.cell? ⟨db, 5, none⟩ = some (.slice ca D.ctl.length cc) := hvc ▸ HW.now.c5
  have d6 : W.cell? ⟨db, 6, none⟩ = some (.int .i64 D.below) := HW.now.c6
  rw [hst] at d4
  have HE : ∀ wx, _ := fun wx => ends_any D.st [127] (Nat.le_trans hb.st (by omega)) (by simp) wx
  rw [hend, hst] at HE
  have hx : (ByteArray.mk (st ++ [127]).toArray).extract 0 st.length = ByteArray.mk st.toArray := by rw [ext_list]; simp
  have hsi : (st.length : Int) ≤ 10 := by omega
  have hbi : (D.below : Int) ≤ 10 := by omega
  have hni : (D.ctl.length : Int) < 6 := by omega
  have hhi : decide ((10 : Int) < (D.below : Int) + st.length + 0) = false := decide_eq_false (by omega)
  have hhj : decide ((10 : Int) < (D.below : Int) + st.length) = false := decide_eq_false (by omega)
  obtain ⟨i0, hi0, hz0, hz1, hz2⟩ := info_parts info62_4n
  have h1 := HW.o1
  have h2 := HW.o2
  have h4 := HW.o4
  have hdw := HW.at_.lt
  have x0 := HW.x0
  have x1 := HW.x1
  have x2 := HW.x2
  have xf := HW.xf
  have hB5 : Hid (Below w.heap.size w (W.setCell ⟨b5, 1, none⟩ (.int .u32 64))) := HW.be.setCell (p := ⟨b5, 1, none⟩) (by simp only []; omega) _
  have HLW : Hid (LyW w W db b3 b5 D vb vt vc K 4 64 C S T) := HW
  have n7 : ¬ db = b5 := by omega
  have n8 : ¬ b5 = db := by omega
  clear HW hon hb hbl htk hsl hres hvc hend
  go_upto_region 26 with (first | (go_at_call 25; refine (HE _).mono ?_; rintro e w6 ⟨rfl, h51⟩; have h52 := h51.symm; clear h51; subst h52))
  obtain ⟨W5, hW5⟩ : ∃ W5, W5 = W.setCell ⟨b5, 1, none⟩ (.int .u32 64) := ⟨_, rfl⟩
  rw [← hW5]
  have hB5 := hB5.out
  rw [← hW5] at hB5
  have y0 : W5.cell? ⟨b5, 0, none⟩ = some (.int .u8 4) := by rw [hW5]; simp [go_sem, x0]
  have y1 : W5.cell? ⟨b5, 1, none⟩ = some (.int .u32 64) := by rw [hW5]; simp [go_sem, x1]
  have y2 : W5.cell? ⟨b5, 2, none⟩ = some (.int .u64 0) := by rw [hW5]; simp [go_sem, x2]
  have hl5 : b5 < W5.heap.size := World.block_lt_of_cell? _ _ y0
  have hD5 : DAt W5 db D vb vt vc := HLW.out.at_.below hB5
  have hlp1 := hD5.lt
  have c5 := hD5.c5
  have c6 := hD5.c6
  have z5a : Hid (∀ ob i, (W5.alloc ob).frozen? ⟨db, i, none⟩ = false) := fun ob i => (hD5.alloc ob).fz i
  have HDm : Hid (DAt (W5.alloc (.cells #[.int .u8 4, .string ⟨([]).toArray⟩, .string ⟨st.toArray⟩] 62)) db D vb vt vc) := hD5.alloc _
  have hbm : Hid (Below w.heap.size w (W5.alloc (.cells #[.int .u8 4, .string ⟨([]).toArray⟩, .string ⟨st.toArray⟩] 62))) := hB5.alloc hB5.size _
  have hoc : Hid (∀ g, vc.ownBlock = some g → g < w.heap.size) := fun g hg => own_lt HLW.out.at_.oc hg
  clear hW5 hB5 x0 x1 x2 xf hD5 d4 d5 d6
  go_upto_region 74 with (at_builtin; refine wpList_append_lies _ (by rfl) _ _ _ (by rfl) (db + 1) 62 i0 _ 3 40 Try.underlying30 hi0 hz0 hz1 hz2 rfl (by omega) vc D.ctl.length (ctlCells D.ctl) (by rfl) HDm.out.oc ⟨W5.heap.size, 0, none⟩ 1 1 [.int .u8 4, .string ⟨([]).toArray⟩, .string ⟨st.toArray⟩] (by rfl) (by rfl) (World.news_of_block (cs := #[.int .u8 4, .string ⟨([]).toArray⟩, .string ⟨st.toArray⟩]) (t := 62) (fr := (0, 0)) (heap_alloc_new W5 _)) (by simp [Value.oneCell']) (by omega) (by unfold maxLen; omega) (by omega) (by simp; omega) (W5.heap.size + 1) (by simp) ?_; intro g cap w1 hown1 hgrow hat hlt1; have HP : Hid (DAt (w1.setCell ⟨db, 5, none⟩ (.slice (some ⟨g, 0, none⟩) (D.ctl.length + 1) cap)) db { D with ctl := D.ctl ++ [⟨4, [], st⟩] } vb vt (.slice (some ⟨g, 0, none⟩) (D.ctl.length + 1) cap)) := HDm.out.pushCtl hgrow ⟨4, [], st⟩ g cap hown1; have fr1 : ∀ o, w1.frozen? ⟨db, o, none⟩ = false := fun o => (hgrow.frozen_far ⟨db, o, none⟩ (by simp; omega) (far HDm.out.oc (Nat.le_refl _))).trans (z5a.out _ _); have q5 : w1.cell? ⟨db, 5, none⟩ = some vc := (hgrow.cell_far ⟨db, 5, none⟩ (by simp; omega) (far HDm.out.oc (Nat.le_refl _))).trans HDm.out.c5; have q6 : w1.cell? ⟨db, 6, none⟩ = some (.int .i64 D.below) := (hgrow.cell_far ⟨db, 6, none⟩ (by simp; omega) (far HDm.out.oc (Nat.le_refl _))).trans HDm.out.c6; have q4 : w1.cell? ⟨db, 4, none⟩ = some (.string ⟨D.st.toArray⟩) := (hgrow.cell_far ⟨db, 4, none⟩ (by simp; omega) (far HDm.out.oc (Nat.le_refl _))).trans HDm.out.c4)
  have kx : ∀ o, w1.cell? ⟨b5, o, none⟩ = W5.cell? ⟨b5, o, none⟩ := fun o => (hgrow.cell_far ⟨b5, o, none⟩ (by simp; omega) (fun e => by have := hoc.out b5 e.symm; omega)).trans (oldc hl5)
  have hE := (HP.out.setBelow (D.below + st.length)).setSt []
  refine lay_end db b5 w D _ 4 64 0 4 64 0 vb vt _ _ _ rfl _ rfl rfl rfl rfl (by simpa using hE) ?_ ?_ ?_ ?_ ?_ ?_
  · refine Below.setCell ?_ (by simp only []; omega) _
    refine Below.setCell ?_ (by simp only []; omega) _
    refine Below.setCell ?_ (by simp only []; omega) _
    exact (hbm.out.mono (by omega)).trans ⟨hgrow.os, hgrow.tape, hgrow.output, hgrow.size, fun i hi => hgrow.block i (by simp; omega) (far HDm.out.oc (by omega))⟩
  · rw [apartc (by omega), apartc (by omega), apartc (by omega), kx]; exact y0
  · rw [apartc (by omega), apartc (by omega), apartc (by omega), kx]; exact y1
  · rw [apartc (by omega), apartc (by omega), apartc (by omega), kx]; exact y2
  · simp only []; omega
  · rw [HL.out]

end
end Go.Proofs.Qxb6500273a
