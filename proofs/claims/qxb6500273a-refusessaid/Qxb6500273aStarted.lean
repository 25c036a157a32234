/-
  WALKS: Started.
-/
import Derived.Test.Qxb6500273aRf0
set_option linter.unusedVariables false
set_option linter.unusedSimpArgs false
namespace Go.Proofs.Qxb6500273a
open Go.RowKit

def SRes (bv db : Nat) (w : World) (e : Ending) (w' : World) : Prop := e = .returned (.bool true) ∧ KeptD bv db w w'

theorem modT_ok {t : Int} {body : List Insn} (hl : body.length ≤ 1000) (hi : ∀ x, x ∈ body → 0 ≤ x.op ∧ x.op ≤ 255 ∧ x.op ≠ 14 ∧ 0 ≤ x.x ∧ x.x ≤ 4294967295) : MdOk (modT t body []) ∧ PartOk (modT t body []) := by
  have hm : ∀ i, i < body.length → body.getD i ins0 ∈ body := fun i h => by simp [List.getD, h]
  exact ⟨⟨by simp [modT, mod0], hl, fun i h => ⟨(hi _ (hm i h)).1, (hi _ (hm i h)).2.1⟩, fun i h => (hi _ (hm i h)).2.2.2, fun i h e => absurd e (hi _ (hm i h)).2.2.1, by simp [modT, mod0], fun i => by simp [modT, mod0]⟩, ⟨by simp [modT, mod0], by simp [modT, mod0], by simp [modT, mod0], by simp [modT, mod0], by simp [modT, mod0], fun i h => by simp only [modT, mod0]; omega, by simp [modT, mod0]⟩⟩

set_option maxRecDepth 100000 in
set_option maxHeartbeats 4000000 in
theorem started_any (bv db : Nat) (D : Dv) (vb vt vc : Value) (V : VS) (w : World) (hD : DAt w db D vb vt vc) (hV : VAt w bv V) (hbv : bv < db) (h : Der D) :
    Calls Try.prog 18 #[.pointer (some ⟨bv, 0, none⟩), .pointer (some ⟨db, 0, none⟩)] w fun e w' => SRes bv db w e w' := by
  have hb := h.bnd
  have HC := owed_any db D vb vt vc w hD hb.t0 hb.t2 (Nat.le_trans hb.ctl (by omega))
  obtain ⟨ca, cc, hvc⟩ := hD.ctlV
  have hdl := hD.lt
  have hvl := hV.lt
  have HDA : Hid (∀ w1, Below w.heap.size w w1 → DAt w1 db D vb vt vc) := fun w1 hh => hD.below hh
  have HVA : Hid (VAt w bv V) := hV
  have hK : Hid (∀ w1, Below w.heap.size w w1 → KeptD bv db w w1) := fun w1 hh => KeptD.below (hh.mono (by omega)) (V := V) (vatBelow hV hh hvl)
  have HDer : Hid (Der D) := h
  have hlen := h.len
  have how : Hid ((owedL D).1 = (owedL D).1) := rfl
  clear hD hV hb h
  generalize hor : (owedL D).1 = ow at HC
  have HOW : Hid ((owedL D).1 = ow) := hor
  clear hor how
  generalize (owedL D).2 = lame at HC
  by_cases hon : D.on = true
  rotate_left
  · have hon2 : D.on = false := by simpa using hon
    go_enter Try.func18, Try.ntmps18
    go_upto_region 2 with (go_at_call 36; refine HC.mono ?_; rintro e w1 ⟨rfl, hb1⟩)
    have c0 := (HDA.out _ hb1).c0
    rw [hon2] at c0
    clear hon hon2
    go_wp2
    go_ret
    exact ⟨rfl, hK.out _ hb1⟩
  by_cases h0 : D.ctl.length = 0
  rotate_left
  · go_enter Try.func18, Try.ntmps18
    go_upto_region 2 with (go_at_call 36; refine HC.mono ?_; rintro e w1 ⟨rfl, hb1⟩)
    have c0 := (HDA.out _ hb1).c0
    have c5 := (HDA.out _ hb1).c5
    rw [hon] at c0
    rw [hvc] at c5
    have g1 : ((D.ctl.length : Int) != 0) = true := by rw [bne_iff_ne]; omega
    clear hon h0
    go_wp2
    go_ret
    exact ⟨rfl, hK.out _ hb1⟩
  by_cases hs : D.st = ow
  rotate_left
  · go_enter Try.func18, Try.ntmps18
    go_upto_region 2 with (go_at_call 36; refine HC.mono ?_; rintro e w1 ⟨rfl, hb1⟩)
    have c0 := (HDA.out _ hb1).c0
    have c4 := (HDA.out _ hb1).c4
    have c5 := (HDA.out _ hb1).c5
    rw [hon] at c0
    rw [hvc, h0] at c5
    have g1 : (D.st == ow) = false := by rw [beq_eq_false_iff_ne]; exact hs
    clear hon h0 hs
    go_wp2
    go_ret
    exact ⟨rfl, hK.out _ hb1⟩
  obtain ⟨i0, hi0, hz0, hz1, hz2⟩ := info_parts Try.info42
  have htabs := HDer.out.tabs
  go_enter Try.func18, Try.ntmps18
  go_upto_region 2 with (go_at_call 36; refine HC.mono ?_; rintro e w1 ⟨rfl, hb1⟩)
  have hD1 := HDA.out _ hb1
  have c0 := hD1.c0
  have c4 := hD1.c4
  have c5 := hD1.c5
  rw [hon] at c0
  rw [hs] at c4
  rw [hvc, h0] at c5
  have hlp := hD1.lt
  have c2 : ∀ ob, (w1.alloc ob).cell? ⟨db, 2, none⟩ = some vb := fun ob => (hD1.alloc ob).c2
  have z2 : ∀ ob, (w1.alloc ob).frozen? ⟨db, 2, none⟩ = false := fun ob => (hD1.alloc ob).fz 2
  have c2o := hD1.c2
  have HDm : Hid (DAt (w1.alloc (.cells #[.int .u8 11, .int .u32 0, .int .u64 0] 42)) db D vb vt vc) := hD1.alloc _
  have hbm : Hid (Below db w (w1.alloc (.cells #[.int .u8 11, .int .u32 0, .int .u64 0] 42))) := (hb1.mono (by omega)).alloc (by omega) _
  have HS : Hid (D.ctl.length = 0 ∧ D.st = (owedL D).1) := ⟨h0, by rw [HOW.out]; exact hs⟩
  clear hD1 hb1 HC hK HDA hon hvc h0 hs
  go_upto_region 5 with (at_builtin; refine wpList_append_lies _ (by rfl) _ _ _ (by rfl) (db + 1) 42 i0 _ 3 16 Try.underlying28 hi0 hz0 hz1 hz2 rfl (by omega) vb D.body.length (insCells D.body) (by rfl) HDm.out.ob ⟨w1.heap.size, 0, none⟩ 1 1 [.int .u8 11, .int .u32 0, .int .u64 0] (by rfl) (by rfl) (World.news_of_block (cs := #[.int .u8 11, .int .u32 0, .int .u64 0]) (t := 42) (fr := (0, 0)) (heap_alloc_new w1 _)) (by simp [Value.oneCell']) (by omega) (by unfold maxLen; omega) (by omega) (by simp; omega) (w1.heap.size + 1) (by simp) ?_; intro g cap w2 hown hgrow hat hlt; have q1 : w2.cell? ⟨db, 2, none⟩ = some vb := (hgrow.cell_far ⟨db, 2, none⟩ (by simp; omega) (far HDm.out.ob (Nat.le_refl _))).trans (c2 _); have q2 : w2.frozen? ⟨db, 2, none⟩ = false := (hgrow.frozen_far ⟨db, 2, none⟩ (by simp; omega) (far HDm.out.ob (Nat.le_refl _))).trans (z2 _))
  have hP := HDm.out.pushBody hgrow ⟨11, 0, 0⟩ g cap hown
  have hB2 := hbm.out.trans (grown_below HDm.out hgrow (.slice (some ⟨g, 0, none⟩) (D.body.length + 1) cap) 2)
  clear c0 c4 c5 c2 z2 c2o HDm hbm q1 q2 hown hgrow hat hlt hlp
  generalize w2.setCell ⟨db, 2, none⟩ (.slice (some ⟨g, 0, none⟩) (D.body.length + 1) cap) = W3 at *
  have HF := frameD_any bv db _ _ vt vc W3 hP hbv (by simp)
  simp only [htabs] at HF
  have c1 := hP.c1
  have hl3 := hP.lt
  clear hP
  go_upto_region 7 with (go_at_call 13; refine HF.mono ?_; rintro e w4 ⟨L, rfl, hM, hW, hb4, hp, hxa, hxc⟩; have m9 := hM.m9; have f9 := hW.fp 9; have HPp : Hid (W3.heap.size ≤ L.p) := Nat.le_of_eq hp.symm; clear hp hxa hxc)
  have hM2 := (ModAt.setStart hM hW 1).1
  have hB4 : Below db w (w4.setCell ⟨L.p, 9, none⟩ (.int .i64 1)) := (hB2.trans (hb4.mono (by omega))).setCell (p := ⟨L.p, 9, none⟩) (by have := HPp.out; simp only []; omega) _
  have hV4 : VAt (w4.setCell ⟨L.p, 9, none⟩ (.int .i64 1)) bv V := vatBelow HVA.out hB4 hbv
  have hok := modT_ok (t := D.t) (body := D.body ++ [⟨11, 0, 0⟩]) (by simp; omega) (fun x hx => by
    rcases List.mem_append.mp hx with q | q
    · exact HDer.out.insn x q
    · rw [List.mem_singleton] at q; subst q; simp)
  have HV := validate_any bv L (modT D.t (D.body ++ [⟨11, 0, 0⟩]) []) V _ hM2 hV4 hok.1 hok.2
  have hs := started HDer.out HS.out.1 HS.out.2 V
  have c1b : (w4.setCell ⟨L.p, 9, none⟩ (.int .i64 1)).cell? ⟨db, 1, none⟩ = some (.int .i64 D.t) := by
    rw [apartc (by have := HPp.out; omega)]
    exact (hb4.cell (p := ⟨db, 1, none⟩) hl3).trans c1
  have hB4' : Hid (Below db w (w4.setCell ⟨L.p, 9, none⟩ (.int .i64 1))) := hB4
  have hl4 : db < (w4.setCell ⟨L.p, 9, none⟩ (.int .i64 1)).heap.size := World.block_lt_of_cell? _ _ c1b
  clear hM hW hM2 hB2 hb4 hB4 hV4 hok HF c1 m9 f9 HVA
  generalize w4.setCell ⟨L.p, 9, none⟩ (.int .i64 1) = W5 at *
  generalize validateF (modT D.t (D.body ++ [⟨11, 0, 0⟩]) []) V = X at *
  obtain ⟨⟨X1, X2, X3⟩, XV⟩ := X
  simp only [] at hs HV
  have hdw : Hid (db ≤ w.heap.size) := Nat.le_of_lt hdl
  go_upto_region 8 with (go_at_call 14; refine HV.mono ?_; rintro e w6 ⟨rfl, hv6, hex6⟩)
  have c1d : w6.cell? ⟨db, 1, none⟩ = some (.int .i64 D.t) := (World.cell?_of_block (a := ⟨db, 1, none⟩) (hex6.block db hl4 (by omega))).trans c1b
  have hK : Hid (KeptD bv db w w6) := KeptD.of hB4'.out hdw.out hex6 hv6
  clear hex6 hv6 HV c1b hB4' HDer HS HOW
  by_cases ht : D.t = 0
  · rw [if_pos ht] at hs
    simp only [Prod.mk.injEq] at hs
    obtain ⟨rfl, rfl, rfl⟩ := hs
    rw [ht] at c1d
    clear ht
    go_wp2
    go_ret
    exact ⟨rfl, hK.out⟩
  · rw [if_neg ht] at hs
    simp only [Prod.mk.injEq] at hs
    obtain ⟨rfl, rfl, rfl⟩ := hs
    have g1 : (D.t == 0) = false := by rw [beq_eq_false_iff_ne]; exact ht
    clear ht
    go_wp2
    go_ret
    exact ⟨rfl, hK.out⟩

end Go.Proofs.Qxb6500273a
