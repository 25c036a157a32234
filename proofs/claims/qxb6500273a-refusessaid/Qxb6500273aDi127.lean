/-
  Deadly: its head.
-/
import Derived.Test.Qxb6500273aDd0
import Derived.Deep.RegionLaw
set_option linter.unusedVariables false
set_option linter.unusedSimpArgs false
namespace Go.Proofs.Qxb6500273a
open Go.RowKit

set_option maxRecDepth 100000 in
set_option maxHeartbeats 4000000 in
theorem dd_in127 (bv db : Nat) (D : Dv) (vb vt vc : Value) (V : VS) (K A B C : Int) (T : List UInt8) (w : World) (hD : DAt w db D vb vt vc) (hV : VAt w bv V) (hbv : bv < db) (hon : D.on = true) (hA0 : 0 ≤ A) (hA5 : A ≤ 255) (h93 : D.body.length < 93) (h10 : D.below < 10) (h36 : A ≠ 36 ∨ B ≠ 3)
    (hG : ∀ W ub, DdW w W bv db w.heap.size { D with body := D.body ++ [⟨0, 0, 0⟩] ++ [⟨65, 0, 0⟩] } ub vt vc V K A B C [127] T → ∀ v7 v8 v9, DGoal 5 w W bv db w.heap.size v7 v8 v9) :
    Calls Try.prog 17 #[.pointer (some ⟨bv, 0, none⟩), .pointer (some ⟨db, 0, none⟩), opD K A B C [127] T] w fun e w' => RRes bv db w e w' := by
  obtain ⟨va, vcap, hvb⟩ : ∃ a cap, vb = .slice a D.body.length cap := by
    rcases hD.ob.2 with ⟨h0, h1⟩ | ⟨g, cap, cur, h0, _⟩
    · exact ⟨none, 0, by rw [h0, h1]⟩
    · exact ⟨_, cap, h0⟩
  have HD : Hid (DAt w db D vb vt vc) := hD
  have hdl := hD.lt
  have c0 : ∀ o, (w.alloc o).cell? ⟨db, 0, none⟩ = some (.bool D.on) := fun o => (hD.alloc o).c0
  have c2 : ∀ o, (w.alloc o).cell? ⟨db, 2, none⟩ = some (.slice va D.body.length vcap) := fun o => hvb ▸ (hD.alloc o).c2
  have c6 : ∀ o, (w.alloc o).cell? ⟨db, 6, none⟩ = some (.int .i64 D.below) := fun o => (hD.alloc o).c6
  have hk : Hid (∀ o, KeptD bv db w (w.alloc o)) := fun o => KeptD.below ((Below.refl _ _).alloc (Nat.le_of_lt hdl) o) (vatBelow hV ((Below.refl _ _).alloc (Nat.le_refl _) o) hV.lt)
  have HV : Hid (VAt w bv V) := hV
  clear hD hV
  unfold opD
  rw [hon] at c0
  have hA1 : decide (A < 0) = false := decide_eq_false (by omega)
  have hA2 : decide (255 < A) = false := decide_eq_false (by omega)
  have h93i : (D.body.length : Int) < 93 := by omega
  have h10i : (D.below : Int) < 10 := by omega
  obtain ⟨i0, hi0, hz0, hz1, hz2⟩ := info_parts Try.info42
  have HVl : ∀ wx, Calls Try.prog 24 #[.int .u8 127] wx fun e w' => e = .returned (.bool true) ∧ w' = wx := fun wx => isVal_any 127 wx
  have HG : Hid (∀ W ub, DdW w W bv db w.heap.size { D with body := D.body ++ [⟨0, 0, 0⟩] ++ [⟨65, 0, 0⟩] } ub vt vc V K A B C [127] T → ∀ v7 v8 v9, DGoal 5 w W bv db w.heap.size v7 v8 v9) := hG
  have hob : Hid (∀ g, vb.ownBlock = some g → g < w.heap.size) := fun g hg => own_lt HD.out.ob hg
  have g36 : (A == 36) = false ∨ ((A == 36) = true ∧ (B == 3) = false) := by
    by_cases hh : A = 36
    · refine .inr ⟨by rw [hh]; rfl, ?_⟩
      rw [beq_eq_false_iff_ne]
      rcases h36 with q | q
      · exact absurd hh q
      · exact q
    · exact .inl (by rw [beq_eq_false_iff_ne]; exact hh)
  have HBX : Hid (∀ j, (w.alloc (.cells #[.int .i64 K, .int .i64 A, .int .i64 B, .int .i64 C, .string ⟨#[127]⟩, .string ⟨T.toArray⟩] 34)).cell? ⟨w.heap.size, j, none⟩ = (#[.int .i64 K, .int .i64 A, .int .i64 B, .int .i64 C, .string ⟨#[127]⟩, .string ⟨T.toArray⟩] : Array Value)[j]?) := fun j => World.cell?_alloc_new w _ _ j
  clear hG h36 hk
  rcases g36 with g36 | ⟨g36, gB3⟩
  · go_enter Try.func17, Try.ntmps17
    go_upto_region 5 with (go_at_call 24; refine (HVl _).mono ?_; rintro e w5 ⟨rfl, h51⟩; have h52 := h51.symm; clear h51; subst h52)
    have hDW : DAt (w.alloc (.cells #[.int .i64 K, .int .i64 A, .int .i64 B, .int .i64 C, .string ⟨#[127]⟩, .string ⟨T.toArray⟩] 34)) db D vb vt vc := HD.out.alloc _
    have hBW : Below db w (w.alloc (.cells #[.int .i64 K, .int .i64 A, .int .i64 B, .int .i64 C, .string ⟨#[127]⟩, .string ⟨T.toArray⟩] 34)) := (Below.refl _ _).alloc (by omega) _
    have hBX := HBX.out
    have e4 := hBX 4
    simp only [List.getElem?_toArray, List.getElem?_cons_zero, List.getElem?_cons_succ] at e4
    have hszW : w.heap.size < (w.alloc (.cells #[.int .i64 K, .int .i64 A, .int .i64 B, .int .i64 C, .string ⟨#[127]⟩, .string ⟨T.toArray⟩] 34)).heap.size := by simp
    clear c0 c2 c6 HBX
    generalize (w.alloc (.cells #[.int .i64 K, .int .i64 A, .int .i64 B, .int .i64 C, .string ⟨#[127]⟩, .string ⟨T.toArray⟩] 34)) = W0 at *
    have hlp := hDW.lt
    have c2 := hDW.c2
    have c2a : ∀ ob, (W0.alloc ob).cell? ⟨db, 2, none⟩ = some vb := fun ob => (hDW.alloc ob).c2
    have z2a : ∀ ob, (W0.alloc ob).frozen? ⟨db, 2, none⟩ = false := fun ob => (hDW.alloc ob).fz 2
    have HD1 : Hid (DAt (W0.alloc (.cells #[.int .u8 0, .int .u32 0, .int .u64 0] 42)) db D vb vt vc) := hDW.alloc _
    have hbm : Hid (Below db w (W0.alloc (.cells #[.int .u8 0, .int .u32 0, .int .u64 0] 42))) := hBW.alloc (by omega) _
    clear hDW hBW hvb
    go_upto_region 6 with (at_builtin; refine wpList_append_lies _ (by rfl) _ _ _ (by rfl) (db + 1) 42 i0 _ 3 16 Try.underlying28 hi0 hz0 hz1 hz2 rfl (by omega) vb D.body.length (insCells D.body) (by rfl) HD1.out.ob ⟨W0.heap.size, 0, none⟩ 1 1 [.int .u8 0, .int .u32 0, .int .u64 0] (by rfl) (by rfl) (World.news_of_block (cs := #[.int .u8 0, .int .u32 0, .int .u64 0]) (t := 42) (fr := (0, 0)) (heap_alloc_new W0 _)) (by simp [Value.oneCell']) (by omega) (by unfold maxLen; omega) (by omega) (by simp; omega) (W0.heap.size + 1) (by simp) ?_; intro g cap w1 hown1 hgrow hat hlt; have q1 : w1.cell? ⟨db, 2, none⟩ = some vb := (hgrow.cell_far ⟨db, 2, none⟩ (by simp; omega) (far HD1.out.ob (Nat.le_refl _))).trans (c2a _); have q2 : w1.frozen? ⟨db, 2, none⟩ = false := (hgrow.frozen_far ⟨db, 2, none⟩ (by simp; omega) (far HD1.out.ob (Nat.le_refl _))).trans (z2a _))
    have HP1 := HD1.out.pushBody hgrow ⟨0, 0, 0⟩ g cap hown1
    have HB1 := hbm.out.trans (grown_below HD1.out hgrow (.slice (some ⟨g, 0, none⟩) (D.body.length + 1) cap) 2)
    have KX : ∀ o, (w1.setCell ⟨db, 2, none⟩ (.slice (some ⟨g, 0, none⟩) (D.body.length + 1) cap)).cell? ⟨w.heap.size, o, none⟩ = W0.cell? ⟨w.heap.size, o, none⟩ := fun o => by rw [apartc (by omega)]; exact (hgrow.cell_far ⟨w.heap.size, o, none⟩ (by simp; omega) (fun e => absurd (hob.out w.heap.size e.symm) (Nat.lt_irrefl _))).trans (oldc hszW)
    have hsz : W0.heap.size < (w1.setCell ⟨db, 2, none⟩ (.slice (some ⟨g, 0, none⟩) (D.body.length + 1) cap)).heap.size := by rw [World.size_setCell]; exact Nat.lt_of_lt_of_le (by simp) hgrow.size
    have hg5 : Hid (g ≠ w.heap.size) := fun e => by rcases hat with hh | hh <;> first | (have := hob.out g hh; omega) | omega
    clear q1 q2 c2 c2a z2a HD1 hbm hown1 hgrow hat hlt
    generalize w1.setCell ⟨db, 2, none⟩ (.slice (some ⟨g, 0, none⟩) (D.body.length + 1) cap) = U1 at *
    obtain ⟨E1, hE1⟩ : ∃ E1 : Dv, E1 = { D with body := D.body ++ [⟨0, 0, 0⟩] } := ⟨_, rfl⟩
    rw [← hE1] at HP1
    have hEl : E1.body.length = D.body.length + 1 := by rw [hE1]; simp
    have HE1 : Hid (E1 = { D with body := D.body ++ [⟨0, 0, 0⟩] }) := hE1
    have f4 := (KX 4).trans e4
    have f4a : ∀ o, (U1.alloc o).cell? ⟨w.heap.size, 4, none⟩ = some (.string ⟨#[127]⟩) := fun o => (oldc (by omega)).trans f4
    have d2 := HP1.c2
    have d2a : ∀ ob, (U1.alloc ob).cell? ⟨db, 2, none⟩ = some (.slice (some ⟨g, 0, none⟩) (D.body.length + 1) cap) := fun ob => (HP1.alloc ob).c2
    have f2a : ∀ ob, (U1.alloc ob).frozen? ⟨db, 2, none⟩ = false := fun ob => (HP1.alloc ob).fz 2
    have hlp2 := HP1.lt
    have HDb : Hid (DAt (U1.alloc (.cells #[.int .u8 65, .int .u32 0, .int .u64 0] 42)).drew db E1 (.slice (some ⟨g, 0, none⟩) (D.body.length + 1) cap) vt vc) := (HP1.alloc _).drew
    have HD2 : Hid ((U1.alloc (.cells #[.int .u8 65, .int .u32 0, .int .u64 0] 42)).drew.ownsRow (db + 1) 42 3 (.slice (some ⟨g, 0, none⟩) (D.body.length + 1) cap) (D.body.length + 1) (insCells E1.body)) := by have q := HDb.out.ob; rw [hEl] at q; exact q
    have HB2 : Hid (Below db w (U1.alloc (.cells #[.int .u8 65, .int .u32 0, .int .u64 0] 42)).drew) := (HB1.alloc (by have := HB1.size; omega) _).drew
    have HBX2 : Hid (∀ j, U1.cell? ⟨w.heap.size, j, none⟩ = (#[.int .i64 K, .int .i64 A, .int .i64 B, .int .i64 C, .string ⟨#[127]⟩, .string ⟨T.toArray⟩] : Array Value)[j]?) := fun j => (KX j).trans (hBX j)
    clear hE1 KX e4 hBX HP1 HB1
    go_cut [4] from 82 to 97 (fun s4 wc => True ∧ ∃ ub, DdW w wc bv db w.heap.size { D with body := D.body ++ [⟨0, 0, 0⟩] ++ [⟨65, 0, 0⟩] } ub vt vc V K A B C [127] T)
    case rest =>
      obtain ⟨_, ub, hI⟩ := hcut
      refine (by assumption : ∀ (a : Act) (w : World), Code.wp Try.prog _ _ a w → _) _ _ ?_
      refine HG.out _ _ hI undef undef undef _ _ rfl ?_
      exact ⟨rfl, rfl, rfl, rfl, rfl, rfl, rfl, rfl, rfl⟩
    case first =>
      clear HG HVl
      go_wp2_with fail
      go_region_law ((refine step_append_lies _ (by rfl) _ _ _ (by rfl) (db + 1) 42 i0 _ 3 16 Try.underlying28 hi0 hz0 hz1 hz2 rfl (by omega) (.slice (some ⟨g, 0, none⟩) (D.body.length + 1) cap) (D.body.length + 1) (insCells E1.body) (by rfl) HD2.out ⟨U1.heap.size, 0, none⟩ 1 1 [.int .u8 65, .int .u32 0, .int .u64 0] (by rfl) (by rfl) (World.news_of_block (cs := #[.int .u8 65, .int .u32 0, .int .u64 0]) (t := 42) (fr := (0, 0)) (heap_alloc_new U1 _)) (by simp [Value.oneCell']) (by omega) (by unfold maxLen; omega) (by omega) (by simp; omega) (U1.heap.size + 1) (by simp) ?_; intro g2 cap2 w2 hown2 hgrow2 hat2 hlt2; have q1 : w2.cell? ⟨db, 2, none⟩ = some (.slice (some ⟨g, 0, none⟩) (D.body.length + 1) cap) := (hgrow2.cell_far ⟨db, 2, none⟩ (by simp; omega) (far HDb.out.ob (Nat.le_refl _))).trans (d2a _); have q2 : w2.frozen? ⟨db, 2, none⟩ = false := (hgrow2.frozen_far ⟨db, 2, none⟩ (by simp; omega) (far HDb.out.ob (Nat.le_refl _))).trans (f2a _)))
      all_goals (go_wp2_with fail)
      all_goals go_meet
      all_goals refine ⟨trivial, ?_⟩
      all_goals (have hP2 := HDb.out.pushBody hgrow2 ⟨65, 0, 0⟩ g2 cap2 (by rw [hEl]; exact hown2))
      all_goals (rw [hEl] at hP2; have hE2 : ({ E1 with body := E1.body ++ [⟨65, 0, 0⟩] } : Dv) = { D with body := D.body ++ [⟨0, 0, 0⟩] ++ [⟨65, 0, 0⟩] } := by rw [HE1.out])
      all_goals rw [hE2] at hP2
      all_goals (have hBB := HB2.out.trans (grown_below HDb.out hgrow2 (.slice (some ⟨g2, 0, none⟩) (D.body.length + 1 + 1) cap2) 2))
      all_goals (have kx : ∀ j, (w2.setCell ⟨db, 2, none⟩ (.slice (some ⟨g2, 0, none⟩) (D.body.length + 1 + 1) cap2)).cell? ⟨w.heap.size, j, none⟩ = (#[.int .i64 K, .int .i64 A, .int .i64 B, .int .i64 C, .string ⟨#[127]⟩, .string ⟨T.toArray⟩] : Array Value)[j]? := fun j => by rw [apartc (by omega)]; exact ((hgrow2.cell_far ⟨w.heap.size, j, none⟩ (by simp; omega) (fun e => hg5.out (by simpa [Value.ownBlock] using e.symm))).trans (by rw [World.cell?_drew]; exact oldc (by omega))).trans (HBX2.out j))
      all_goals exact ⟨_, hBB, hdl, hP2, vatBelow HV.out hBB hbv, hbv, Nat.le_refl _, by rw [World.size_setCell]; exact Nat.lt_of_lt_of_le (by simp; omega) hgrow2.size, kx 0, kx 1, kx 2, kx 3, kx 4, kx 5⟩

  · go_enter Try.func17, Try.ntmps17
    go_upto_region 5 with (go_at_call 24; refine (HVl _).mono ?_; rintro e w5 ⟨rfl, h51⟩; have h52 := h51.symm; clear h51; subst h52)
    have hDW : DAt (w.alloc (.cells #[.int .i64 K, .int .i64 A, .int .i64 B, .int .i64 C, .string ⟨#[127]⟩, .string ⟨T.toArray⟩] 34)) db D vb vt vc := HD.out.alloc _
    have hBW : Below db w (w.alloc (.cells #[.int .i64 K, .int .i64 A, .int .i64 B, .int .i64 C, .string ⟨#[127]⟩, .string ⟨T.toArray⟩] 34)) := (Below.refl _ _).alloc (by omega) _
    have hBX := HBX.out
    have e4 := hBX 4
    simp only [List.getElem?_toArray, List.getElem?_cons_zero, List.getElem?_cons_succ] at e4
    have hszW : w.heap.size < (w.alloc (.cells #[.int .i64 K, .int .i64 A, .int .i64 B, .int .i64 C, .string ⟨#[127]⟩, .string ⟨T.toArray⟩] 34)).heap.size := by simp
    clear c0 c2 c6 HBX
    generalize (w.alloc (.cells #[.int .i64 K, .int .i64 A, .int .i64 B, .int .i64 C, .string ⟨#[127]⟩, .string ⟨T.toArray⟩] 34)) = W0 at *
    have hlp := hDW.lt
    have c2 := hDW.c2
    have c2a : ∀ ob, (W0.alloc ob).cell? ⟨db, 2, none⟩ = some vb := fun ob => (hDW.alloc ob).c2
    have z2a : ∀ ob, (W0.alloc ob).frozen? ⟨db, 2, none⟩ = false := fun ob => (hDW.alloc ob).fz 2
    have HD1 : Hid (DAt (W0.alloc (.cells #[.int .u8 0, .int .u32 0, .int .u64 0] 42)) db D vb vt vc) := hDW.alloc _
    have hbm : Hid (Below db w (W0.alloc (.cells #[.int .u8 0, .int .u32 0, .int .u64 0] 42))) := hBW.alloc (by omega) _
    clear hDW hBW hvb
    go_upto_region 6 with (at_builtin; refine wpList_append_lies _ (by rfl) _ _ _ (by rfl) (db + 1) 42 i0 _ 3 16 Try.underlying28 hi0 hz0 hz1 hz2 rfl (by omega) vb D.body.length (insCells D.body) (by rfl) HD1.out.ob ⟨W0.heap.size, 0, none⟩ 1 1 [.int .u8 0, .int .u32 0, .int .u64 0] (by rfl) (by rfl) (World.news_of_block (cs := #[.int .u8 0, .int .u32 0, .int .u64 0]) (t := 42) (fr := (0, 0)) (heap_alloc_new W0 _)) (by simp [Value.oneCell']) (by omega) (by unfold maxLen; omega) (by omega) (by simp; omega) (W0.heap.size + 1) (by simp) ?_; intro g cap w1 hown1 hgrow hat hlt; have q1 : w1.cell? ⟨db, 2, none⟩ = some vb := (hgrow.cell_far ⟨db, 2, none⟩ (by simp; omega) (far HD1.out.ob (Nat.le_refl _))).trans (c2a _); have q2 : w1.frozen? ⟨db, 2, none⟩ = false := (hgrow.frozen_far ⟨db, 2, none⟩ (by simp; omega) (far HD1.out.ob (Nat.le_refl _))).trans (z2a _))
    have HP1 := HD1.out.pushBody hgrow ⟨0, 0, 0⟩ g cap hown1
    have HB1 := hbm.out.trans (grown_below HD1.out hgrow (.slice (some ⟨g, 0, none⟩) (D.body.length + 1) cap) 2)
    have KX : ∀ o, (w1.setCell ⟨db, 2, none⟩ (.slice (some ⟨g, 0, none⟩) (D.body.length + 1) cap)).cell? ⟨w.heap.size, o, none⟩ = W0.cell? ⟨w.heap.size, o, none⟩ := fun o => by rw [apartc (by omega)]; exact (hgrow.cell_far ⟨w.heap.size, o, none⟩ (by simp; omega) (fun e => absurd (hob.out w.heap.size e.symm) (Nat.lt_irrefl _))).trans (oldc hszW)
    have hsz : W0.heap.size < (w1.setCell ⟨db, 2, none⟩ (.slice (some ⟨g, 0, none⟩) (D.body.length + 1) cap)).heap.size := by rw [World.size_setCell]; exact Nat.lt_of_lt_of_le (by simp) hgrow.size
    have hg5 : Hid (g ≠ w.heap.size) := fun e => by rcases hat with hh | hh <;> first | (have := hob.out g hh; omega) | omega
    clear q1 q2 c2 c2a z2a HD1 hbm hown1 hgrow hat hlt
    generalize w1.setCell ⟨db, 2, none⟩ (.slice (some ⟨g, 0, none⟩) (D.body.length + 1) cap) = U1 at *
    obtain ⟨E1, hE1⟩ : ∃ E1 : Dv, E1 = { D with body := D.body ++ [⟨0, 0, 0⟩] } := ⟨_, rfl⟩
    rw [← hE1] at HP1
    have hEl : E1.body.length = D.body.length + 1 := by rw [hE1]; simp
    have HE1 : Hid (E1 = { D with body := D.body ++ [⟨0, 0, 0⟩] }) := hE1
    have f4 := (KX 4).trans e4
    have f4a : ∀ o, (U1.alloc o).cell? ⟨w.heap.size, 4, none⟩ = some (.string ⟨#[127]⟩) := fun o => (oldc (by omega)).trans f4
    have d2 := HP1.c2
    have d2a : ∀ ob, (U1.alloc ob).cell? ⟨db, 2, none⟩ = some (.slice (some ⟨g, 0, none⟩) (D.body.length + 1) cap) := fun ob => (HP1.alloc ob).c2
    have f2a : ∀ ob, (U1.alloc ob).frozen? ⟨db, 2, none⟩ = false := fun ob => (HP1.alloc ob).fz 2
    have hlp2 := HP1.lt
    have HDb : Hid (DAt (U1.alloc (.cells #[.int .u8 65, .int .u32 0, .int .u64 0] 42)).drew db E1 (.slice (some ⟨g, 0, none⟩) (D.body.length + 1) cap) vt vc) := (HP1.alloc _).drew
    have HD2 : Hid ((U1.alloc (.cells #[.int .u8 65, .int .u32 0, .int .u64 0] 42)).drew.ownsRow (db + 1) 42 3 (.slice (some ⟨g, 0, none⟩) (D.body.length + 1) cap) (D.body.length + 1) (insCells E1.body)) := by have q := HDb.out.ob; rw [hEl] at q; exact q
    have HB2 : Hid (Below db w (U1.alloc (.cells #[.int .u8 65, .int .u32 0, .int .u64 0] 42)).drew) := (HB1.alloc (by have := HB1.size; omega) _).drew
    have HBX2 : Hid (∀ j, U1.cell? ⟨w.heap.size, j, none⟩ = (#[.int .i64 K, .int .i64 A, .int .i64 B, .int .i64 C, .string ⟨#[127]⟩, .string ⟨T.toArray⟩] : Array Value)[j]?) := fun j => (KX j).trans (hBX j)
    clear hE1 KX e4 hBX HP1 HB1
    go_cut [4] from 82 to 97 (fun s4 wc => True ∧ ∃ ub, DdW w wc bv db w.heap.size { D with body := D.body ++ [⟨0, 0, 0⟩] ++ [⟨65, 0, 0⟩] } ub vt vc V K A B C [127] T)
    case rest =>
      obtain ⟨_, ub, hI⟩ := hcut
      refine (by assumption : ∀ (a : Act) (w : World), Code.wp Try.prog _ _ a w → _) _ _ ?_
      refine HG.out _ _ hI undef undef undef _ _ rfl ?_
      exact ⟨rfl, rfl, rfl, rfl, rfl, rfl, rfl, rfl, rfl⟩
    case first =>
      clear HG HVl
      go_wp2_with fail
      go_region_law ((refine step_append_lies _ (by rfl) _ _ _ (by rfl) (db + 1) 42 i0 _ 3 16 Try.underlying28 hi0 hz0 hz1 hz2 rfl (by omega) (.slice (some ⟨g, 0, none⟩) (D.body.length + 1) cap) (D.body.length + 1) (insCells E1.body) (by rfl) HD2.out ⟨U1.heap.size, 0, none⟩ 1 1 [.int .u8 65, .int .u32 0, .int .u64 0] (by rfl) (by rfl) (World.news_of_block (cs := #[.int .u8 65, .int .u32 0, .int .u64 0]) (t := 42) (fr := (0, 0)) (heap_alloc_new U1 _)) (by simp [Value.oneCell']) (by omega) (by unfold maxLen; omega) (by omega) (by simp; omega) (U1.heap.size + 1) (by simp) ?_; intro g2 cap2 w2 hown2 hgrow2 hat2 hlt2; have q1 : w2.cell? ⟨db, 2, none⟩ = some (.slice (some ⟨g, 0, none⟩) (D.body.length + 1) cap) := (hgrow2.cell_far ⟨db, 2, none⟩ (by simp; omega) (far HDb.out.ob (Nat.le_refl _))).trans (d2a _); have q2 : w2.frozen? ⟨db, 2, none⟩ = false := (hgrow2.frozen_far ⟨db, 2, none⟩ (by simp; omega) (far HDb.out.ob (Nat.le_refl _))).trans (f2a _)))
      all_goals (go_wp2_with fail)
      all_goals go_meet
      all_goals refine ⟨trivial, ?_⟩
      all_goals (have hP2 := HDb.out.pushBody hgrow2 ⟨65, 0, 0⟩ g2 cap2 (by rw [hEl]; exact hown2))
      all_goals (rw [hEl] at hP2; have hE2 : ({ E1 with body := E1.body ++ [⟨65, 0, 0⟩] } : Dv) = { D with body := D.body ++ [⟨0, 0, 0⟩] ++ [⟨65, 0, 0⟩] } := by rw [HE1.out])
      all_goals rw [hE2] at hP2
      all_goals (have hBB := HB2.out.trans (grown_below HDb.out hgrow2 (.slice (some ⟨g2, 0, none⟩) (D.body.length + 1 + 1) cap2) 2))
      all_goals (have kx : ∀ j, (w2.setCell ⟨db, 2, none⟩ (.slice (some ⟨g2, 0, none⟩) (D.body.length + 1 + 1) cap2)).cell? ⟨w.heap.size, j, none⟩ = (#[.int .i64 K, .int .i64 A, .int .i64 B, .int .i64 C, .string ⟨#[127]⟩, .string ⟨T.toArray⟩] : Array Value)[j]? := fun j => by rw [apartc (by omega)]; exact ((hgrow2.cell_far ⟨w.heap.size, j, none⟩ (by simp; omega) (fun e => hg5.out (by simpa [Value.ownBlock] using e.symm))).trans (by rw [World.cell?_drew]; exact oldc (by omega))).trans (HBX2.out j))
      all_goals exact ⟨_, hBB, hdl, hP2, vatBelow HV.out hBB hbv, hbv, Nat.le_refl _, by rw [World.size_setCell]; exact Nat.lt_of_lt_of_le (by simp; omega) hgrow2.size, kx 0, kx 1, kx 2, kx 3, kx 4, kx 5⟩


end Go.Proofs.Qxb6500273a
