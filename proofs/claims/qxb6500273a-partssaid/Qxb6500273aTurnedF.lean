/-
  WALKS: turned.
-/
import Derived.Test.Qxb6500273aTurned0
import Derived.Deep.Cut
set_option linter.unusedVariables false
set_option linter.unusedSimpArgs false
namespace Go.Proofs.Qxb6500273a
open Go.RowKit

section
variable (bv : Nat) (L : Lay) (M : Md) (K A B C : Int) (S T : List UInt8) (w : World)

set_option maxRecDepth 100000 in
set_option maxHeartbeats 1000000 in
theorem turned_start_far (hM : ModAt w bv L M) (hW : ModW w L M) (hB : 2 ≤ B) : TurnedTo bv L K 8 B C S T w 0 15 { M with start := B, t1 := importTypeF C } := by
  unfold TurnedTo
  obtain ⟨oo, hoo⟩ : ∃ oo, offOp C = oo := ⟨_, rfl⟩
  have HOO : Hid (offOp C = oo) := hoo
  unfold offOp at hoo
  have hmw := (ModAt.allocW (ModAt.allocW ⟨hM, hW⟩ (.cells #[.int .i64 K, .int .i64 8, .int .i64 B, .int .i64 C, .string ⟨S.toArray⟩, .string ⟨T.toArray⟩] 34)) (.cells #[.int .u8 oo, .int .u32 0, .int .u64 0] 42))
  have hM2 := hmw.1
  have hW2 := hmw.2
  have hpl : L.p < w.heap.size := World.block_lt_of_cell? _ _ hM.m0
  have hbe : Below L.p w ((w.alloc (.cells #[.int .i64 K, .int .i64 8, .int .i64 B, .int .i64 C, .string ⟨S.toArray⟩, .string ⟨T.toArray⟩] 34)).alloc (.cells #[.int .u8 oo, .int .u32 0, .int .u64 0] 42)) := ((Below.refl _ _).alloc (by omega) _).alloc (by simp; omega) _
  have o1 := hW.o1
  have o2 := hW.o2
  have o3 := hW.o3
  have o4 := hW.o4
  have o7 := hW.o7
  have hsz : w.heap.size + 1 < ((w.alloc (.cells #[.int .i64 K, .int .i64 8, .int .i64 B, .int .i64 C, .string ⟨S.toArray⟩, .string ⟨T.toArray⟩] 34)).alloc (.cells #[.int .u8 oo, .int .u32 0, .int .u64 0] 42)).heap.size := by simp
  have x1 := (oldc (ob := .cells #[.int .u8 oo, .int .u32 0, .int .u64 0] 42) (o := 1) (w := w.alloc (.cells #[.int .i64 K, .int .i64 8, .int .i64 B, .int .i64 C, .string ⟨S.toArray⟩, .string ⟨T.toArray⟩] 34)) (b := w.heap.size) (by simp)).trans (World.cell?_alloc_new w #[.int .i64 K, .int .i64 8, .int .i64 B, .int .i64 C, .string ⟨S.toArray⟩, .string ⟨T.toArray⟩] 34 1)
  have x2 := (oldc (ob := .cells #[.int .u8 oo, .int .u32 0, .int .u64 0] 42) (o := 2) (w := w.alloc (.cells #[.int .i64 K, .int .i64 8, .int .i64 B, .int .i64 C, .string ⟨S.toArray⟩, .string ⟨T.toArray⟩] 34)) (b := w.heap.size) (by simp)).trans (World.cell?_alloc_new w #[.int .i64 K, .int .i64 8, .int .i64 B, .int .i64 C, .string ⟨S.toArray⟩, .string ⟨T.toArray⟩] 34 2)
  have x3 := (oldc (ob := .cells #[.int .u8 oo, .int .u32 0, .int .u64 0] 42) (o := 3) (w := w.alloc (.cells #[.int .i64 K, .int .i64 8, .int .i64 B, .int .i64 C, .string ⟨S.toArray⟩, .string ⟨T.toArray⟩] 34)) (b := w.heap.size) (by simp)).trans (World.cell?_alloc_new w #[.int .i64 K, .int .i64 8, .int .i64 B, .int .i64 C, .string ⟨S.toArray⟩, .string ⟨T.toArray⟩] 34 3)
  have x4 := (oldc (ob := .cells #[.int .u8 oo, .int .u32 0, .int .u64 0] 42) (o := 4) (w := w.alloc (.cells #[.int .i64 K, .int .i64 8, .int .i64 B, .int .i64 C, .string ⟨S.toArray⟩, .string ⟨T.toArray⟩] 34)) (b := w.heap.size) (by simp)).trans (World.cell?_alloc_new w #[.int .i64 K, .int .i64 8, .int .i64 B, .int .i64 C, .string ⟨S.toArray⟩, .string ⟨T.toArray⟩] 34 4)
  have x5 := (oldc (ob := .cells #[.int .u8 oo, .int .u32 0, .int .u64 0] 42) (o := 5) (w := w.alloc (.cells #[.int .i64 K, .int .i64 8, .int .i64 B, .int .i64 C, .string ⟨S.toArray⟩, .string ⟨T.toArray⟩] 34)) (b := w.heap.size) (by simp)).trans (World.cell?_alloc_new w #[.int .i64 K, .int .i64 8, .int .i64 B, .int .i64 C, .string ⟨S.toArray⟩, .string ⟨T.toArray⟩] 34 5)
  have y0 := World.cell?_alloc_new (w.alloc (.cells #[.int .i64 K, .int .i64 8, .int .i64 B, .int .i64 C, .string ⟨S.toArray⟩, .string ⟨T.toArray⟩] 34)) #[.int .u8 oo, .int .u32 0, .int .u64 0] 42 0
  have y1 := World.cell?_alloc_new (w.alloc (.cells #[.int .i64 K, .int .i64 8, .int .i64 B, .int .i64 C, .string ⟨S.toArray⟩, .string ⟨T.toArray⟩] 34)) #[.int .u8 oo, .int .u32 0, .int .u64 0] 42 1
  have y2 := World.cell?_alloc_new (w.alloc (.cells #[.int .i64 K, .int .i64 8, .int .i64 B, .int .i64 C, .string ⟨S.toArray⟩, .string ⟨T.toArray⟩] 34)) #[.int .u8 oo, .int .u32 0, .int .u64 0] 42 2
  simp only [World.size_alloc] at y0 y1 y2
  simp only [List.getElem?_toArray, List.getElem?_cons_zero, List.getElem?_cons_succ] at x1 x2 x3 x4 x5 y0 y1 y2
  have m9 := hM2.m9
  have z9 := hW2.fp 9
  all_goals go_enter Try.func39, Try.ntmps39
  all_goals go_upto_region 55 with fail
  all_goals (generalize ((w.alloc (.cells #[.int .i64 K, .int .i64 8, .int .i64 B, .int .i64 C, .string ⟨S.toArray⟩, .string ⟨T.toArray⟩] 34)).alloc (.cells #[.int .u8 oo, .int .u32 0, .int .u64 0] 42)) = W at *)
  all_goals clear hoo
  all_goals (generalize w.heap.size = nb at *)
  all_goals (have np : ¬ L.p = W.heap.size := by omega)
  all_goals (have np2 : ¬ nb = W.heap.size := by omega)
  all_goals (have np3 : ¬ L.p = nb := by omega)
  all_goals (have np4 : ¬ nb = L.p := by omega)
  all_goals go_upto_region 56 with fail
  all_goals (have hend := ModAt.setStart hM2 hW2 B)
  all_goals (have hbe1 := (hbe.setCell (p := ⟨L.p, 9, none⟩) (Nat.le_refl _) (.int .i64 B)))
  all_goals (have x2a : ((W.setCell ⟨L.p, 9, none⟩ (.int .i64 B))).cell? ⟨nb, 2, none⟩ = some (.int .i64 B) := by rw [apartc (by omega)]; exact x2)
  all_goals (have x3a : ((W.setCell ⟨L.p, 9, none⟩ (.int .i64 B))).cell? ⟨nb, 3, none⟩ = some (.int .i64 C) := by rw [apartc (by omega)]; exact x3)
  all_goals (generalize (W.setCell ⟨L.p, 9, none⟩ (.int .i64 B)) = W1 at *)
  all_goals clear m9 z9 x1 x2 x3 x4 x5 y0 y1 y2 hM2 hW2 hmw
  all_goals (have m0 := hend.1.m0)
  all_goals (have ci := hend.1.ty1)
  all_goals (have zi := hend.2.ft 1)
  all_goals go_region_held3 (fun u => u.cell? ⟨L.p, 0, none⟩ = some (.slice (some ⟨L.tb, 0, none⟩) 3 3) ∧ u.cell? ⟨nb, 3, none⟩ = some (.int .i64 C)) (first | ((refine ⟨?_, ?_⟩ <;> simp only [World.cell?_drew] <;> (repeat (first | rw [pastc (by omega)] | rw [apartc (by omega)])) <;> (first | assumption | simp)); done) | (refine (importType_any C _).mono ?_; rintro e w1 ⟨rfl, rfl⟩; assumption)) ((go_at_call 60; refine (importType_any C _).mono ?_; rintro e w1 ⟨rfl, rfl⟩))
  all_goals (have hend2 := ModAt.drewW (ModAt.setT1 hend.1 hend.2 (importTypeF C)))
  all_goals (have hbe2 := (hbe1.setCell (p := ⟨L.tb, 1, none⟩) (by simp only []; omega) (.string ⟨(importTypeF C).toArray⟩)).drew)
  all_goals (have x2b : ((W1.setCell ⟨L.tb, 1, none⟩ (.string ⟨(importTypeF C).toArray⟩)).drew).cell? ⟨nb, 2, none⟩ = some (.int .i64 B) := by rw [World.cell?_drew, apartc (by omega)]; exact x2a)
  all_goals (have x3b : ((W1.setCell ⟨L.tb, 1, none⟩ (.string ⟨(importTypeF C).toArray⟩)).drew).cell? ⟨nb, 3, none⟩ = some (.int .i64 C) := by rw [World.cell?_drew, apartc (by omega)]; exact x3a)
  all_goals (generalize ((W1.setCell ⟨L.tb, 1, none⟩ (.string ⟨(importTypeF C).toArray⟩)).drew) = W2 at *)
  all_goals clear m0 ci zi x2a x3a hend
  all_goals go_wp2
  all_goals try (go_quiet (fail))
  all_goals try go_wp2
  all_goals go_ret3
  all_goals first | exact ⟨rfl, ⟨L, rfl, hend2⟩, hbe2⟩ | exact ⟨rfl, ⟨L, rfl, ModAt.drewNW hend2 _⟩, drewNB hbe2 _⟩

set_option maxRecDepth 100000 in
set_option maxHeartbeats 1000000 in
theorem turned_start_no (hM : ModAt w bv L M) (hW : ModW w L M) (h0 : B = 0) (hC : C ≠ 0) : TurnedTo bv L K 8 B C S T w 0 19 { M with start := B, t1 := importTypeF C } := by
  unfold TurnedTo
  obtain ⟨oo, hoo⟩ : ∃ oo, offOp C = oo := ⟨_, rfl⟩
  have HOO : Hid (offOp C = oo) := hoo
  unfold offOp at hoo
  have hmw := (ModAt.allocW (ModAt.allocW ⟨hM, hW⟩ (.cells #[.int .i64 K, .int .i64 8, .int .i64 B, .int .i64 C, .string ⟨S.toArray⟩, .string ⟨T.toArray⟩] 34)) (.cells #[.int .u8 oo, .int .u32 0, .int .u64 0] 42))
  have hM2 := hmw.1
  have hW2 := hmw.2
  have hpl : L.p < w.heap.size := World.block_lt_of_cell? _ _ hM.m0
  have hbe : Below L.p w ((w.alloc (.cells #[.int .i64 K, .int .i64 8, .int .i64 B, .int .i64 C, .string ⟨S.toArray⟩, .string ⟨T.toArray⟩] 34)).alloc (.cells #[.int .u8 oo, .int .u32 0, .int .u64 0] 42)) := ((Below.refl _ _).alloc (by omega) _).alloc (by simp; omega) _
  have o1 := hW.o1
  have o2 := hW.o2
  have o3 := hW.o3
  have o4 := hW.o4
  have o7 := hW.o7
  have e0 : (B == 0) = true := by rw [beq_iff_eq]; exact h0
  have g2 : decide (2 ≤ B) = false := by (simp; omega)
  have c0 : (C != 0) = true := by rw [bne_iff_ne]; exact hC
  clear hC h0
  have hsz : w.heap.size + 1 < ((w.alloc (.cells #[.int .i64 K, .int .i64 8, .int .i64 B, .int .i64 C, .string ⟨S.toArray⟩, .string ⟨T.toArray⟩] 34)).alloc (.cells #[.int .u8 oo, .int .u32 0, .int .u64 0] 42)).heap.size := by simp
  have x1 := (oldc (ob := .cells #[.int .u8 oo, .int .u32 0, .int .u64 0] 42) (o := 1) (w := w.alloc (.cells #[.int .i64 K, .int .i64 8, .int .i64 B, .int .i64 C, .string ⟨S.toArray⟩, .string ⟨T.toArray⟩] 34)) (b := w.heap.size) (by simp)).trans (World.cell?_alloc_new w #[.int .i64 K, .int .i64 8, .int .i64 B, .int .i64 C, .string ⟨S.toArray⟩, .string ⟨T.toArray⟩] 34 1)
  have x2 := (oldc (ob := .cells #[.int .u8 oo, .int .u32 0, .int .u64 0] 42) (o := 2) (w := w.alloc (.cells #[.int .i64 K, .int .i64 8, .int .i64 B, .int .i64 C, .string ⟨S.toArray⟩, .string ⟨T.toArray⟩] 34)) (b := w.heap.size) (by simp)).trans (World.cell?_alloc_new w #[.int .i64 K, .int .i64 8, .int .i64 B, .int .i64 C, .string ⟨S.toArray⟩, .string ⟨T.toArray⟩] 34 2)
  have x3 := (oldc (ob := .cells #[.int .u8 oo, .int .u32 0, .int .u64 0] 42) (o := 3) (w := w.alloc (.cells #[.int .i64 K, .int .i64 8, .int .i64 B, .int .i64 C, .string ⟨S.toArray⟩, .string ⟨T.toArray⟩] 34)) (b := w.heap.size) (by simp)).trans (World.cell?_alloc_new w #[.int .i64 K, .int .i64 8, .int .i64 B, .int .i64 C, .string ⟨S.toArray⟩, .string ⟨T.toArray⟩] 34 3)
  have x4 := (oldc (ob := .cells #[.int .u8 oo, .int .u32 0, .int .u64 0] 42) (o := 4) (w := w.alloc (.cells #[.int .i64 K, .int .i64 8, .int .i64 B, .int .i64 C, .string ⟨S.toArray⟩, .string ⟨T.toArray⟩] 34)) (b := w.heap.size) (by simp)).trans (World.cell?_alloc_new w #[.int .i64 K, .int .i64 8, .int .i64 B, .int .i64 C, .string ⟨S.toArray⟩, .string ⟨T.toArray⟩] 34 4)
  have x5 := (oldc (ob := .cells #[.int .u8 oo, .int .u32 0, .int .u64 0] 42) (o := 5) (w := w.alloc (.cells #[.int .i64 K, .int .i64 8, .int .i64 B, .int .i64 C, .string ⟨S.toArray⟩, .string ⟨T.toArray⟩] 34)) (b := w.heap.size) (by simp)).trans (World.cell?_alloc_new w #[.int .i64 K, .int .i64 8, .int .i64 B, .int .i64 C, .string ⟨S.toArray⟩, .string ⟨T.toArray⟩] 34 5)
  have y0 := World.cell?_alloc_new (w.alloc (.cells #[.int .i64 K, .int .i64 8, .int .i64 B, .int .i64 C, .string ⟨S.toArray⟩, .string ⟨T.toArray⟩] 34)) #[.int .u8 oo, .int .u32 0, .int .u64 0] 42 0
  have y1 := World.cell?_alloc_new (w.alloc (.cells #[.int .i64 K, .int .i64 8, .int .i64 B, .int .i64 C, .string ⟨S.toArray⟩, .string ⟨T.toArray⟩] 34)) #[.int .u8 oo, .int .u32 0, .int .u64 0] 42 1
  have y2 := World.cell?_alloc_new (w.alloc (.cells #[.int .i64 K, .int .i64 8, .int .i64 B, .int .i64 C, .string ⟨S.toArray⟩, .string ⟨T.toArray⟩] 34)) #[.int .u8 oo, .int .u32 0, .int .u64 0] 42 2
  simp only [World.size_alloc] at y0 y1 y2
  simp only [List.getElem?_toArray, List.getElem?_cons_zero, List.getElem?_cons_succ] at x1 x2 x3 x4 x5 y0 y1 y2
  have m9 := hM2.m9
  have z9 := hW2.fp 9
  all_goals go_enter Try.func39, Try.ntmps39
  all_goals go_upto_region 55 with fail
  all_goals (generalize ((w.alloc (.cells #[.int .i64 K, .int .i64 8, .int .i64 B, .int .i64 C, .string ⟨S.toArray⟩, .string ⟨T.toArray⟩] 34)).alloc (.cells #[.int .u8 oo, .int .u32 0, .int .u64 0] 42)) = W at *)
  all_goals clear hoo
  all_goals (generalize w.heap.size = nb at *)
  all_goals (have np : ¬ L.p = W.heap.size := by omega)
  all_goals (have np2 : ¬ nb = W.heap.size := by omega)
  all_goals (have np3 : ¬ L.p = nb := by omega)
  all_goals (have np4 : ¬ nb = L.p := by omega)
  all_goals go_upto_region 56 with fail
  all_goals (have hend := ModAt.setStart hM2 hW2 B)
  all_goals (have hbe1 := (hbe.setCell (p := ⟨L.p, 9, none⟩) (Nat.le_refl _) (.int .i64 B)))
  all_goals (have x2a : ((W.setCell ⟨L.p, 9, none⟩ (.int .i64 B))).cell? ⟨nb, 2, none⟩ = some (.int .i64 B) := by rw [apartc (by omega)]; exact x2)
  all_goals (have x3a : ((W.setCell ⟨L.p, 9, none⟩ (.int .i64 B))).cell? ⟨nb, 3, none⟩ = some (.int .i64 C) := by rw [apartc (by omega)]; exact x3)
  all_goals (generalize (W.setCell ⟨L.p, 9, none⟩ (.int .i64 B)) = W1 at *)
  all_goals clear m9 z9 x1 x2 x3 x4 x5 y0 y1 y2 hM2 hW2 hmw
  all_goals (have m0 := hend.1.m0)
  all_goals (have ci := hend.1.ty1)
  all_goals (have zi := hend.2.ft 1)
  all_goals go_region_held3 (fun u => u.cell? ⟨L.p, 0, none⟩ = some (.slice (some ⟨L.tb, 0, none⟩) 3 3) ∧ u.cell? ⟨nb, 3, none⟩ = some (.int .i64 C)) (first | ((refine ⟨?_, ?_⟩ <;> simp only [World.cell?_drew] <;> (repeat (first | rw [pastc (by omega)] | rw [apartc (by omega)])) <;> (first | assumption | simp)); done) | (refine (importType_any C _).mono ?_; rintro e w1 ⟨rfl, rfl⟩; assumption)) ((go_at_call 60; refine (importType_any C _).mono ?_; rintro e w1 ⟨rfl, rfl⟩))
  all_goals (have hend2 := ModAt.drewW (ModAt.setT1 hend.1 hend.2 (importTypeF C)))
  all_goals (have hbe2 := (hbe1.setCell (p := ⟨L.tb, 1, none⟩) (by simp only []; omega) (.string ⟨(importTypeF C).toArray⟩)).drew)
  all_goals (have x2b : ((W1.setCell ⟨L.tb, 1, none⟩ (.string ⟨(importTypeF C).toArray⟩)).drew).cell? ⟨nb, 2, none⟩ = some (.int .i64 B) := by rw [World.cell?_drew, apartc (by omega)]; exact x2a)
  all_goals (have x3b : ((W1.setCell ⟨L.tb, 1, none⟩ (.string ⟨(importTypeF C).toArray⟩)).drew).cell? ⟨nb, 3, none⟩ = some (.int .i64 C) := by rw [World.cell?_drew, apartc (by omega)]; exact x3a)
  all_goals (generalize ((W1.setCell ⟨L.tb, 1, none⟩ (.string ⟨(importTypeF C).toArray⟩)).drew) = W2 at *)
  all_goals clear m0 ci zi x2a x3a hend
  all_goals go_wp2
  all_goals try (go_quiet (fail))
  all_goals try go_wp2
  all_goals go_ret3
  all_goals first | exact ⟨rfl, ⟨L, rfl, hend2⟩, hbe2⟩ | exact ⟨rfl, ⟨L, rfl, ModAt.drewNW hend2 _⟩, drewNB hbe2 _⟩

set_option maxRecDepth 100000 in
set_option maxHeartbeats 1000000 in
theorem turned_start_imp (hM : ModAt w bv L M) (hW : ModW w L M) (h0 : B = 0) (hC : C = 0) : TurnedTo bv L K 8 B C S T w 0 0 { M with start := B, t1 := importTypeF C } := by
  unfold TurnedTo
  obtain ⟨oo, hoo⟩ : ∃ oo, offOp C = oo := ⟨_, rfl⟩
  have HOO : Hid (offOp C = oo) := hoo
  unfold offOp at hoo
  have hmw := (ModAt.allocW (ModAt.allocW ⟨hM, hW⟩ (.cells #[.int .i64 K, .int .i64 8, .int .i64 B, .int .i64 C, .string ⟨S.toArray⟩, .string ⟨T.toArray⟩] 34)) (.cells #[.int .u8 oo, .int .u32 0, .int .u64 0] 42))
  have hM2 := hmw.1
  have hW2 := hmw.2
  have hpl : L.p < w.heap.size := World.block_lt_of_cell? _ _ hM.m0
  have hbe : Below L.p w ((w.alloc (.cells #[.int .i64 K, .int .i64 8, .int .i64 B, .int .i64 C, .string ⟨S.toArray⟩, .string ⟨T.toArray⟩] 34)).alloc (.cells #[.int .u8 oo, .int .u32 0, .int .u64 0] 42)) := ((Below.refl _ _).alloc (by omega) _).alloc (by simp; omega) _
  have o1 := hW.o1
  have o2 := hW.o2
  have o3 := hW.o3
  have o4 := hW.o4
  have o7 := hW.o7
  have e0 : (B == 0) = true := by rw [beq_iff_eq]; exact h0
  have g2 : decide (2 ≤ B) = false := by (simp; omega)
  have c0 : (C != 0) = false := by rw [bne_eq_false_iff_eq]; exact hC
  clear hC h0
  have hsz : w.heap.size + 1 < ((w.alloc (.cells #[.int .i64 K, .int .i64 8, .int .i64 B, .int .i64 C, .string ⟨S.toArray⟩, .string ⟨T.toArray⟩] 34)).alloc (.cells #[.int .u8 oo, .int .u32 0, .int .u64 0] 42)).heap.size := by simp
  have x1 := (oldc (ob := .cells #[.int .u8 oo, .int .u32 0, .int .u64 0] 42) (o := 1) (w := w.alloc (.cells #[.int .i64 K, .int .i64 8, .int .i64 B, .int .i64 C, .string ⟨S.toArray⟩, .string ⟨T.toArray⟩] 34)) (b := w.heap.size) (by simp)).trans (World.cell?_alloc_new w #[.int .i64 K, .int .i64 8, .int .i64 B, .int .i64 C, .string ⟨S.toArray⟩, .string ⟨T.toArray⟩] 34 1)
  have x2 := (oldc (ob := .cells #[.int .u8 oo, .int .u32 0, .int .u64 0] 42) (o := 2) (w := w.alloc (.cells #[.int .i64 K, .int .i64 8, .int .i64 B, .int .i64 C, .string ⟨S.toArray⟩, .string ⟨T.toArray⟩] 34)) (b := w.heap.size) (by simp)).trans (World.cell?_alloc_new w #[.int .i64 K, .int .i64 8, .int .i64 B, .int .i64 C, .string ⟨S.toArray⟩, .string ⟨T.toArray⟩] 34 2)
  have x3 := (oldc (ob := .cells #[.int .u8 oo, .int .u32 0, .int .u64 0] 42) (o := 3) (w := w.alloc (.cells #[.int .i64 K, .int .i64 8, .int .i64 B, .int .i64 C, .string ⟨S.toArray⟩, .string ⟨T.toArray⟩] 34)) (b := w.heap.size) (by simp)).trans (World.cell?_alloc_new w #[.int .i64 K, .int .i64 8, .int .i64 B, .int .i64 C, .string ⟨S.toArray⟩, .string ⟨T.toArray⟩] 34 3)
  have x4 := (oldc (ob := .cells #[.int .u8 oo, .int .u32 0, .int .u64 0] 42) (o := 4) (w := w.alloc (.cells #[.int .i64 K, .int .i64 8, .int .i64 B, .int .i64 C, .string ⟨S.toArray⟩, .string ⟨T.toArray⟩] 34)) (b := w.heap.size) (by simp)).trans (World.cell?_alloc_new w #[.int .i64 K, .int .i64 8, .int .i64 B, .int .i64 C, .string ⟨S.toArray⟩, .string ⟨T.toArray⟩] 34 4)
  have x5 := (oldc (ob := .cells #[.int .u8 oo, .int .u32 0, .int .u64 0] 42) (o := 5) (w := w.alloc (.cells #[.int .i64 K, .int .i64 8, .int .i64 B, .int .i64 C, .string ⟨S.toArray⟩, .string ⟨T.toArray⟩] 34)) (b := w.heap.size) (by simp)).trans (World.cell?_alloc_new w #[.int .i64 K, .int .i64 8, .int .i64 B, .int .i64 C, .string ⟨S.toArray⟩, .string ⟨T.toArray⟩] 34 5)
  have y0 := World.cell?_alloc_new (w.alloc (.cells #[.int .i64 K, .int .i64 8, .int .i64 B, .int .i64 C, .string ⟨S.toArray⟩, .string ⟨T.toArray⟩] 34)) #[.int .u8 oo, .int .u32 0, .int .u64 0] 42 0
  have y1 := World.cell?_alloc_new (w.alloc (.cells #[.int .i64 K, .int .i64 8, .int .i64 B, .int .i64 C, .string ⟨S.toArray⟩, .string ⟨T.toArray⟩] 34)) #[.int .u8 oo, .int .u32 0, .int .u64 0] 42 1
  have y2 := World.cell?_alloc_new (w.alloc (.cells #[.int .i64 K, .int .i64 8, .int .i64 B, .int .i64 C, .string ⟨S.toArray⟩, .string ⟨T.toArray⟩] 34)) #[.int .u8 oo, .int .u32 0, .int .u64 0] 42 2
  simp only [World.size_alloc] at y0 y1 y2
  simp only [List.getElem?_toArray, List.getElem?_cons_zero, List.getElem?_cons_succ] at x1 x2 x3 x4 x5 y0 y1 y2
  have m9 := hM2.m9
  have z9 := hW2.fp 9
  all_goals go_enter Try.func39, Try.ntmps39
  all_goals go_upto_region 55 with fail
  all_goals (generalize ((w.alloc (.cells #[.int .i64 K, .int .i64 8, .int .i64 B, .int .i64 C, .string ⟨S.toArray⟩, .string ⟨T.toArray⟩] 34)).alloc (.cells #[.int .u8 oo, .int .u32 0, .int .u64 0] 42)) = W at *)
  all_goals clear hoo
  all_goals (generalize w.heap.size = nb at *)
  all_goals (have np : ¬ L.p = W.heap.size := by omega)
  all_goals (have np2 : ¬ nb = W.heap.size := by omega)
  all_goals (have np3 : ¬ L.p = nb := by omega)
  all_goals (have np4 : ¬ nb = L.p := by omega)
  all_goals go_upto_region 56 with fail
  all_goals (have hend := ModAt.setStart hM2 hW2 B)
  all_goals (have hbe1 := (hbe.setCell (p := ⟨L.p, 9, none⟩) (Nat.le_refl _) (.int .i64 B)))
  all_goals (have x2a : ((W.setCell ⟨L.p, 9, none⟩ (.int .i64 B))).cell? ⟨nb, 2, none⟩ = some (.int .i64 B) := by rw [apartc (by omega)]; exact x2)
  all_goals (have x3a : ((W.setCell ⟨L.p, 9, none⟩ (.int .i64 B))).cell? ⟨nb, 3, none⟩ = some (.int .i64 C) := by rw [apartc (by omega)]; exact x3)
  all_goals (generalize (W.setCell ⟨L.p, 9, none⟩ (.int .i64 B)) = W1 at *)
  all_goals clear m9 z9 x1 x2 x3 x4 x5 y0 y1 y2 hM2 hW2 hmw
  all_goals (have m0 := hend.1.m0)
  all_goals (have ci := hend.1.ty1)
  all_goals (have zi := hend.2.ft 1)
  all_goals go_region_held3 (fun u => u.cell? ⟨L.p, 0, none⟩ = some (.slice (some ⟨L.tb, 0, none⟩) 3 3) ∧ u.cell? ⟨nb, 3, none⟩ = some (.int .i64 C)) (first | ((refine ⟨?_, ?_⟩ <;> simp only [World.cell?_drew] <;> (repeat (first | rw [pastc (by omega)] | rw [apartc (by omega)])) <;> (first | assumption | simp)); done) | (refine (importType_any C _).mono ?_; rintro e w1 ⟨rfl, rfl⟩; assumption)) ((go_at_call 60; refine (importType_any C _).mono ?_; rintro e w1 ⟨rfl, rfl⟩))
  all_goals (have hend2 := ModAt.drewW (ModAt.setT1 hend.1 hend.2 (importTypeF C)))
  all_goals (have hbe2 := (hbe1.setCell (p := ⟨L.tb, 1, none⟩) (by simp only []; omega) (.string ⟨(importTypeF C).toArray⟩)).drew)
  all_goals (have x2b : ((W1.setCell ⟨L.tb, 1, none⟩ (.string ⟨(importTypeF C).toArray⟩)).drew).cell? ⟨nb, 2, none⟩ = some (.int .i64 B) := by rw [World.cell?_drew, apartc (by omega)]; exact x2a)
  all_goals (have x3b : ((W1.setCell ⟨L.tb, 1, none⟩ (.string ⟨(importTypeF C).toArray⟩)).drew).cell? ⟨nb, 3, none⟩ = some (.int .i64 C) := by rw [World.cell?_drew, apartc (by omega)]; exact x3a)
  all_goals (generalize ((W1.setCell ⟨L.tb, 1, none⟩ (.string ⟨(importTypeF C).toArray⟩)).drew) = W2 at *)
  all_goals clear m0 ci zi x2a x3a hend
  all_goals go_wp2
  all_goals try (go_quiet (fail))
  all_goals try go_wp2
  all_goals go_ret3
  all_goals first | exact ⟨rfl, ⟨L, rfl, hend2⟩, hbe2⟩ | exact ⟨rfl, ⟨L, rfl, ModAt.drewNW hend2 _⟩, drewNB hbe2 _⟩

set_option maxRecDepth 100000 in
set_option maxHeartbeats 1000000 in
theorem turned_start_own (hM : ModAt w bv L M) (hW : ModW w L M) (h1 : B = 1) : TurnedTo bv L K 8 B C S T w 0 0 { M with start := B, t1 := importTypeF C } := by
  unfold TurnedTo
  obtain ⟨oo, hoo⟩ : ∃ oo, offOp C = oo := ⟨_, rfl⟩
  have HOO : Hid (offOp C = oo) := hoo
  unfold offOp at hoo
  have hmw := (ModAt.allocW (ModAt.allocW ⟨hM, hW⟩ (.cells #[.int .i64 K, .int .i64 8, .int .i64 B, .int .i64 C, .string ⟨S.toArray⟩, .string ⟨T.toArray⟩] 34)) (.cells #[.int .u8 oo, .int .u32 0, .int .u64 0] 42))
  have hM2 := hmw.1
  have hW2 := hmw.2
  have hpl : L.p < w.heap.size := World.block_lt_of_cell? _ _ hM.m0
  have hbe : Below L.p w ((w.alloc (.cells #[.int .i64 K, .int .i64 8, .int .i64 B, .int .i64 C, .string ⟨S.toArray⟩, .string ⟨T.toArray⟩] 34)).alloc (.cells #[.int .u8 oo, .int .u32 0, .int .u64 0] 42)) := ((Below.refl _ _).alloc (by omega) _).alloc (by simp; omega) _
  have o1 := hW.o1
  have o2 := hW.o2
  have o3 := hW.o3
  have o4 := hW.o4
  have o7 := hW.o7
  have e0 : (B == 0) = false := by rw [beq_eq_false_iff_ne]; omega
  have g2 : decide (2 ≤ B) = false := by (simp; omega)
  have e1 : (B == 1) = true := by rw [beq_iff_eq]; exact h1
  clear h1
  have hsz : w.heap.size + 1 < ((w.alloc (.cells #[.int .i64 K, .int .i64 8, .int .i64 B, .int .i64 C, .string ⟨S.toArray⟩, .string ⟨T.toArray⟩] 34)).alloc (.cells #[.int .u8 oo, .int .u32 0, .int .u64 0] 42)).heap.size := by simp
  have x1 := (oldc (ob := .cells #[.int .u8 oo, .int .u32 0, .int .u64 0] 42) (o := 1) (w := w.alloc (.cells #[.int .i64 K, .int .i64 8, .int .i64 B, .int .i64 C, .string ⟨S.toArray⟩, .string ⟨T.toArray⟩] 34)) (b := w.heap.size) (by simp)).trans (World.cell?_alloc_new w #[.int .i64 K, .int .i64 8, .int .i64 B, .int .i64 C, .string ⟨S.toArray⟩, .string ⟨T.toArray⟩] 34 1)
  have x2 := (oldc (ob := .cells #[.int .u8 oo, .int .u32 0, .int .u64 0] 42) (o := 2) (w := w.alloc (.cells #[.int .i64 K, .int .i64 8, .int .i64 B, .int .i64 C, .string ⟨S.toArray⟩, .string ⟨T.toArray⟩] 34)) (b := w.heap.size) (by simp)).trans (World.cell?_alloc_new w #[.int .i64 K, .int .i64 8, .int .i64 B, .int .i64 C, .string ⟨S.toArray⟩, .string ⟨T.toArray⟩] 34 2)
  have x3 := (oldc (ob := .cells #[.int .u8 oo, .int .u32 0, .int .u64 0] 42) (o := 3) (w := w.alloc (.cells #[.int .i64 K, .int .i64 8, .int .i64 B, .int .i64 C, .string ⟨S.toArray⟩, .string ⟨T.toArray⟩] 34)) (b := w.heap.size) (by simp)).trans (World.cell?_alloc_new w #[.int .i64 K, .int .i64 8, .int .i64 B, .int .i64 C, .string ⟨S.toArray⟩, .string ⟨T.toArray⟩] 34 3)
  have x4 := (oldc (ob := .cells #[.int .u8 oo, .int .u32 0, .int .u64 0] 42) (o := 4) (w := w.alloc (.cells #[.int .i64 K, .int .i64 8, .int .i64 B, .int .i64 C, .string ⟨S.toArray⟩, .string ⟨T.toArray⟩] 34)) (b := w.heap.size) (by simp)).trans (World.cell?_alloc_new w #[.int .i64 K, .int .i64 8, .int .i64 B, .int .i64 C, .string ⟨S.toArray⟩, .string ⟨T.toArray⟩] 34 4)
  have x5 := (oldc (ob := .cells #[.int .u8 oo, .int .u32 0, .int .u64 0] 42) (o := 5) (w := w.alloc (.cells #[.int .i64 K, .int .i64 8, .int .i64 B, .int .i64 C, .string ⟨S.toArray⟩, .string ⟨T.toArray⟩] 34)) (b := w.heap.size) (by simp)).trans (World.cell?_alloc_new w #[.int .i64 K, .int .i64 8, .int .i64 B, .int .i64 C, .string ⟨S.toArray⟩, .string ⟨T.toArray⟩] 34 5)
  have y0 := World.cell?_alloc_new (w.alloc (.cells #[.int .i64 K, .int .i64 8, .int .i64 B, .int .i64 C, .string ⟨S.toArray⟩, .string ⟨T.toArray⟩] 34)) #[.int .u8 oo, .int .u32 0, .int .u64 0] 42 0
  have y1 := World.cell?_alloc_new (w.alloc (.cells #[.int .i64 K, .int .i64 8, .int .i64 B, .int .i64 C, .string ⟨S.toArray⟩, .string ⟨T.toArray⟩] 34)) #[.int .u8 oo, .int .u32 0, .int .u64 0] 42 1
  have y2 := World.cell?_alloc_new (w.alloc (.cells #[.int .i64 K, .int .i64 8, .int .i64 B, .int .i64 C, .string ⟨S.toArray⟩, .string ⟨T.toArray⟩] 34)) #[.int .u8 oo, .int .u32 0, .int .u64 0] 42 2
  simp only [World.size_alloc] at y0 y1 y2
  simp only [List.getElem?_toArray, List.getElem?_cons_zero, List.getElem?_cons_succ] at x1 x2 x3 x4 x5 y0 y1 y2
  have m9 := hM2.m9
  have z9 := hW2.fp 9
  all_goals go_enter Try.func39, Try.ntmps39
  all_goals go_upto_region 55 with fail
  all_goals (generalize ((w.alloc (.cells #[.int .i64 K, .int .i64 8, .int .i64 B, .int .i64 C, .string ⟨S.toArray⟩, .string ⟨T.toArray⟩] 34)).alloc (.cells #[.int .u8 oo, .int .u32 0, .int .u64 0] 42)) = W at *)
  all_goals clear hoo
  all_goals (generalize w.heap.size = nb at *)
  all_goals (have np : ¬ L.p = W.heap.size := by omega)
  all_goals (have np2 : ¬ nb = W.heap.size := by omega)
  all_goals (have np3 : ¬ L.p = nb := by omega)
  all_goals (have np4 : ¬ nb = L.p := by omega)
  all_goals go_upto_region 56 with fail
  all_goals (have hend := ModAt.setStart hM2 hW2 B)
  all_goals (have hbe1 := (hbe.setCell (p := ⟨L.p, 9, none⟩) (Nat.le_refl _) (.int .i64 B)))
  all_goals (have x2a : ((W.setCell ⟨L.p, 9, none⟩ (.int .i64 B))).cell? ⟨nb, 2, none⟩ = some (.int .i64 B) := by rw [apartc (by omega)]; exact x2)
  all_goals (have x3a : ((W.setCell ⟨L.p, 9, none⟩ (.int .i64 B))).cell? ⟨nb, 3, none⟩ = some (.int .i64 C) := by rw [apartc (by omega)]; exact x3)
  all_goals (generalize (W.setCell ⟨L.p, 9, none⟩ (.int .i64 B)) = W1 at *)
  all_goals clear m9 z9 x1 x2 x3 x4 x5 y0 y1 y2 hM2 hW2 hmw
  all_goals (have m0 := hend.1.m0)
  all_goals (have ci := hend.1.ty1)
  all_goals (have zi := hend.2.ft 1)
  all_goals go_region_held3 (fun u => u.cell? ⟨L.p, 0, none⟩ = some (.slice (some ⟨L.tb, 0, none⟩) 3 3) ∧ u.cell? ⟨nb, 3, none⟩ = some (.int .i64 C)) (first | ((refine ⟨?_, ?_⟩ <;> simp only [World.cell?_drew] <;> (repeat (first | rw [pastc (by omega)] | rw [apartc (by omega)])) <;> (first | assumption | simp)); done) | (refine (importType_any C _).mono ?_; rintro e w1 ⟨rfl, rfl⟩; assumption)) ((go_at_call 60; refine (importType_any C _).mono ?_; rintro e w1 ⟨rfl, rfl⟩))
  all_goals (have hend2 := ModAt.drewW (ModAt.setT1 hend.1 hend.2 (importTypeF C)))
  all_goals (have hbe2 := (hbe1.setCell (p := ⟨L.tb, 1, none⟩) (by simp only []; omega) (.string ⟨(importTypeF C).toArray⟩)).drew)
  all_goals (have x2b : ((W1.setCell ⟨L.tb, 1, none⟩ (.string ⟨(importTypeF C).toArray⟩)).drew).cell? ⟨nb, 2, none⟩ = some (.int .i64 B) := by rw [World.cell?_drew, apartc (by omega)]; exact x2a)
  all_goals (have x3b : ((W1.setCell ⟨L.tb, 1, none⟩ (.string ⟨(importTypeF C).toArray⟩)).drew).cell? ⟨nb, 3, none⟩ = some (.int .i64 C) := by rw [World.cell?_drew, apartc (by omega)]; exact x3a)
  all_goals (generalize ((W1.setCell ⟨L.tb, 1, none⟩ (.string ⟨(importTypeF C).toArray⟩)).drew) = W2 at *)
  all_goals clear m0 ci zi x2a x3a hend
  all_goals go_wp2
  all_goals try (go_quiet (fail))
  all_goals try go_wp2
  all_goals go_ret3
  all_goals first | exact ⟨rfl, ⟨L, rfl, hend2⟩, hbe2⟩ | exact ⟨rfl, ⟨L, rfl, ModAt.drewNW hend2 _⟩, drewNB hbe2 _⟩

set_option maxRecDepth 100000 in
set_option maxHeartbeats 1000000 in
theorem turned_start_not (hM : ModAt w bv L M) (hW : ModW w L M) (h1 : B < 0) : TurnedNot L K 8 B C S T w := by
  unfold TurnedNot
  obtain ⟨oo, hoo⟩ : ∃ oo, offOp C = oo := ⟨_, rfl⟩
  have HOO : Hid (offOp C = oo) := hoo
  unfold offOp at hoo
  have hmw := (ModAt.allocW (ModAt.allocW ⟨hM, hW⟩ (.cells #[.int .i64 K, .int .i64 8, .int .i64 B, .int .i64 C, .string ⟨S.toArray⟩, .string ⟨T.toArray⟩] 34)) (.cells #[.int .u8 oo, .int .u32 0, .int .u64 0] 42))
  have hM2 := hmw.1
  have hW2 := hmw.2
  have hpl : L.p < w.heap.size := World.block_lt_of_cell? _ _ hM.m0
  have hbe : Below L.p w ((w.alloc (.cells #[.int .i64 K, .int .i64 8, .int .i64 B, .int .i64 C, .string ⟨S.toArray⟩, .string ⟨T.toArray⟩] 34)).alloc (.cells #[.int .u8 oo, .int .u32 0, .int .u64 0] 42)) := ((Below.refl _ _).alloc (by omega) _).alloc (by simp; omega) _
  have o1 := hW.o1
  have o2 := hW.o2
  have o3 := hW.o3
  have o4 := hW.o4
  have o7 := hW.o7
  have e0 : (B == 0) = false := by rw [beq_eq_false_iff_ne]; omega
  have g2 : decide (2 ≤ B) = false := by (simp; omega)
  have e1 : (B == 1) = false := by rw [beq_eq_false_iff_ne]; omega
  clear h1
  have hsz : w.heap.size + 1 < ((w.alloc (.cells #[.int .i64 K, .int .i64 8, .int .i64 B, .int .i64 C, .string ⟨S.toArray⟩, .string ⟨T.toArray⟩] 34)).alloc (.cells #[.int .u8 oo, .int .u32 0, .int .u64 0] 42)).heap.size := by simp
  have x1 := (oldc (ob := .cells #[.int .u8 oo, .int .u32 0, .int .u64 0] 42) (o := 1) (w := w.alloc (.cells #[.int .i64 K, .int .i64 8, .int .i64 B, .int .i64 C, .string ⟨S.toArray⟩, .string ⟨T.toArray⟩] 34)) (b := w.heap.size) (by simp)).trans (World.cell?_alloc_new w #[.int .i64 K, .int .i64 8, .int .i64 B, .int .i64 C, .string ⟨S.toArray⟩, .string ⟨T.toArray⟩] 34 1)
  have x2 := (oldc (ob := .cells #[.int .u8 oo, .int .u32 0, .int .u64 0] 42) (o := 2) (w := w.alloc (.cells #[.int .i64 K, .int .i64 8, .int .i64 B, .int .i64 C, .string ⟨S.toArray⟩, .string ⟨T.toArray⟩] 34)) (b := w.heap.size) (by simp)).trans (World.cell?_alloc_new w #[.int .i64 K, .int .i64 8, .int .i64 B, .int .i64 C, .string ⟨S.toArray⟩, .string ⟨T.toArray⟩] 34 2)
  have x3 := (oldc (ob := .cells #[.int .u8 oo, .int .u32 0, .int .u64 0] 42) (o := 3) (w := w.alloc (.cells #[.int .i64 K, .int .i64 8, .int .i64 B, .int .i64 C, .string ⟨S.toArray⟩, .string ⟨T.toArray⟩] 34)) (b := w.heap.size) (by simp)).trans (World.cell?_alloc_new w #[.int .i64 K, .int .i64 8, .int .i64 B, .int .i64 C, .string ⟨S.toArray⟩, .string ⟨T.toArray⟩] 34 3)
  have x4 := (oldc (ob := .cells #[.int .u8 oo, .int .u32 0, .int .u64 0] 42) (o := 4) (w := w.alloc (.cells #[.int .i64 K, .int .i64 8, .int .i64 B, .int .i64 C, .string ⟨S.toArray⟩, .string ⟨T.toArray⟩] 34)) (b := w.heap.size) (by simp)).trans (World.cell?_alloc_new w #[.int .i64 K, .int .i64 8, .int .i64 B, .int .i64 C, .string ⟨S.toArray⟩, .string ⟨T.toArray⟩] 34 4)
  have x5 := (oldc (ob := .cells #[.int .u8 oo, .int .u32 0, .int .u64 0] 42) (o := 5) (w := w.alloc (.cells #[.int .i64 K, .int .i64 8, .int .i64 B, .int .i64 C, .string ⟨S.toArray⟩, .string ⟨T.toArray⟩] 34)) (b := w.heap.size) (by simp)).trans (World.cell?_alloc_new w #[.int .i64 K, .int .i64 8, .int .i64 B, .int .i64 C, .string ⟨S.toArray⟩, .string ⟨T.toArray⟩] 34 5)
  have y0 := World.cell?_alloc_new (w.alloc (.cells #[.int .i64 K, .int .i64 8, .int .i64 B, .int .i64 C, .string ⟨S.toArray⟩, .string ⟨T.toArray⟩] 34)) #[.int .u8 oo, .int .u32 0, .int .u64 0] 42 0
  have y1 := World.cell?_alloc_new (w.alloc (.cells #[.int .i64 K, .int .i64 8, .int .i64 B, .int .i64 C, .string ⟨S.toArray⟩, .string ⟨T.toArray⟩] 34)) #[.int .u8 oo, .int .u32 0, .int .u64 0] 42 1
  have y2 := World.cell?_alloc_new (w.alloc (.cells #[.int .i64 K, .int .i64 8, .int .i64 B, .int .i64 C, .string ⟨S.toArray⟩, .string ⟨T.toArray⟩] 34)) #[.int .u8 oo, .int .u32 0, .int .u64 0] 42 2
  simp only [World.size_alloc] at y0 y1 y2
  simp only [List.getElem?_toArray, List.getElem?_cons_zero, List.getElem?_cons_succ] at x1 x2 x3 x4 x5 y0 y1 y2
  have m9 := hM2.m9
  have z9 := hW2.fp 9
  all_goals go_enter Try.func39, Try.ntmps39
  all_goals go_upto_region 55 with fail
  all_goals (generalize ((w.alloc (.cells #[.int .i64 K, .int .i64 8, .int .i64 B, .int .i64 C, .string ⟨S.toArray⟩, .string ⟨T.toArray⟩] 34)).alloc (.cells #[.int .u8 oo, .int .u32 0, .int .u64 0] 42)) = W at *)
  all_goals clear hoo
  all_goals (generalize w.heap.size = nb at *)
  all_goals (have np : ¬ L.p = W.heap.size := by omega)
  all_goals (have np2 : ¬ nb = W.heap.size := by omega)
  all_goals (have np3 : ¬ L.p = nb := by omega)
  all_goals (have np4 : ¬ nb = L.p := by omega)
  all_goals go_upto_region 56 with fail
  all_goals (have hend := ModAt.setStart hM2 hW2 B)
  all_goals (have hbe1 := (hbe.setCell (p := ⟨L.p, 9, none⟩) (Nat.le_refl _) (.int .i64 B)))
  all_goals (have x2a : ((W.setCell ⟨L.p, 9, none⟩ (.int .i64 B))).cell? ⟨nb, 2, none⟩ = some (.int .i64 B) := by rw [apartc (by omega)]; exact x2)
  all_goals (have x3a : ((W.setCell ⟨L.p, 9, none⟩ (.int .i64 B))).cell? ⟨nb, 3, none⟩ = some (.int .i64 C) := by rw [apartc (by omega)]; exact x3)
  all_goals (generalize (W.setCell ⟨L.p, 9, none⟩ (.int .i64 B)) = W1 at *)
  all_goals clear m9 z9 x1 x2 x3 x4 x5 y0 y1 y2 hM2 hW2 hmw
  all_goals (have m0 := hend.1.m0)
  all_goals (have ci := hend.1.ty1)
  all_goals (have zi := hend.2.ft 1)
  all_goals go_region_held3 (fun u => u.cell? ⟨L.p, 0, none⟩ = some (.slice (some ⟨L.tb, 0, none⟩) 3 3) ∧ u.cell? ⟨nb, 3, none⟩ = some (.int .i64 C)) (first | ((refine ⟨?_, ?_⟩ <;> simp only [World.cell?_drew] <;> (repeat (first | rw [pastc (by omega)] | rw [apartc (by omega)])) <;> (first | assumption | simp)); done) | (refine (importType_any C _).mono ?_; rintro e w1 ⟨rfl, rfl⟩; assumption)) ((go_at_call 60; refine (importType_any C _).mono ?_; rintro e w1 ⟨rfl, rfl⟩))
  all_goals (have hend2 := ModAt.drewW (ModAt.setT1 hend.1 hend.2 (importTypeF C)))
  all_goals (have hbe2 := (hbe1.setCell (p := ⟨L.tb, 1, none⟩) (by simp only []; omega) (.string ⟨(importTypeF C).toArray⟩)).drew)
  all_goals (have x2b : ((W1.setCell ⟨L.tb, 1, none⟩ (.string ⟨(importTypeF C).toArray⟩)).drew).cell? ⟨nb, 2, none⟩ = some (.int .i64 B) := by rw [World.cell?_drew, apartc (by omega)]; exact x2a)
  all_goals (have x3b : ((W1.setCell ⟨L.tb, 1, none⟩ (.string ⟨(importTypeF C).toArray⟩)).drew).cell? ⟨nb, 3, none⟩ = some (.int .i64 C) := by rw [World.cell?_drew, apartc (by omega)]; exact x3a)
  all_goals (generalize ((W1.setCell ⟨L.tb, 1, none⟩ (.string ⟨(importTypeF C).toArray⟩)).drew) = W2 at *)
  all_goals clear m0 ci zi x2a x3a hend
  all_goals go_wp2
  all_goals try (go_quiet (fail))
  all_goals try go_wp2
  all_goals go_ret3
  all_goals first | exact ⟨rfl, ⟨L, rfl, hend2⟩, hbe2⟩ | exact ⟨⟨_, _, rfl⟩, drewNB hbe2 _⟩

end
end Go.Proofs.Qxb6500273a
