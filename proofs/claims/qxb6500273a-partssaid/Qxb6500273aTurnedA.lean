/-
  WALKS: turned.
-/
import Derived.Test.Qxb6500273aTurned0
import Derived.Deep.Cut
set_option linter.unusedVariables false
set_option linter.unusedSimpArgs false
namespace Go.Proofs.Qxb6500273a
open Go.RowKit

section
variable (bv : Nat) (L : Lay) (M : Md) (K A B C : Int) (S T : List UInt8) (w : World)

set_option maxRecDepth 100000 in
set_option maxHeartbeats 1000000 in
theorem turned_import (hM : ModAt w bv L M) (hW : ModW w L M)  : TurnedTo bv L K 1 B C S T w 0 (if 0 ≤ B ∧ B ≤ 2 then 0 else 14) { M with it := B } := by
  unfold TurnedTo
  obtain ⟨oo, hoo⟩ : ∃ oo, offOp C = oo := ⟨_, rfl⟩
  have HOO : Hid (offOp C = oo) := hoo
  unfold offOp at hoo
  have hmw := (ModAt.allocW (ModAt.allocW ⟨hM, hW⟩ (.cells #[.int .i64 K, .int .i64 1, .int .i64 B, .int .i64 C, .string ⟨S.toArray⟩, .string ⟨T.toArray⟩] 34)) (.cells #[.int .u8 oo, .int .u32 0, .int .u64 0] 42))
  have hM2 := hmw.1
  have hW2 := hmw.2
  have hpl : L.p < w.heap.size := World.block_lt_of_cell? _ _ hM.m0
  have hbe : Below L.p w ((w.alloc (.cells #[.int .i64 K, .int .i64 1, .int .i64 B, .int .i64 C, .string ⟨S.toArray⟩, .string ⟨T.toArray⟩] 34)).alloc (.cells #[.int .u8 oo, .int .u32 0, .int .u64 0] 42)) := ((Below.refl _ _).alloc (by omega) _).alloc (by simp; omega) _
  have o1 := hW.o1
  have o2 := hW.o2
  have o3 := hW.o3
  have o4 := hW.o4
  have o7 := hW.o7
  have hcase : (B < 0 ∧ (if 0 ≤ B ∧ B ≤ 2 then (0 : Int) else 14) = 14) ∨ (0 ≤ B ∧ 2 < B ∧ (if 0 ≤ B ∧ B ≤ 2 then (0 : Int) else 14) = 14) ∨ (0 ≤ B ∧ B ≤ 2 ∧ (if 0 ≤ B ∧ B ≤ 2 then (0 : Int) else 14) = 0) := by
    by_cases h1 : 0 ≤ B
    · by_cases h2 : B ≤ 2
      · exact .inr (.inr ⟨h1, h2, by simp [h1, h2]⟩)
      · exact .inr (.inl ⟨h1, by omega, by simp [h2]⟩)
    · exact .inl ⟨by omega, by simp [h1]⟩
  generalize (if 0 ≤ B ∧ B ≤ 2 then (0 : Int) else 14) = wt at *
  have hsz : w.heap.size + 1 < ((w.alloc (.cells #[.int .i64 K, .int .i64 1, .int .i64 B, .int .i64 C, .string ⟨S.toArray⟩, .string ⟨T.toArray⟩] 34)).alloc (.cells #[.int .u8 oo, .int .u32 0, .int .u64 0] 42)).heap.size := by simp
  have x1 := (oldc (ob := .cells #[.int .u8 oo, .int .u32 0, .int .u64 0] 42) (o := 1) (w := w.alloc (.cells #[.int .i64 K, .int .i64 1, .int .i64 B, .int .i64 C, .string ⟨S.toArray⟩, .string ⟨T.toArray⟩] 34)) (b := w.heap.size) (by simp)).trans (World.cell?_alloc_new w #[.int .i64 K, .int .i64 1, .int .i64 B, .int .i64 C, .string ⟨S.toArray⟩, .string ⟨T.toArray⟩] 34 1)
  have x2 := (oldc (ob := .cells #[.int .u8 oo, .int .u32 0, .int .u64 0] 42) (o := 2) (w := w.alloc (.cells #[.int .i64 K, .int .i64 1, .int .i64 B, .int .i64 C, .string ⟨S.toArray⟩, .string ⟨T.toArray⟩] 34)) (b := w.heap.size) (by simp)).trans (World.cell?_alloc_new w #[.int .i64 K, .int .i64 1, .int .i64 B, .int .i64 C, .string ⟨S.toArray⟩, .string ⟨T.toArray⟩] 34 2)
  have x3 := (oldc (ob := .cells #[.int .u8 oo, .int .u32 0, .int .u64 0] 42) (o := 3) (w := w.alloc (.cells #[.int .i64 K, .int .i64 1, .int .i64 B, .int .i64 C, .string ⟨S.toArray⟩, .string ⟨T.toArray⟩] 34)) (b := w.heap.size) (by simp)).trans (World.cell?_alloc_new w #[.int .i64 K, .int .i64 1, .int .i64 B, .int .i64 C, .string ⟨S.toArray⟩, .string ⟨T.toArray⟩] 34 3)
  have x4 := (oldc (ob := .cells #[.int .u8 oo, .int .u32 0, .int .u64 0] 42) (o := 4) (w := w.alloc (.cells #[.int .i64 K, .int .i64 1, .int .i64 B, .int .i64 C, .string ⟨S.toArray⟩, .string ⟨T.toArray⟩] 34)) (b := w.heap.size) (by simp)).trans (World.cell?_alloc_new w #[.int .i64 K, .int .i64 1, .int .i64 B, .int .i64 C, .string ⟨S.toArray⟩, .string ⟨T.toArray⟩] 34 4)
  have x5 := (oldc (ob := .cells #[.int .u8 oo, .int .u32 0, .int .u64 0] 42) (o := 5) (w := w.alloc (.cells #[.int .i64 K, .int .i64 1, .int .i64 B, .int .i64 C, .string ⟨S.toArray⟩, .string ⟨T.toArray⟩] 34)) (b := w.heap.size) (by simp)).trans (World.cell?_alloc_new w #[.int .i64 K, .int .i64 1, .int .i64 B, .int .i64 C, .string ⟨S.toArray⟩, .string ⟨T.toArray⟩] 34 5)
  have y0 := World.cell?_alloc_new (w.alloc (.cells #[.int .i64 K, .int .i64 1, .int .i64 B, .int .i64 C, .string ⟨S.toArray⟩, .string ⟨T.toArray⟩] 34)) #[.int .u8 oo, .int .u32 0, .int .u64 0] 42 0
  have y1 := World.cell?_alloc_new (w.alloc (.cells #[.int .i64 K, .int .i64 1, .int .i64 B, .int .i64 C, .string ⟨S.toArray⟩, .string ⟨T.toArray⟩] 34)) #[.int .u8 oo, .int .u32 0, .int .u64 0] 42 1
  have y2 := World.cell?_alloc_new (w.alloc (.cells #[.int .i64 K, .int .i64 1, .int .i64 B, .int .i64 C, .string ⟨S.toArray⟩, .string ⟨T.toArray⟩] 34)) #[.int .u8 oo, .int .u32 0, .int .u64 0] 42 2
  simp only [World.size_alloc] at y0 y1 y2
  simp only [List.getElem?_toArray, List.getElem?_cons_zero, List.getElem?_cons_succ] at x1 x2 x3 x4 x5 y0 y1 y2
  have m1 := hM2.m1
  have ci := hM2.im
  have zi := hW2.fi 2
  all_goals go_enter Try.func39, Try.ntmps39
  all_goals go_upto_region 5 with fail
  all_goals (generalize ((w.alloc (.cells #[.int .i64 K, .int .i64 1, .int .i64 B, .int .i64 C, .string ⟨S.toArray⟩, .string ⟨T.toArray⟩] 34)).alloc (.cells #[.int .u8 oo, .int .u32 0, .int .u64 0] 42)) = W at *)
  all_goals clear hoo
  all_goals (generalize w.heap.size = nb at *)
  all_goals (have np : ¬ L.p = W.heap.size := by omega)
  all_goals (have np2 : ¬ nb = W.heap.size := by omega)
  all_goals (have np3 : ¬ L.p = nb := by omega)
  all_goals (have np4 : ¬ nb = L.p := by omega)
  all_goals go_region_held3 (fun u => u.cell? ⟨L.p, 1, none⟩ = some (.slice (some ⟨L.ib, 0, none⟩) 1 1) ∧ u.cell? ⟨nb, 2, none⟩ = some (.int .i64 B)) (refine ⟨?_, ?_⟩ <;> simp only [World.cell?_drew] <;> (repeat (first | rw [pastc (by omega)] | rw [apartc (by omega)])) <;> (first | assumption | simp)) (fail)
  all_goals (have hend := ModAt.drewW (ModAt.setIt hM2 hW2 B))
  all_goals (have hbe1 := (hbe.setCell (p := ⟨L.ib, 2, none⟩) (by simp only []; omega) (.int .i64 B)).drew)
  all_goals (have x2a : ((W.setCell ⟨L.ib, 2, none⟩ (.int .i64 B)).drew).cell? ⟨nb, 2, none⟩ = some (.int .i64 B) := by rw [World.cell?_drew, apartc (by omega)]; exact x2)
  all_goals (generalize ((W.setCell ⟨L.ib, 2, none⟩ (.int .i64 B)).drew) = W1 at *)
  all_goals clear m1 ci zi x1 x2 x3 x4 x5 y0 y1 y2 hM2 hW2 hmw
  all_goals (rcases hcase with ⟨h1, h2⟩ | ⟨h1, h3, h2⟩ | ⟨h1, h3, h2⟩)
  all_goals subst h2
  all_goals go_wp2
  all_goals go_ret3
  all_goals exact ⟨rfl, ⟨L, rfl, hend⟩, hbe1⟩

set_option maxRecDepth 100000 in
set_option maxHeartbeats 1000000 in
theorem turned_func (hM : ModAt w bv L M) (hW : ModW w L M) (hB : B < 0 ∨ 2 < B) : TurnedTo bv L K 2 B C S T w 1 14 { M with ft := B } := by
  unfold TurnedTo
  obtain ⟨oo, hoo⟩ : ∃ oo, offOp C = oo := ⟨_, rfl⟩
  have HOO : Hid (offOp C = oo) := hoo
  unfold offOp at hoo
  have hmw := (ModAt.allocW (ModAt.allocW ⟨hM, hW⟩ (.cells #[.int .i64 K, .int .i64 2, .int .i64 B, .int .i64 C, .string ⟨S.toArray⟩, .string ⟨T.toArray⟩] 34)) (.cells #[.int .u8 oo, .int .u32 0, .int .u64 0] 42))
  have hM2 := hmw.1
  have hW2 := hmw.2
  have hpl : L.p < w.heap.size := World.block_lt_of_cell? _ _ hM.m0
  have hbe : Below L.p w ((w.alloc (.cells #[.int .i64 K, .int .i64 2, .int .i64 B, .int .i64 C, .string ⟨S.toArray⟩, .string ⟨T.toArray⟩] 34)).alloc (.cells #[.int .u8 oo, .int .u32 0, .int .u64 0] 42)) := ((Below.refl _ _).alloc (by omega) _).alloc (by simp; omega) _
  have o1 := hW.o1
  have o2 := hW.o2
  have o3 := hW.o3
  have o4 := hW.o4
  have o7 := hW.o7
  have hsz : w.heap.size + 1 < ((w.alloc (.cells #[.int .i64 K, .int .i64 2, .int .i64 B, .int .i64 C, .string ⟨S.toArray⟩, .string ⟨T.toArray⟩] 34)).alloc (.cells #[.int .u8 oo, .int .u32 0, .int .u64 0] 42)).heap.size := by simp
  have x1 := (oldc (ob := .cells #[.int .u8 oo, .int .u32 0, .int .u64 0] 42) (o := 1) (w := w.alloc (.cells #[.int .i64 K, .int .i64 2, .int .i64 B, .int .i64 C, .string ⟨S.toArray⟩, .string ⟨T.toArray⟩] 34)) (b := w.heap.size) (by simp)).trans (World.cell?_alloc_new w #[.int .i64 K, .int .i64 2, .int .i64 B, .int .i64 C, .string ⟨S.toArray⟩, .string ⟨T.toArray⟩] 34 1)
  have x2 := (oldc (ob := .cells #[.int .u8 oo, .int .u32 0, .int .u64 0] 42) (o := 2) (w := w.alloc (.cells #[.int .i64 K, .int .i64 2, .int .i64 B, .int .i64 C, .string ⟨S.toArray⟩, .string ⟨T.toArray⟩] 34)) (b := w.heap.size) (by simp)).trans (World.cell?_alloc_new w #[.int .i64 K, .int .i64 2, .int .i64 B, .int .i64 C, .string ⟨S.toArray⟩, .string ⟨T.toArray⟩] 34 2)
  have x3 := (oldc (ob := .cells #[.int .u8 oo, .int .u32 0, .int .u64 0] 42) (o := 3) (w := w.alloc (.cells #[.int .i64 K, .int .i64 2, .int .i64 B, .int .i64 C, .string ⟨S.toArray⟩, .string ⟨T.toArray⟩] 34)) (b := w.heap.size) (by simp)).trans (World.cell?_alloc_new w #[.int .i64 K, .int .i64 2, .int .i64 B, .int .i64 C, .string ⟨S.toArray⟩, .string ⟨T.toArray⟩] 34 3)
  have x4 := (oldc (ob := .cells #[.int .u8 oo, .int .u32 0, .int .u64 0] 42) (o := 4) (w := w.alloc (.cells #[.int .i64 K, .int .i64 2, .int .i64 B, .int .i64 C, .string ⟨S.toArray⟩, .string ⟨T.toArray⟩] 34)) (b := w.heap.size) (by simp)).trans (World.cell?_alloc_new w #[.int .i64 K, .int .i64 2, .int .i64 B, .int .i64 C, .string ⟨S.toArray⟩, .string ⟨T.toArray⟩] 34 4)
  have x5 := (oldc (ob := .cells #[.int .u8 oo, .int .u32 0, .int .u64 0] 42) (o := 5) (w := w.alloc (.cells #[.int .i64 K, .int .i64 2, .int .i64 B, .int .i64 C, .string ⟨S.toArray⟩, .string ⟨T.toArray⟩] 34)) (b := w.heap.size) (by simp)).trans (World.cell?_alloc_new w #[.int .i64 K, .int .i64 2, .int .i64 B, .int .i64 C, .string ⟨S.toArray⟩, .string ⟨T.toArray⟩] 34 5)
  have y0 := World.cell?_alloc_new (w.alloc (.cells #[.int .i64 K, .int .i64 2, .int .i64 B, .int .i64 C, .string ⟨S.toArray⟩, .string ⟨T.toArray⟩] 34)) #[.int .u8 oo, .int .u32 0, .int .u64 0] 42 0
  have y1 := World.cell?_alloc_new (w.alloc (.cells #[.int .i64 K, .int .i64 2, .int .i64 B, .int .i64 C, .string ⟨S.toArray⟩, .string ⟨T.toArray⟩] 34)) #[.int .u8 oo, .int .u32 0, .int .u64 0] 42 1
  have y2 := World.cell?_alloc_new (w.alloc (.cells #[.int .i64 K, .int .i64 2, .int .i64 B, .int .i64 C, .string ⟨S.toArray⟩, .string ⟨T.toArray⟩] 34)) #[.int .u8 oo, .int .u32 0, .int .u64 0] 42 2
  simp only [World.size_alloc] at y0 y1 y2
  simp only [List.getElem?_toArray, List.getElem?_cons_zero, List.getElem?_cons_succ] at x1 x2 x3 x4 x5 y0 y1 y2
  have m1 := hM2.m2
  have ci := hM2.f0
  have zi := hW2.ff 0
  all_goals go_enter Try.func39, Try.ntmps39
  all_goals go_upto_region 10 with fail
  all_goals (generalize ((w.alloc (.cells #[.int .i64 K, .int .i64 2, .int .i64 B, .int .i64 C, .string ⟨S.toArray⟩, .string ⟨T.toArray⟩] 34)).alloc (.cells #[.int .u8 oo, .int .u32 0, .int .u64 0] 42)) = W at *)
  all_goals clear hoo
  all_goals (generalize w.heap.size = nb at *)
  all_goals (have np : ¬ L.p = W.heap.size := by omega)
  all_goals (have np2 : ¬ nb = W.heap.size := by omega)
  all_goals (have np3 : ¬ L.p = nb := by omega)
  all_goals (have np4 : ¬ nb = L.p := by omega)
  all_goals go_region_held3 (fun u => u.cell? ⟨L.p, 2, none⟩ = some (.slice (some ⟨L.fb, 0, none⟩) 1 1) ∧ u.cell? ⟨nb, 2, none⟩ = some (.int .i64 B)) (refine ⟨?_, ?_⟩ <;> simp only [World.cell?_drew] <;> (repeat (first | rw [pastc (by omega)] | rw [apartc (by omega)])) <;> (first | assumption | simp)) (fail)
  all_goals (have hend := ModAt.drewW (ModAt.setFt hM2 hW2 B))
  all_goals (have hbe1 := (hbe.setCell (p := ⟨L.fb, 0, none⟩) (by simp only []; omega) (.int .i64 B)).drew)
  all_goals (have x2a : ((W.setCell ⟨L.fb, 0, none⟩ (.int .i64 B)).drew).cell? ⟨nb, 2, none⟩ = some (.int .i64 B) := by rw [World.cell?_drew, apartc (by omega)]; exact x2)
  all_goals (generalize ((W.setCell ⟨L.fb, 0, none⟩ (.int .i64 B)).drew) = W1 at *)
  all_goals clear m1 ci zi x1 x2 x3 x4 x5 y0 y1 y2 hM2 hW2 hmw
  all_goals (rcases hB with h1 | h1)
  all_goals (first | (have d1 : decide (B < 0) = true := by (simp; omega)) | (have d1 : decide (B < 0) = false := by (simp; omega)))
  all_goals go_wp2
  all_goals go_quiet (fail)
  all_goals go_wp2
  all_goals go_ret3
  all_goals exact ⟨rfl, ⟨L, rfl, ModAt.drewNW hend _⟩, drewNB hbe1 _⟩

set_option maxRecDepth 100000 in
set_option maxHeartbeats 1000000 in
theorem turned_func_not (hM : ModAt w bv L M) (hW : ModW w L M) (hB : 0 ≤ B) (hB2 : B ≤ 2) : TurnedNot L K 2 B C S T w := by
  unfold TurnedNot
  obtain ⟨oo, hoo⟩ : ∃ oo, offOp C = oo := ⟨_, rfl⟩
  have HOO : Hid (offOp C = oo) := hoo
  unfold offOp at hoo
  have hmw := (ModAt.allocW (ModAt.allocW ⟨hM, hW⟩ (.cells #[.int .i64 K, .int .i64 2, .int .i64 B, .int .i64 C, .string ⟨S.toArray⟩, .string ⟨T.toArray⟩] 34)) (.cells #[.int .u8 oo, .int .u32 0, .int .u64 0] 42))
  have hM2 := hmw.1
  have hW2 := hmw.2
  have hpl : L.p < w.heap.size := World.block_lt_of_cell? _ _ hM.m0
  have hbe : Below L.p w ((w.alloc (.cells #[.int .i64 K, .int .i64 2, .int .i64 B, .int .i64 C, .string ⟨S.toArray⟩, .string ⟨T.toArray⟩] 34)).alloc (.cells #[.int .u8 oo, .int .u32 0, .int .u64 0] 42)) := ((Below.refl _ _).alloc (by omega) _).alloc (by simp; omega) _
  have o1 := hW.o1
  have o2 := hW.o2
  have o3 := hW.o3
  have o4 := hW.o4
  have o7 := hW.o7
  have hsz : w.heap.size + 1 < ((w.alloc (.cells #[.int .i64 K, .int .i64 2, .int .i64 B, .int .i64 C, .string ⟨S.toArray⟩, .string ⟨T.toArray⟩] 34)).alloc (.cells #[.int .u8 oo, .int .u32 0, .int .u64 0] 42)).heap.size := by simp
  have x1 := (oldc (ob := .cells #[.int .u8 oo, .int .u32 0, .int .u64 0] 42) (o := 1) (w := w.alloc (.cells #[.int .i64 K, .int .i64 2, .int .i64 B, .int .i64 C, .string ⟨S.toArray⟩, .string ⟨T.toArray⟩] 34)) (b := w.heap.size) (by simp)).trans (World.cell?_alloc_new w #[.int .i64 K, .int .i64 2, .int .i64 B, .int .i64 C, .string ⟨S.toArray⟩, .string ⟨T.toArray⟩] 34 1)
  have x2 := (oldc (ob := .cells #[.int .u8 oo, .int .u32 0, .int .u64 0] 42) (o := 2) (w := w.alloc (.cells #[.int .i64 K, .int .i64 2, .int .i64 B, .int .i64 C, .string ⟨S.toArray⟩, .string ⟨T.toArray⟩] 34)) (b := w.heap.size) (by simp)).trans (World.cell?_alloc_new w #[.int .i64 K, .int .i64 2, .int .i64 B, .int .i64 C, .string ⟨S.toArray⟩, .string ⟨T.toArray⟩] 34 2)
  have x3 := (oldc (ob := .cells #[.int .u8 oo, .int .u32 0, .int .u64 0] 42) (o := 3) (w := w.alloc (.cells #[.int .i64 K, .int .i64 2, .int .i64 B, .int .i64 C, .string ⟨S.toArray⟩, .string ⟨T.toArray⟩] 34)) (b := w.heap.size) (by simp)).trans (World.cell?_alloc_new w #[.int .i64 K, .int .i64 2, .int .i64 B, .int .i64 C, .string ⟨S.toArray⟩, .string ⟨T.toArray⟩] 34 3)
  have x4 := (oldc (ob := .cells #[.int .u8 oo, .int .u32 0, .int .u64 0] 42) (o := 4) (w := w.alloc (.cells #[.int .i64 K, .int .i64 2, .int .i64 B, .int .i64 C, .string ⟨S.toArray⟩, .string ⟨T.toArray⟩] 34)) (b := w.heap.size) (by simp)).trans (World.cell?_alloc_new w #[.int .i64 K, .int .i64 2, .int .i64 B, .int .i64 C, .string ⟨S.toArray⟩, .string ⟨T.toArray⟩] 34 4)
  have x5 := (oldc (ob := .cells #[.int .u8 oo, .int .u32 0, .int .u64 0] 42) (o := 5) (w := w.alloc (.cells #[.int .i64 K, .int .i64 2, .int .i64 B, .int .i64 C, .string ⟨S.toArray⟩, .string ⟨T.toArray⟩] 34)) (b := w.heap.size) (by simp)).trans (World.cell?_alloc_new w #[.int .i64 K, .int .i64 2, .int .i64 B, .int .i64 C, .string ⟨S.toArray⟩, .string ⟨T.toArray⟩] 34 5)
  have y0 := World.cell?_alloc_new (w.alloc (.cells #[.int .i64 K, .int .i64 2, .int .i64 B, .int .i64 C, .string ⟨S.toArray⟩, .string ⟨T.toArray⟩] 34)) #[.int .u8 oo, .int .u32 0, .int .u64 0] 42 0
  have y1 := World.cell?_alloc_new (w.alloc (.cells #[.int .i64 K, .int .i64 2, .int .i64 B, .int .i64 C, .string ⟨S.toArray⟩, .string ⟨T.toArray⟩] 34)) #[.int .u8 oo, .int .u32 0, .int .u64 0] 42 1
  have y2 := World.cell?_alloc_new (w.alloc (.cells #[.int .i64 K, .int .i64 2, .int .i64 B, .int .i64 C, .string ⟨S.toArray⟩, .string ⟨T.toArray⟩] 34)) #[.int .u8 oo, .int .u32 0, .int .u64 0] 42 2
  simp only [World.size_alloc] at y0 y1 y2
  simp only [List.getElem?_toArray, List.getElem?_cons_zero, List.getElem?_cons_succ] at x1 x2 x3 x4 x5 y0 y1 y2
  have m1 := hM2.m2
  have ci := hM2.f0
  have zi := hW2.ff 0
  have d1 : decide (B < 0) = false := by (simp; omega)
  have d2 : decide (2 < B) = false := by (simp; omega)
  all_goals go_enter Try.func39, Try.ntmps39
  all_goals go_upto_region 10 with fail
  all_goals (generalize ((w.alloc (.cells #[.int .i64 K, .int .i64 2, .int .i64 B, .int .i64 C, .string ⟨S.toArray⟩, .string ⟨T.toArray⟩] 34)).alloc (.cells #[.int .u8 oo, .int .u32 0, .int .u64 0] 42)) = W at *)
  all_goals clear hoo
  all_goals (generalize w.heap.size = nb at *)
  all_goals (have np : ¬ L.p = W.heap.size := by omega)
  all_goals (have np2 : ¬ nb = W.heap.size := by omega)
  all_goals (have np3 : ¬ L.p = nb := by omega)
  all_goals (have np4 : ¬ nb = L.p := by omega)
  all_goals go_region_held3 (fun u => u.cell? ⟨L.p, 2, none⟩ = some (.slice (some ⟨L.fb, 0, none⟩) 1 1) ∧ u.cell? ⟨nb, 2, none⟩ = some (.int .i64 B)) (refine ⟨?_, ?_⟩ <;> simp only [World.cell?_drew] <;> (repeat (first | rw [pastc (by omega)] | rw [apartc (by omega)])) <;> (first | assumption | simp)) (fail)
  all_goals (have hbe1 := (hbe.setCell (p := ⟨L.fb, 0, none⟩) (by simp only []; omega) (.int .i64 B)).drew)
  all_goals (have x2a : ((W.setCell ⟨L.fb, 0, none⟩ (.int .i64 B)).drew).cell? ⟨nb, 2, none⟩ = some (.int .i64 B) := by rw [World.cell?_drew, apartc (by omega)]; exact x2)
  all_goals (generalize ((W.setCell ⟨L.fb, 0, none⟩ (.int .i64 B)).drew) = W1 at *)
  all_goals clear m1 ci zi x1 x2 x3 x4 x5 y0 y1 y2 hM2 hW2 hmw
  all_goals go_wp2
  all_goals go_quiet (fail)
  all_goals go_wp2
  all_goals go_ret3
  all_goals exact ⟨⟨_, _, rfl⟩, drewNB hbe1 _⟩

set_option maxRecDepth 100000 in
set_option maxHeartbeats 1000000 in
theorem turned_table (hM : ModAt w bv L M) (hW : ModW w L M) (hB : 0 ≤ B) (hC : -1 ≤ C) : TurnedTo bv L K 3 B C S T w 0 (limitedF B C 8) { M with tabMin := B, tabMax := C, exps := [⟨[97], 1, 0⟩] } := by
  unfold TurnedTo
  obtain ⟨oo, hoo⟩ : ∃ oo, offOp C = oo := ⟨_, rfl⟩
  have HOO : Hid (offOp C = oo) := hoo
  unfold offOp at hoo
  have hmw := (ModAt.allocW (ModAt.allocW ⟨hM, hW⟩ (.cells #[.int .i64 K, .int .i64 3, .int .i64 B, .int .i64 C, .string ⟨S.toArray⟩, .string ⟨T.toArray⟩] 34)) (.cells #[.int .u8 oo, .int .u32 0, .int .u64 0] 42))
  have hM2 := hmw.1
  have hW2 := hmw.2
  have hpl : L.p < w.heap.size := World.block_lt_of_cell? _ _ hM.m0
  have hbe : Below L.p w ((w.alloc (.cells #[.int .i64 K, .int .i64 3, .int .i64 B, .int .i64 C, .string ⟨S.toArray⟩, .string ⟨T.toArray⟩] 34)).alloc (.cells #[.int .u8 oo, .int .u32 0, .int .u64 0] 42)) := ((Below.refl _ _).alloc (by omega) _).alloc (by simp; omega) _
  have o1 := hW.o1
  have o2 := hW.o2
  have o3 := hW.o3
  have o4 := hW.o4
  have o7 := hW.o7
  have hsz : w.heap.size + 1 < ((w.alloc (.cells #[.int .i64 K, .int .i64 3, .int .i64 B, .int .i64 C, .string ⟨S.toArray⟩, .string ⟨T.toArray⟩] 34)).alloc (.cells #[.int .u8 oo, .int .u32 0, .int .u64 0] 42)).heap.size := by simp
  have x1 := (oldc (ob := .cells #[.int .u8 oo, .int .u32 0, .int .u64 0] 42) (o := 1) (w := w.alloc (.cells #[.int .i64 K, .int .i64 3, .int .i64 B, .int .i64 C, .string ⟨S.toArray⟩, .string ⟨T.toArray⟩] 34)) (b := w.heap.size) (by simp)).trans (World.cell?_alloc_new w #[.int .i64 K, .int .i64 3, .int .i64 B, .int .i64 C, .string ⟨S.toArray⟩, .string ⟨T.toArray⟩] 34 1)
  have x2 := (oldc (ob := .cells #[.int .u8 oo, .int .u32 0, .int .u64 0] 42) (o := 2) (w := w.alloc (.cells #[.int .i64 K, .int .i64 3, .int .i64 B, .int .i64 C, .string ⟨S.toArray⟩, .string ⟨T.toArray⟩] 34)) (b := w.heap.size) (by simp)).trans (World.cell?_alloc_new w #[.int .i64 K, .int .i64 3, .int .i64 B, .int .i64 C, .string ⟨S.toArray⟩, .string ⟨T.toArray⟩] 34 2)
  have x3 := (oldc (ob := .cells #[.int .u8 oo, .int .u32 0, .int .u64 0] 42) (o := 3) (w := w.alloc (.cells #[.int .i64 K, .int .i64 3, .int .i64 B, .int .i64 C, .string ⟨S.toArray⟩, .string ⟨T.toArray⟩] 34)) (b := w.heap.size) (by simp)).trans (World.cell?_alloc_new w #[.int .i64 K, .int .i64 3, .int .i64 B, .int .i64 C, .string ⟨S.toArray⟩, .string ⟨T.toArray⟩] 34 3)
  have x4 := (oldc (ob := .cells #[.int .u8 oo, .int .u32 0, .int .u64 0] 42) (o := 4) (w := w.alloc (.cells #[.int .i64 K, .int .i64 3, .int .i64 B, .int .i64 C, .string ⟨S.toArray⟩, .string ⟨T.toArray⟩] 34)) (b := w.heap.size) (by simp)).trans (World.cell?_alloc_new w #[.int .i64 K, .int .i64 3, .int .i64 B, .int .i64 C, .string ⟨S.toArray⟩, .string ⟨T.toArray⟩] 34 4)
  have x5 := (oldc (ob := .cells #[.int .u8 oo, .int .u32 0, .int .u64 0] 42) (o := 5) (w := w.alloc (.cells #[.int .i64 K, .int .i64 3, .int .i64 B, .int .i64 C, .string ⟨S.toArray⟩, .string ⟨T.toArray⟩] 34)) (b := w.heap.size) (by simp)).trans (World.cell?_alloc_new w #[.int .i64 K, .int .i64 3, .int .i64 B, .int .i64 C, .string ⟨S.toArray⟩, .string ⟨T.toArray⟩] 34 5)
  have y0 := World.cell?_alloc_new (w.alloc (.cells #[.int .i64 K, .int .i64 3, .int .i64 B, .int .i64 C, .string ⟨S.toArray⟩, .string ⟨T.toArray⟩] 34)) #[.int .u8 oo, .int .u32 0, .int .u64 0] 42 0
  have y1 := World.cell?_alloc_new (w.alloc (.cells #[.int .i64 K, .int .i64 3, .int .i64 B, .int .i64 C, .string ⟨S.toArray⟩, .string ⟨T.toArray⟩] 34)) #[.int .u8 oo, .int .u32 0, .int .u64 0] 42 1
  have y2 := World.cell?_alloc_new (w.alloc (.cells #[.int .i64 K, .int .i64 3, .int .i64 B, .int .i64 C, .string ⟨S.toArray⟩, .string ⟨T.toArray⟩] 34)) #[.int .u8 oo, .int .u32 0, .int .u64 0] 42 2
  simp only [World.size_alloc] at y0 y1 y2
  simp only [List.getElem?_toArray, List.getElem?_cons_zero, List.getElem?_cons_succ] at x1 x2 x3 x4 x5 y0 y1 y2
  have c3 := hM2.m3
  have c4 := hM2.m4
  have z3 := hW2.fp 3
  have z4 := hW2.fp 4
  have dB : decide (0 ≤ B) = true := by simp [hB]
  have dC : decide (-1 ≤ C) = true := by simp [hC]
  all_goals go_enter Try.func39, Try.ntmps39
  all_goals go_upto_region 13 with fail
  all_goals (generalize ((w.alloc (.cells #[.int .i64 K, .int .i64 3, .int .i64 B, .int .i64 C, .string ⟨S.toArray⟩, .string ⟨T.toArray⟩] 34)).alloc (.cells #[.int .u8 oo, .int .u32 0, .int .u64 0] 42)) = W at *)
  all_goals clear hoo
  all_goals (generalize w.heap.size = nb at *)
  all_goals (have np : ¬ L.p = W.heap.size := by omega)
  all_goals (have np2 : ¬ nb = W.heap.size := by omega)
  all_goals (have np3 : ¬ L.p = nb := by omega)
  all_goals (have np4 : ¬ nb = L.p := by omega)
  all_goals go_upto_region 15 with fail
  all_goals (have hmw1 := ModAt.setTabMin hM2 hW2 B)
  all_goals (have hmw3 := ModAt.setTabMax hmw1.1 hmw1.2 C)
  all_goals (have hbe1 := (hbe.setCell (p := ⟨L.p, 3, none⟩) (Nat.le_refl _) (.int .i64 B)).setCell (p := ⟨L.p, 4, none⟩) (Nat.le_refl _) (.int .i64 C))
  all_goals (have hsz1 : nb + 1 < ((W.setCell ⟨L.p, 3, none⟩ (.int .i64 B)).setCell ⟨L.p, 4, none⟩ (.int .i64 C)).heap.size := by simpa using hsz)
  all_goals (have x2a : ((W.setCell ⟨L.p, 3, none⟩ (.int .i64 B)).setCell ⟨L.p, 4, none⟩ (.int .i64 C)).cell? ⟨nb, 2, none⟩ = some (.int .i64 B) := by rw [apartc np3, apartc np3]; exact x2)
  all_goals (have x3a : ((W.setCell ⟨L.p, 3, none⟩ (.int .i64 B)).setCell ⟨L.p, 4, none⟩ (.int .i64 C)).cell? ⟨nb, 3, none⟩ = some (.int .i64 C) := by rw [apartc np3, apartc np3]; exact x3)
  all_goals (generalize ((W.setCell ⟨L.p, 3, none⟩ (.int .i64 B)).setCell ⟨L.p, 4, none⟩ (.int .i64 C)) = W1 at *)
  all_goals clear c3 c4 z3 z4 x1 x2 x3 x4 x5 y0 y1 y2 hmw hM2 hW2 hmw1
  all_goals (have c8a : ∀ ob, (W1.alloc ob).cell? ⟨L.p, 8, none⟩ = some (.slice L.xa M.exps.length L.xc) := fun ob => (oldc (by omega)).trans hmw3.1.m8)
  all_goals (have z8a : ∀ ob, (W1.alloc ob).frozen? ⟨L.p, 8, none⟩ = false := fun ob => (ModAt.allocW hmw3 ob).2.fp 8)
  all_goals (have x2b : ∀ ob, (W1.alloc ob).cell? ⟨nb, 2, none⟩ = some (.int .i64 B) := fun ob => (oldc (by omega)).trans x2a)
  all_goals (have x3b : ∀ ob, (W1.alloc ob).cell? ⟨nb, 3, none⟩ = some (.int .i64 C) := fun ob => (oldc (by omega)).trans x3a)
  all_goals (go_wp2_with (go_at_call 59; refine (limited_any B C 8 _).mono ?_; rintro e w1 ⟨rfl, rfl⟩))
  all_goals go_quiet (fail)
  all_goals go_wp2
  all_goals go_ret3
  all_goals (have ha := ModAt.allocW hmw3 (.cells #[.string ⟨#[97]⟩, .int .u8 1, .int .u32 0] 106))
  all_goals (have hx := ModAt.setExps ha.1 ha.2 [⟨[97], 1, 0⟩] W1.heap.size 1 (by have := hmw3.2.o7; exact this) (one3 (World.cell?_alloc_new _ _ _ 0)) (one3 (World.cell?_alloc_new _ _ _ 1)) (one3 (World.cell?_alloc_new _ _ _ 2)))
  all_goals exact ⟨rfl, ⟨_, (by rfl), ModAt.drewNW hx _⟩, drewNB ((hbe1.alloc (by omega) _).setCell (Nat.le_refl _) _) _⟩

set_option maxRecDepth 100000 in
set_option maxHeartbeats 1000000 in
theorem turned_memory (hM : ModAt w bv L M) (hW : ModW w L M) (hB : 0 ≤ B) (hC : -1 ≤ C) : TurnedTo bv L K 4 B C S T w 1 (limitedF B C 6) { M with memMin := B, memMax := C, exps := [⟨[97], 2, 0⟩] } := by
  unfold TurnedTo
  obtain ⟨oo, hoo⟩ : ∃ oo, offOp C = oo := ⟨_, rfl⟩
  have HOO : Hid (offOp C = oo) := hoo
  unfold offOp at hoo
  have hmw := (ModAt.allocW (ModAt.allocW ⟨hM, hW⟩ (.cells #[.int .i64 K, .int .i64 4, .int .i64 B, .int .i64 C, .string ⟨S.toArray⟩, .string ⟨T.toArray⟩] 34)) (.cells #[.int .u8 oo, .int .u32 0, .int .u64 0] 42))
  have hM2 := hmw.1
  have hW2 := hmw.2
  have hpl : L.p < w.heap.size := World.block_lt_of_cell? _ _ hM.m0
  have hbe : Below L.p w ((w.alloc (.cells #[.int .i64 K, .int .i64 4, .int .i64 B, .int .i64 C, .string ⟨S.toArray⟩, .string ⟨T.toArray⟩] 34)).alloc (.cells #[.int .u8 oo, .int .u32 0, .int .u64 0] 42)) := ((Below.refl _ _).alloc (by omega) _).alloc (by simp; omega) _
  have o1 := hW.o1
  have o2 := hW.o2
  have o3 := hW.o3
  have o4 := hW.o4
  have o7 := hW.o7
  have hsz : w.heap.size + 1 < ((w.alloc (.cells #[.int .i64 K, .int .i64 4, .int .i64 B, .int .i64 C, .string ⟨S.toArray⟩, .string ⟨T.toArray⟩] 34)).alloc (.cells #[.int .u8 oo, .int .u32 0, .int .u64 0] 42)).heap.size := by simp
  have x1 := (oldc (ob := .cells #[.int .u8 oo, .int .u32 0, .int .u64 0] 42) (o := 1) (w := w.alloc (.cells #[.int .i64 K, .int .i64 4, .int .i64 B, .int .i64 C, .string ⟨S.toArray⟩, .string ⟨T.toArray⟩] 34)) (b := w.heap.size) (by simp)).trans (World.cell?_alloc_new w #[.int .i64 K, .int .i64 4, .int .i64 B, .int .i64 C, .string ⟨S.toArray⟩, .string ⟨T.toArray⟩] 34 1)
  have x2 := (oldc (ob := .cells #[.int .u8 oo, .int .u32 0, .int .u64 0] 42) (o := 2) (w := w.alloc (.cells #[.int .i64 K, .int .i64 4, .int .i64 B, .int .i64 C, .string ⟨S.toArray⟩, .string ⟨T.toArray⟩] 34)) (b := w.heap.size) (by simp)).trans (World.cell?_alloc_new w #[.int .i64 K, .int .i64 4, .int .i64 B, .int .i64 C, .string ⟨S.toArray⟩, .string ⟨T.toArray⟩] 34 2)
  have x3 := (oldc (ob := .cells #[.int .u8 oo, .int .u32 0, .int .u64 0] 42) (o := 3) (w := w.alloc (.cells #[.int .i64 K, .int .i64 4, .int .i64 B, .int .i64 C, .string ⟨S.toArray⟩, .string ⟨T.toArray⟩] 34)) (b := w.heap.size) (by simp)).trans (World.cell?_alloc_new w #[.int .i64 K, .int .i64 4, .int .i64 B, .int .i64 C, .string ⟨S.toArray⟩, .string ⟨T.toArray⟩] 34 3)
  have x4 := (oldc (ob := .cells #[.int .u8 oo, .int .u32 0, .int .u64 0] 42) (o := 4) (w := w.alloc (.cells #[.int .i64 K, .int .i64 4, .int .i64 B, .int .i64 C, .string ⟨S.toArray⟩, .string ⟨T.toArray⟩] 34)) (b := w.heap.size) (by simp)).trans (World.cell?_alloc_new w #[.int .i64 K, .int .i64 4, .int .i64 B, .int .i64 C, .string ⟨S.toArray⟩, .string ⟨T.toArray⟩] 34 4)
  have x5 := (oldc (ob := .cells #[.int .u8 oo, .int .u32 0, .int .u64 0] 42) (o := 5) (w := w.alloc (.cells #[.int .i64 K, .int .i64 4, .int .i64 B, .int .i64 C, .string ⟨S.toArray⟩, .string ⟨T.toArray⟩] 34)) (b := w.heap.size) (by simp)).trans (World.cell?_alloc_new w #[.int .i64 K, .int .i64 4, .int .i64 B, .int .i64 C, .string ⟨S.toArray⟩, .string ⟨T.toArray⟩] 34 5)
  have y0 := World.cell?_alloc_new (w.alloc (.cells #[.int .i64 K, .int .i64 4, .int .i64 B, .int .i64 C, .string ⟨S.toArray⟩, .string ⟨T.toArray⟩] 34)) #[.int .u8 oo, .int .u32 0, .int .u64 0] 42 0
  have y1 := World.cell?_alloc_new (w.alloc (.cells #[.int .i64 K, .int .i64 4, .int .i64 B, .int .i64 C, .string ⟨S.toArray⟩, .string ⟨T.toArray⟩] 34)) #[.int .u8 oo, .int .u32 0, .int .u64 0] 42 1
  have y2 := World.cell?_alloc_new (w.alloc (.cells #[.int .i64 K, .int .i64 4, .int .i64 B, .int .i64 C, .string ⟨S.toArray⟩, .string ⟨T.toArray⟩] 34)) #[.int .u8 oo, .int .u32 0, .int .u64 0] 42 2
  simp only [World.size_alloc] at y0 y1 y2
  simp only [List.getElem?_toArray, List.getElem?_cons_zero, List.getElem?_cons_succ] at x1 x2 x3 x4 x5 y0 y1 y2
  have c3 := hM2.m5
  have c4 := hM2.m6
  have z3 := hW2.fp 5
  have z4 := hW2.fp 6
  have dB : decide (0 ≤ B) = true := by simp [hB]
  have dC : decide (-1 ≤ C) = true := by simp [hC]
  all_goals go_enter Try.func39, Try.ntmps39
  all_goals go_upto_region 19 with fail
  all_goals (generalize ((w.alloc (.cells #[.int .i64 K, .int .i64 4, .int .i64 B, .int .i64 C, .string ⟨S.toArray⟩, .string ⟨T.toArray⟩] 34)).alloc (.cells #[.int .u8 oo, .int .u32 0, .int .u64 0] 42)) = W at *)
  all_goals clear hoo
  all_goals (generalize w.heap.size = nb at *)
  all_goals (have np : ¬ L.p = W.heap.size := by omega)
  all_goals (have np2 : ¬ nb = W.heap.size := by omega)
  all_goals (have np3 : ¬ L.p = nb := by omega)
  all_goals (have np4 : ¬ nb = L.p := by omega)
  all_goals go_upto_region 21 with fail
  all_goals (have hmw1 := ModAt.setMemMin hM2 hW2 B)
  all_goals (have hmw3 := ModAt.setMemMax hmw1.1 hmw1.2 C)
  all_goals (have hbe1 := (hbe.setCell (p := ⟨L.p, 5, none⟩) (Nat.le_refl _) (.int .i64 B)).setCell (p := ⟨L.p, 6, none⟩) (Nat.le_refl _) (.int .i64 C))
  all_goals (have hsz1 : nb + 1 < ((W.setCell ⟨L.p, 5, none⟩ (.int .i64 B)).setCell ⟨L.p, 6, none⟩ (.int .i64 C)).heap.size := by simpa using hsz)
  all_goals (have x2a : ((W.setCell ⟨L.p, 5, none⟩ (.int .i64 B)).setCell ⟨L.p, 6, none⟩ (.int .i64 C)).cell? ⟨nb, 2, none⟩ = some (.int .i64 B) := by rw [apartc np3, apartc np3]; exact x2)
  all_goals (have x3a : ((W.setCell ⟨L.p, 5, none⟩ (.int .i64 B)).setCell ⟨L.p, 6, none⟩ (.int .i64 C)).cell? ⟨nb, 3, none⟩ = some (.int .i64 C) := by rw [apartc np3, apartc np3]; exact x3)
  all_goals (generalize ((W.setCell ⟨L.p, 5, none⟩ (.int .i64 B)).setCell ⟨L.p, 6, none⟩ (.int .i64 C)) = W1 at *)
  all_goals clear c3 c4 z3 z4 x1 x2 x3 x4 x5 y0 y1 y2 hmw hM2 hW2 hmw1
  all_goals (have c8a : ∀ ob, (W1.alloc ob).cell? ⟨L.p, 8, none⟩ = some (.slice L.xa M.exps.length L.xc) := fun ob => (oldc (by omega)).trans hmw3.1.m8)
  all_goals (have z8a : ∀ ob, (W1.alloc ob).frozen? ⟨L.p, 8, none⟩ = false := fun ob => (ModAt.allocW hmw3 ob).2.fp 8)
  all_goals (have x2b : ∀ ob, (W1.alloc ob).cell? ⟨nb, 2, none⟩ = some (.int .i64 B) := fun ob => (oldc (by omega)).trans x2a)
  all_goals (have x3b : ∀ ob, (W1.alloc ob).cell? ⟨nb, 3, none⟩ = some (.int .i64 C) := fun ob => (oldc (by omega)).trans x3a)
  all_goals (go_wp2_with (go_at_call 59; refine (limited_any B C 6 _).mono ?_; rintro e w1 ⟨rfl, rfl⟩))
  all_goals go_quiet (fail)
  all_goals go_wp2
  all_goals go_ret3
  all_goals (have ha := ModAt.allocW hmw3 (.cells #[.string ⟨#[97]⟩, .int .u8 2, .int .u32 0] 106))
  all_goals (have hx := ModAt.setExps ha.1 ha.2 [⟨[97], 2, 0⟩] W1.heap.size 1 (by have := hmw3.2.o7; exact this) (one3 (World.cell?_alloc_new _ _ _ 0)) (one3 (World.cell?_alloc_new _ _ _ 1)) (one3 (World.cell?_alloc_new _ _ _ 2)))
  all_goals exact ⟨rfl, ⟨_, (by rfl), ModAt.drewNW hx _⟩, drewNB ((hbe1.alloc (by omega) _).setCell (Nat.le_refl _) _) _⟩

end
end Go.Proofs.Qxb6500273a
