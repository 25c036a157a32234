/-
  WALKS: turned.
-/
import Derived.Test.Qxb6500273aTurned0
import Derived.Deep.Cut
set_option linter.unusedVariables false
set_option linter.unusedSimpArgs false
namespace Go.Proofs.Qxb6500273a
open Go.RowKit

section
variable (bv : Nat) (L : Lay) (M : Md) (K A B C : Int) (S T : List UInt8) (w : World)

set_option maxRecDepth 100000 in
set_option maxHeartbeats 1000000 in
theorem turned_export_not (hM : ModAt w bv L M) (hW : ModW w L M) (hn : B < 0 ∨ 3 < B ∨ u32F C = false) : TurnedNot L K 6 B C S T w := by
  unfold TurnedNot
  obtain ⟨oo, hoo⟩ : ∃ oo, offOp C = oo := ⟨_, rfl⟩
  have HOO : Hid (offOp C = oo) := hoo
  unfold offOp at hoo
  have hmw := (ModAt.allocW (ModAt.allocW ⟨hM, hW⟩ (.cells #[.int .i64 K, .int .i64 6, .int .i64 B, .int .i64 C, .string ⟨S.toArray⟩, .string ⟨T.toArray⟩] 34)) (.cells #[.int .u8 oo, .int .u32 0, .int .u64 0] 42))
  have hM2 := hmw.1
  have hW2 := hmw.2
  have hpl : L.p < w.heap.size := World.block_lt_of_cell? _ _ hM.m0
  have hbe : Below L.p w ((w.alloc (.cells #[.int .i64 K, .int .i64 6, .int .i64 B, .int .i64 C, .string ⟨S.toArray⟩, .string ⟨T.toArray⟩] 34)).alloc (.cells #[.int .u8 oo, .int .u32 0, .int .u64 0] 42)) := ((Below.refl _ _).alloc (by omega) _).alloc (by simp; omega) _
  have o1 := hW.o1
  have o2 := hW.o2
  have o3 := hW.o3
  have o4 := hW.o4
  have o7 := hW.o7
  have HU : ∀ wx, _ := fun wx => u32_any C wx
  by_cases hq : u32F C = false
  · rw [hq] at HU
    clear hn
    go_enter Try.func39, Try.ntmps39
    go_wp2_with (go_at_call 40; refine (HU _).mono ?_; rintro e w1 ⟨rfl, rfl⟩)
    all_goals go_ret3
    all_goals exact ⟨⟨_, _, rfl⟩, hbe⟩
  have hn2 : B < 0 ∨ 3 < B := by
    rcases hn with h | h | h
    · exact .inl h
    · exact .inr h
    · exact absurd h hq
  clear hn hq
  rcases hn2 with hn | hn
  · go_enter Try.func39, Try.ntmps39
    go_wp2_with (go_at_call 40; refine (HU _).mono ?_; rintro e w1 ⟨rfl, rfl⟩)
    all_goals go_ret3
    all_goals exact ⟨⟨_, _, rfl⟩, hbe⟩
  go_enter Try.func39, Try.ntmps39
  go_wp2_with (go_at_call 40; refine (HU _).mono ?_; rintro e w1 ⟨rfl, rfl⟩)
  all_goals go_ret3
  all_goals exact ⟨⟨_, _, rfl⟩, hbe⟩

set_option maxRecDepth 100000 in
set_option maxHeartbeats 1000000 in
theorem turned_twins_not (hM : ModAt w bv L M) (hW : ModW w L M) (hs1 : S.length ≤ maxLen) (ht1 : T.length ≤ maxLen) (hn : 8 < S.length ∨ 8 < T.length) : TurnedNot L K 7 B C S T w := by
  unfold TurnedNot
  obtain ⟨oo, hoo⟩ : ∃ oo, offOp C = oo := ⟨_, rfl⟩
  have HOO : Hid (offOp C = oo) := hoo
  unfold offOp at hoo
  have hmw := (ModAt.allocW (ModAt.allocW ⟨hM, hW⟩ (.cells #[.int .i64 K, .int .i64 7, .int .i64 B, .int .i64 C, .string ⟨S.toArray⟩, .string ⟨T.toArray⟩] 34)) (.cells #[.int .u8 oo, .int .u32 0, .int .u64 0] 42))
  have hM2 := hmw.1
  have hW2 := hmw.2
  have hpl : L.p < w.heap.size := World.block_lt_of_cell? _ _ hM.m0
  have hbe : Below L.p w ((w.alloc (.cells #[.int .i64 K, .int .i64 7, .int .i64 B, .int .i64 C, .string ⟨S.toArray⟩, .string ⟨T.toArray⟩] 34)).alloc (.cells #[.int .u8 oo, .int .u32 0, .int .u64 0] 42)) := ((Below.refl _ _).alloc (by omega) _).alloc (by simp; omega) _
  have o1 := hW.o1
  have o2 := hW.o2
  have o3 := hW.o3
  have o4 := hW.o4
  have o7 := hW.o7
  rcases hn with hn | hn
  all_goals go_enter Try.func39, Try.ntmps39
  all_goals go_wp2_with fail
  all_goals go_ret3
  all_goals exact ⟨⟨_, _, rfl⟩, hbe⟩

set_option maxRecDepth 100000 in
set_option maxHeartbeats 1000000 in
theorem turned_global0 (hM : ModAt w bv L M) (hW : ModW w L M) (hC0 : 0 ≤ C) (hC3 : C ≤ 3) : TurnedTo bv L K 5 0 C S T w (if C = 0 then 0 else 0) (if C = 0 then 0 else 27) { M with gin := upd M.gin 0 (offOp C) } := by
  unfold TurnedTo
  obtain ⟨oo, hoo⟩ : ∃ oo, offOp C = oo := ⟨_, rfl⟩
  have hoo' := hoo
  unfold offOp at hoo
  have hmw := (ModAt.allocW (ModAt.allocW ⟨hM, hW⟩ (.cells #[.int .i64 K, .int .i64 5, .int .i64 0, .int .i64 C, .string ⟨S.toArray⟩, .string ⟨T.toArray⟩] 34)) (.cells #[.int .u8 oo, .int .u32 0, .int .u64 0] 42))
  have hM2 := hmw.1
  have hW2 := hmw.2
  have hpl : L.p < w.heap.size := World.block_lt_of_cell? _ _ hM.m0
  have hbe : Below L.p w ((w.alloc (.cells #[.int .i64 K, .int .i64 5, .int .i64 0, .int .i64 C, .string ⟨S.toArray⟩, .string ⟨T.toArray⟩] 34)).alloc (.cells #[.int .u8 oo, .int .u32 0, .int .u64 0] 42)) := ((Below.refl _ _).alloc (by omega) _).alloc (by simp; omega) _
  have o1 := hW.o1
  have o2 := hW.o2
  have o3 := hW.o3
  have o4 := hW.o4
  have o7 := hW.o7
  have hcase : ((0 != C) = false ∧ (if C = 0 then (0 : Int) else 0) = 0 ∧ (if C = 0 then (0 : Int) else 27) = 0) ∨ ((0 != C) = true ∧ (if C = 0 then (0 : Int) else 0) = 0 ∧ (if C = 0 then (0 : Int) else 27) = 27) := by
    by_cases h1 : C = 0
    · exact .inl ⟨by rw [bne_eq_false_iff_eq]; exact h1.symm, by simp [h1], by simp [h1]⟩
    · exact .inr ⟨by rw [bne_iff_ne]; exact fun e => h1 e.symm, by simp [h1], by simp [h1]⟩
  generalize (if C = 0 then (0 : Int) else 0) = rw1 at *
  generalize (if C = 0 then (0 : Int) else 27) = wt at *
  rw [hoo']
  clear hoo'
  have dC0 : decide (0 ≤ C) = true := by simp [hC0]
  have dC3 : decide (C ≤ 3) = true := by simp [hC3]
  have hsz : w.heap.size + 1 < ((w.alloc (.cells #[.int .i64 K, .int .i64 5, .int .i64 0, .int .i64 C, .string ⟨S.toArray⟩, .string ⟨T.toArray⟩] 34)).alloc (.cells #[.int .u8 oo, .int .u32 0, .int .u64 0] 42)).heap.size := by simp
  have x1 := (oldc (ob := .cells #[.int .u8 oo, .int .u32 0, .int .u64 0] 42) (o := 1) (w := w.alloc (.cells #[.int .i64 K, .int .i64 5, .int .i64 0, .int .i64 C, .string ⟨S.toArray⟩, .string ⟨T.toArray⟩] 34)) (b := w.heap.size) (by simp)).trans (World.cell?_alloc_new w #[.int .i64 K, .int .i64 5, .int .i64 0, .int .i64 C, .string ⟨S.toArray⟩, .string ⟨T.toArray⟩] 34 1)
  have x2 := (oldc (ob := .cells #[.int .u8 oo, .int .u32 0, .int .u64 0] 42) (o := 2) (w := w.alloc (.cells #[.int .i64 K, .int .i64 5, .int .i64 0, .int .i64 C, .string ⟨S.toArray⟩, .string ⟨T.toArray⟩] 34)) (b := w.heap.size) (by simp)).trans (World.cell?_alloc_new w #[.int .i64 K, .int .i64 5, .int .i64 0, .int .i64 C, .string ⟨S.toArray⟩, .string ⟨T.toArray⟩] 34 2)
  have x3 := (oldc (ob := .cells #[.int .u8 oo, .int .u32 0, .int .u64 0] 42) (o := 3) (w := w.alloc (.cells #[.int .i64 K, .int .i64 5, .int .i64 0, .int .i64 C, .string ⟨S.toArray⟩, .string ⟨T.toArray⟩] 34)) (b := w.heap.size) (by simp)).trans (World.cell?_alloc_new w #[.int .i64 K, .int .i64 5, .int .i64 0, .int .i64 C, .string ⟨S.toArray⟩, .string ⟨T.toArray⟩] 34 3)
  have x4 := (oldc (ob := .cells #[.int .u8 oo, .int .u32 0, .int .u64 0] 42) (o := 4) (w := w.alloc (.cells #[.int .i64 K, .int .i64 5, .int .i64 0, .int .i64 C, .string ⟨S.toArray⟩, .string ⟨T.toArray⟩] 34)) (b := w.heap.size) (by simp)).trans (World.cell?_alloc_new w #[.int .i64 K, .int .i64 5, .int .i64 0, .int .i64 C, .string ⟨S.toArray⟩, .string ⟨T.toArray⟩] 34 4)
  have x5 := (oldc (ob := .cells #[.int .u8 oo, .int .u32 0, .int .u64 0] 42) (o := 5) (w := w.alloc (.cells #[.int .i64 K, .int .i64 5, .int .i64 0, .int .i64 C, .string ⟨S.toArray⟩, .string ⟨T.toArray⟩] 34)) (b := w.heap.size) (by simp)).trans (World.cell?_alloc_new w #[.int .i64 K, .int .i64 5, .int .i64 0, .int .i64 C, .string ⟨S.toArray⟩, .string ⟨T.toArray⟩] 34 5)
  have y0 := World.cell?_alloc_new (w.alloc (.cells #[.int .i64 K, .int .i64 5, .int .i64 0, .int .i64 C, .string ⟨S.toArray⟩, .string ⟨T.toArray⟩] 34)) #[.int .u8 oo, .int .u32 0, .int .u64 0] 42 0
  have y1 := World.cell?_alloc_new (w.alloc (.cells #[.int .i64 K, .int .i64 5, .int .i64 0, .int .i64 C, .string ⟨S.toArray⟩, .string ⟨T.toArray⟩] 34)) #[.int .u8 oo, .int .u32 0, .int .u64 0] 42 1
  have y2 := World.cell?_alloc_new (w.alloc (.cells #[.int .i64 K, .int .i64 5, .int .i64 0, .int .i64 C, .string ⟨S.toArray⟩, .string ⟨T.toArray⟩] 34)) #[.int .u8 oo, .int .u32 0, .int .u64 0] 42 2
  simp only [World.size_alloc] at y0 y1 y2
  simp only [List.getElem?_toArray, List.getElem?_cons_zero, List.getElem?_cons_succ] at x1 x2 x3 x4 x5 y0 y1 y2
  have m7 := hM2.m7
  have ci := hM2.g2 0 (by omega)
  obtain ⟨vx, cx⟩ := hW2.gx 0 (by omega)
  obtain ⟨vy, cy⟩ := hW2.gy 0 (by omega)
  have zi := hW2.fg 2
  have zx := hW2.fg 3
  have zy := hW2.fg 4
  simp only [Nat.reduceMul, Nat.reduceAdd, Nat.zero_add, Nat.zero_mul] at ci cx cy
  all_goals go_enter Try.func39, Try.ntmps39
  all_goals go_upto_region 27 with fail
  all_goals (generalize ((w.alloc (.cells #[.int .i64 K, .int .i64 5, .int .i64 0, .int .i64 C, .string ⟨S.toArray⟩, .string ⟨T.toArray⟩] 34)).alloc (.cells #[.int .u8 oo, .int .u32 0, .int .u64 0] 42)) = W at *)
  all_goals clear hoo
  all_goals (generalize w.heap.size = nb at *)
  all_goals (have np : ¬ L.p = W.heap.size := by omega)
  all_goals (have np2 : ¬ nb = W.heap.size := by omega)
  all_goals (have np3 : ¬ L.p = nb := by omega)
  all_goals (have np4 : ¬ nb = L.p := by omega)
  all_goals go_region_held3 (fun u => u.cell? ⟨L.p, 7, none⟩ = some (.slice (some ⟨L.gb, 0, none⟩) 4 L.gc) ∧ u.cell? ⟨nb, 2, none⟩ = some (.int .i64 0) ∧ u.cell? ⟨nb + 1, 0, none⟩ = some (.int .u8 oo) ∧ u.cell? ⟨nb + 1, 1, none⟩ = some (.int .u32 0) ∧ u.cell? ⟨nb + 1, 2, none⟩ = some (.int .u64 0)) (refine ⟨?_, ?_, ?_, ?_, ?_⟩ <;> simp only [World.cell?_drew] <;> (repeat (first | rw [pastc (by omega)] | rw [apartc (by omega)])) <;> (first | assumption | simp)) (fail)
  all_goals (have hend := ModAt.setGin hM2 hW2 0 (by omega) oo)
  all_goals (have hend1 := ModAt.setGx hend.1 hend.2 0 (.int .u32 0))
  all_goals (have hend2 := ModAt.drewW (ModAt.setGy hend1.1 hend1.2 0 (.int .u64 0)))
  all_goals (have hbe1 := (((hbe.setCell (p := ⟨L.gb, 2, none⟩) (by simp only []; omega) (.int .u8 oo)).setCell (p := ⟨L.gb, 3, none⟩) (by simp only []; omega) (.int .u32 0)).setCell (p := ⟨L.gb, 4, none⟩) (by simp only []; omega) (.int .u64 0)).drew)
  all_goals (have xa2 : ((((W.setCell ⟨L.gb, 2, none⟩ (.int .u8 oo)).setCell ⟨L.gb, 3, none⟩ (.int .u32 0)).setCell ⟨L.gb, 4, none⟩ (.int .u64 0)).drew).cell? ⟨nb, 2, none⟩ = some (.int .i64 0) := by rw [World.cell?_drew, apartc (by omega), apartc (by omega), apartc (by omega)]; exact x2)
  all_goals (have xa3 : ((((W.setCell ⟨L.gb, 2, none⟩ (.int .u8 oo)).setCell ⟨L.gb, 3, none⟩ (.int .u32 0)).setCell ⟨L.gb, 4, none⟩ (.int .u64 0)).drew).cell? ⟨nb, 3, none⟩ = some (.int .i64 C) := by rw [World.cell?_drew, apartc (by omega), apartc (by omega), apartc (by omega)]; exact x3)
  all_goals (generalize ((((W.setCell ⟨L.gb, 2, none⟩ (.int .u8 oo)).setCell ⟨L.gb, 3, none⟩ (.int .u32 0)).setCell ⟨L.gb, 4, none⟩ (.int .u64 0)).drew) = W1 at *)
  all_goals clear m7 ci zi cx cy zx zy x1 x2 x3 x4 x5 y0 y1 y2 hM2 hW2 hmw hend hend1
  all_goals (rcases hcase with ⟨h1, h2, h3⟩ | ⟨h1, h2, h3⟩)
  all_goals subst h2
  all_goals subst h3
  all_goals go_wp2
  all_goals go_ret3
  all_goals exact ⟨rfl, ⟨L, rfl, hend2⟩, hbe1⟩

set_option maxRecDepth 100000 in
set_option maxHeartbeats 1000000 in
theorem turned_global1 (hM : ModAt w bv L M) (hW : ModW w L M) (hC0 : 0 ≤ C) (hC3 : C ≤ 3) : TurnedTo bv L K 5 1 C S T w (if C = 1 then 0 else 1) (if C = 1 then 0 else 27) { M with gin := upd M.gin 1 (offOp C) } := by
  unfold TurnedTo
  obtain ⟨oo, hoo⟩ : ∃ oo, offOp C = oo := ⟨_, rfl⟩
  have hoo' := hoo
  unfold offOp at hoo
  have hmw := (ModAt.allocW (ModAt.allocW ⟨hM, hW⟩ (.cells #[.int .i64 K, .int .i64 5, .int .i64 1, .int .i64 C, .string ⟨S.toArray⟩, .string ⟨T.toArray⟩] 34)) (.cells #[.int .u8 oo, .int .u32 0, .int .u64 0] 42))
  have hM2 := hmw.1
  have hW2 := hmw.2
  have hpl : L.p < w.heap.size := World.block_lt_of_cell? _ _ hM.m0
  have hbe : Below L.p w ((w.alloc (.cells #[.int .i64 K, .int .i64 5, .int .i64 1, .int .i64 C, .string ⟨S.toArray⟩, .string ⟨T.toArray⟩] 34)).alloc (.cells #[.int .u8 oo, .int .u32 0, .int .u64 0] 42)) := ((Below.refl _ _).alloc (by omega) _).alloc (by simp; omega) _
  have o1 := hW.o1
  have o2 := hW.o2
  have o3 := hW.o3
  have o4 := hW.o4
  have o7 := hW.o7
  have hcase : ((1 != C) = false ∧ (if C = 1 then (0 : Int) else 1) = 0 ∧ (if C = 1 then (0 : Int) else 27) = 0) ∨ ((1 != C) = true ∧ (if C = 1 then (0 : Int) else 1) = 1 ∧ (if C = 1 then (0 : Int) else 27) = 27) := by
    by_cases h1 : C = 1
    · exact .inl ⟨by rw [bne_eq_false_iff_eq]; exact h1.symm, by simp [h1], by simp [h1]⟩
    · exact .inr ⟨by rw [bne_iff_ne]; exact fun e => h1 e.symm, by simp [h1], by simp [h1]⟩
  generalize (if C = 1 then (0 : Int) else 1) = rw1 at *
  generalize (if C = 1 then (0 : Int) else 27) = wt at *
  rw [hoo']
  clear hoo'
  have dC0 : decide (0 ≤ C) = true := by simp [hC0]
  have dC3 : decide (C ≤ 3) = true := by simp [hC3]
  have hsz : w.heap.size + 1 < ((w.alloc (.cells #[.int .i64 K, .int .i64 5, .int .i64 1, .int .i64 C, .string ⟨S.toArray⟩, .string ⟨T.toArray⟩] 34)).alloc (.cells #[.int .u8 oo, .int .u32 0, .int .u64 0] 42)).heap.size := by simp
  have x1 := (oldc (ob := .cells #[.int .u8 oo, .int .u32 0, .int .u64 0] 42) (o := 1) (w := w.alloc (.cells #[.int .i64 K, .int .i64 5, .int .i64 1, .int .i64 C, .string ⟨S.toArray⟩, .string ⟨T.toArray⟩] 34)) (b := w.heap.size) (by simp)).trans (World.cell?_alloc_new w #[.int .i64 K, .int .i64 5, .int .i64 1, .int .i64 C, .string ⟨S.toArray⟩, .string ⟨T.toArray⟩] 34 1)
  have x2 := (oldc (ob := .cells #[.int .u8 oo, .int .u32 0, .int .u64 0] 42) (o := 2) (w := w.alloc (.cells #[.int .i64 K, .int .i64 5, .int .i64 1, .int .i64 C, .string ⟨S.toArray⟩, .string ⟨T.toArray⟩] 34)) (b := w.heap.size) (by simp)).trans (World.cell?_alloc_new w #[.int .i64 K, .int .i64 5, .int .i64 1, .int .i64 C, .string ⟨S.toArray⟩, .string ⟨T.toArray⟩] 34 2)
  have x3 := (oldc (ob := .cells #[.int .u8 oo, .int .u32 0, .int .u64 0] 42) (o := 3) (w := w.alloc (.cells #[.int .i64 K, .int .i64 5, .int .i64 1, .int .i64 C, .string ⟨S.toArray⟩, .string ⟨T.toArray⟩] 34)) (b := w.heap.size) (by simp)).trans (World.cell?_alloc_new w #[.int .i64 K, .int .i64 5, .int .i64 1, .int .i64 C, .string ⟨S.toArray⟩, .string ⟨T.toArray⟩] 34 3)
  have x4 := (oldc (ob := .cells #[.int .u8 oo, .int .u32 0, .int .u64 0] 42) (o := 4) (w := w.alloc (.cells #[.int .i64 K, .int .i64 5, .int .i64 1, .int .i64 C, .string ⟨S.toArray⟩, .string ⟨T.toArray⟩] 34)) (b := w.heap.size) (by simp)).trans (World.cell?_alloc_new w #[.int .i64 K, .int .i64 5, .int .i64 1, .int .i64 C, .string ⟨S.toArray⟩, .string ⟨T.toArray⟩] 34 4)
  have x5 := (oldc (ob := .cells #[.int .u8 oo, .int .u32 0, .int .u64 0] 42) (o := 5) (w := w.alloc (.cells #[.int .i64 K, .int .i64 5, .int .i64 1, .int .i64 C, .string ⟨S.toArray⟩, .string ⟨T.toArray⟩] 34)) (b := w.heap.size) (by simp)).trans (World.cell?_alloc_new w #[.int .i64 K, .int .i64 5, .int .i64 1, .int .i64 C, .string ⟨S.toArray⟩, .string ⟨T.toArray⟩] 34 5)
  have y0 := World.cell?_alloc_new (w.alloc (.cells #[.int .i64 K, .int .i64 5, .int .i64 1, .int .i64 C, .string ⟨S.toArray⟩, .string ⟨T.toArray⟩] 34)) #[.int .u8 oo, .int .u32 0, .int .u64 0] 42 0
  have y1 := World.cell?_alloc_new (w.alloc (.cells #[.int .i64 K, .int .i64 5, .int .i64 1, .int .i64 C, .string ⟨S.toArray⟩, .string ⟨T.toArray⟩] 34)) #[.int .u8 oo, .int .u32 0, .int .u64 0] 42 1
  have y2 := World.cell?_alloc_new (w.alloc (.cells #[.int .i64 K, .int .i64 5, .int .i64 1, .int .i64 C, .string ⟨S.toArray⟩, .string ⟨T.toArray⟩] 34)) #[.int .u8 oo, .int .u32 0, .int .u64 0] 42 2
  simp only [World.size_alloc] at y0 y1 y2
  simp only [List.getElem?_toArray, List.getElem?_cons_zero, List.getElem?_cons_succ] at x1 x2 x3 x4 x5 y0 y1 y2
  have m7 := hM2.m7
  have ci := hM2.g2 1 (by omega)
  obtain ⟨vx, cx⟩ := hW2.gx 1 (by omega)
  obtain ⟨vy, cy⟩ := hW2.gy 1 (by omega)
  have zi := hW2.fg 7
  have zx := hW2.fg 8
  have zy := hW2.fg 9
  simp only [Nat.reduceMul, Nat.reduceAdd, Nat.zero_add, Nat.zero_mul] at ci cx cy
  all_goals go_enter Try.func39, Try.ntmps39
  all_goals go_upto_region 27 with fail
  all_goals (generalize ((w.alloc (.cells #[.int .i64 K, .int .i64 5, .int .i64 1, .int .i64 C, .string ⟨S.toArray⟩, .string ⟨T.toArray⟩] 34)).alloc (.cells #[.int .u8 oo, .int .u32 0, .int .u64 0] 42)) = W at *)
  all_goals clear hoo
  all_goals (generalize w.heap.size = nb at *)
  all_goals (have np : ¬ L.p = W.heap.size := by omega)
  all_goals (have np2 : ¬ nb = W.heap.size := by omega)
  all_goals (have np3 : ¬ L.p = nb := by omega)
  all_goals (have np4 : ¬ nb = L.p := by omega)
  all_goals go_region_held3 (fun u => u.cell? ⟨L.p, 7, none⟩ = some (.slice (some ⟨L.gb, 0, none⟩) 4 L.gc) ∧ u.cell? ⟨nb, 2, none⟩ = some (.int .i64 1) ∧ u.cell? ⟨nb + 1, 0, none⟩ = some (.int .u8 oo) ∧ u.cell? ⟨nb + 1, 1, none⟩ = some (.int .u32 0) ∧ u.cell? ⟨nb + 1, 2, none⟩ = some (.int .u64 0)) (refine ⟨?_, ?_, ?_, ?_, ?_⟩ <;> simp only [World.cell?_drew] <;> (repeat (first | rw [pastc (by omega)] | rw [apartc (by omega)])) <;> (first | assumption | simp)) (fail)
  all_goals (have hend := ModAt.setGin hM2 hW2 1 (by omega) oo)
  all_goals (have hend1 := ModAt.setGx hend.1 hend.2 1 (.int .u32 0))
  all_goals (have hend2 := ModAt.drewW (ModAt.setGy hend1.1 hend1.2 1 (.int .u64 0)))
  all_goals (have hbe1 := (((hbe.setCell (p := ⟨L.gb, 7, none⟩) (by simp only []; omega) (.int .u8 oo)).setCell (p := ⟨L.gb, 8, none⟩) (by simp only []; omega) (.int .u32 0)).setCell (p := ⟨L.gb, 9, none⟩) (by simp only []; omega) (.int .u64 0)).drew)
  all_goals (have xa2 : ((((W.setCell ⟨L.gb, 7, none⟩ (.int .u8 oo)).setCell ⟨L.gb, 8, none⟩ (.int .u32 0)).setCell ⟨L.gb, 9, none⟩ (.int .u64 0)).drew).cell? ⟨nb, 2, none⟩ = some (.int .i64 1) := by rw [World.cell?_drew, apartc (by omega), apartc (by omega), apartc (by omega)]; exact x2)
  all_goals (have xa3 : ((((W.setCell ⟨L.gb, 7, none⟩ (.int .u8 oo)).setCell ⟨L.gb, 8, none⟩ (.int .u32 0)).setCell ⟨L.gb, 9, none⟩ (.int .u64 0)).drew).cell? ⟨nb, 3, none⟩ = some (.int .i64 C) := by rw [World.cell?_drew, apartc (by omega), apartc (by omega), apartc (by omega)]; exact x3)
  all_goals (generalize ((((W.setCell ⟨L.gb, 7, none⟩ (.int .u8 oo)).setCell ⟨L.gb, 8, none⟩ (.int .u32 0)).setCell ⟨L.gb, 9, none⟩ (.int .u64 0)).drew) = W1 at *)
  all_goals clear m7 ci zi cx cy zx zy x1 x2 x3 x4 x5 y0 y1 y2 hM2 hW2 hmw hend hend1
  all_goals (rcases hcase with ⟨h1, h2, h3⟩ | ⟨h1, h2, h3⟩)
  all_goals subst h2
  all_goals subst h3
  all_goals go_wp2
  all_goals go_ret3
  all_goals exact ⟨rfl, ⟨L, rfl, hend2⟩, hbe1⟩

set_option maxRecDepth 100000 in
set_option maxHeartbeats 1000000 in
theorem turned_global2 (hM : ModAt w bv L M) (hW : ModW w L M) (hC0 : 0 ≤ C) (hC3 : C ≤ 3) : TurnedTo bv L K 5 2 C S T w (if C = 2 then 0 else 2) (if C = 2 then 0 else 27) { M with gin := upd M.gin 2 (offOp C) } := by
  unfold TurnedTo
  obtain ⟨oo, hoo⟩ : ∃ oo, offOp C = oo := ⟨_, rfl⟩
  have hoo' := hoo
  unfold offOp at hoo
  have hmw := (ModAt.allocW (ModAt.allocW ⟨hM, hW⟩ (.cells #[.int .i64 K, .int .i64 5, .int .i64 2, .int .i64 C, .string ⟨S.toArray⟩, .string ⟨T.toArray⟩] 34)) (.cells #[.int .u8 oo, .int .u32 0, .int .u64 0] 42))
  have hM2 := hmw.1
  have hW2 := hmw.2
  have hpl : L.p < w.heap.size := World.block_lt_of_cell? _ _ hM.m0
  have hbe : Below L.p w ((w.alloc (.cells #[.int .i64 K, .int .i64 5, .int .i64 2, .int .i64 C, .string ⟨S.toArray⟩, .string ⟨T.toArray⟩] 34)).alloc (.cells #[.int .u8 oo, .int .u32 0, .int .u64 0] 42)) := ((Below.refl _ _).alloc (by omega) _).alloc (by simp; omega) _
  have o1 := hW.o1
  have o2 := hW.o2
  have o3 := hW.o3
  have o4 := hW.o4
  have o7 := hW.o7
  have hcase : ((2 != C) = false ∧ (if C = 2 then (0 : Int) else 2) = 0 ∧ (if C = 2 then (0 : Int) else 27) = 0) ∨ ((2 != C) = true ∧ (if C = 2 then (0 : Int) else 2) = 2 ∧ (if C = 2 then (0 : Int) else 27) = 27) := by
    by_cases h1 : C = 2
    · exact .inl ⟨by rw [bne_eq_false_iff_eq]; exact h1.symm, by simp [h1], by simp [h1]⟩
    · exact .inr ⟨by rw [bne_iff_ne]; exact fun e => h1 e.symm, by simp [h1], by simp [h1]⟩
  generalize (if C = 2 then (0 : Int) else 2) = rw1 at *
  generalize (if C = 2 then (0 : Int) else 27) = wt at *
  rw [hoo']
  clear hoo'
  have dC0 : decide (0 ≤ C) = true := by simp [hC0]
  have dC3 : decide (C ≤ 3) = true := by simp [hC3]
  have hsz : w.heap.size + 1 < ((w.alloc (.cells #[.int .i64 K, .int .i64 5, .int .i64 2, .int .i64 C, .string ⟨S.toArray⟩, .string ⟨T.toArray⟩] 34)).alloc (.cells #[.int .u8 oo, .int .u32 0, .int .u64 0] 42)).heap.size := by simp
  have x1 := (oldc (ob := .cells #[.int .u8 oo, .int .u32 0, .int .u64 0] 42) (o := 1) (w := w.alloc (.cells #[.int .i64 K, .int .i64 5, .int .i64 2, .int .i64 C, .string ⟨S.toArray⟩, .string ⟨T.toArray⟩] 34)) (b := w.heap.size) (by simp)).trans (World.cell?_alloc_new w #[.int .i64 K, .int .i64 5, .int .i64 2, .int .i64 C, .string ⟨S.toArray⟩, .string ⟨T.toArray⟩] 34 1)
  have x2 := (oldc (ob := .cells #[.int .u8 oo, .int .u32 0, .int .u64 0] 42) (o := 2) (w := w.alloc (.cells #[.int .i64 K, .int .i64 5, .int .i64 2, .int .i64 C, .string ⟨S.toArray⟩, .string ⟨T.toArray⟩] 34)) (b := w.heap.size) (by simp)).trans (World.cell?_alloc_new w #[.int .i64 K, .int .i64 5, .int .i64 2, .int .i64 C, .string ⟨S.toArray⟩, .string ⟨T.toArray⟩] 34 2)
  have x3 := (oldc (ob := .cells #[.int .u8 oo, .int .u32 0, .int .u64 0] 42) (o := 3) (w := w.alloc (.cells #[.int .i64 K, .int .i64 5, .int .i64 2, .int .i64 C, .string ⟨S.toArray⟩, .string ⟨T.toArray⟩] 34)) (b := w.heap.size) (by simp)).trans (World.cell?_alloc_new w #[.int .i64 K, .int .i64 5, .int .i64 2, .int .i64 C, .string ⟨S.toArray⟩, .string ⟨T.toArray⟩] 34 3)
  have x4 := (oldc (ob := .cells #[.int .u8 oo, .int .u32 0, .int .u64 0] 42) (o := 4) (w := w.alloc (.cells #[.int .i64 K, .int .i64 5, .int .i64 2, .int .i64 C, .string ⟨S.toArray⟩, .string ⟨T.toArray⟩] 34)) (b := w.heap.size) (by simp)).trans (World.cell?_alloc_new w #[.int .i64 K, .int .i64 5, .int .i64 2, .int .i64 C, .string ⟨S.toArray⟩, .string ⟨T.toArray⟩] 34 4)
  have x5 := (oldc (ob := .cells #[.int .u8 oo, .int .u32 0, .int .u64 0] 42) (o := 5) (w := w.alloc (.cells #[.int .i64 K, .int .i64 5, .int .i64 2, .int .i64 C, .string ⟨S.toArray⟩, .string ⟨T.toArray⟩] 34)) (b := w.heap.size) (by simp)).trans (World.cell?_alloc_new w #[.int .i64 K, .int .i64 5, .int .i64 2, .int .i64 C, .string ⟨S.toArray⟩, .string ⟨T.toArray⟩] 34 5)
  have y0 := World.cell?_alloc_new (w.alloc (.cells #[.int .i64 K, .int .i64 5, .int .i64 2, .int .i64 C, .string ⟨S.toArray⟩, .string ⟨T.toArray⟩] 34)) #[.int .u8 oo, .int .u32 0, .int .u64 0] 42 0
  have y1 := World.cell?_alloc_new (w.alloc (.cells #[.int .i64 K, .int .i64 5, .int .i64 2, .int .i64 C, .string ⟨S.toArray⟩, .string ⟨T.toArray⟩] 34)) #[.int .u8 oo, .int .u32 0, .int .u64 0] 42 1
  have y2 := World.cell?_alloc_new (w.alloc (.cells #[.int .i64 K, .int .i64 5, .int .i64 2, .int .i64 C, .string ⟨S.toArray⟩, .string ⟨T.toArray⟩] 34)) #[.int .u8 oo, .int .u32 0, .int .u64 0] 42 2
  simp only [World.size_alloc] at y0 y1 y2
  simp only [List.getElem?_toArray, List.getElem?_cons_zero, List.getElem?_cons_succ] at x1 x2 x3 x4 x5 y0 y1 y2
  have m7 := hM2.m7
  have ci := hM2.g2 2 (by omega)
  obtain ⟨vx, cx⟩ := hW2.gx 2 (by omega)
  obtain ⟨vy, cy⟩ := hW2.gy 2 (by omega)
  have zi := hW2.fg 12
  have zx := hW2.fg 13
  have zy := hW2.fg 14
  simp only [Nat.reduceMul, Nat.reduceAdd, Nat.zero_add, Nat.zero_mul] at ci cx cy
  all_goals go_enter Try.func39, Try.ntmps39
  all_goals go_upto_region 27 with fail
  all_goals (generalize ((w.alloc (.cells #[.int .i64 K, .int .i64 5, .int .i64 2, .int .i64 C, .string ⟨S.toArray⟩, .string ⟨T.toArray⟩] 34)).alloc (.cells #[.int .u8 oo, .int .u32 0, .int .u64 0] 42)) = W at *)
  all_goals clear hoo
  all_goals (generalize w.heap.size = nb at *)
  all_goals (have np : ¬ L.p = W.heap.size := by omega)
  all_goals (have np2 : ¬ nb = W.heap.size := by omega)
  all_goals (have np3 : ¬ L.p = nb := by omega)
  all_goals (have np4 : ¬ nb = L.p := by omega)
  all_goals go_region_held3 (fun u => u.cell? ⟨L.p, 7, none⟩ = some (.slice (some ⟨L.gb, 0, none⟩) 4 L.gc) ∧ u.cell? ⟨nb, 2, none⟩ = some (.int .i64 2) ∧ u.cell? ⟨nb + 1, 0, none⟩ = some (.int .u8 oo) ∧ u.cell? ⟨nb + 1, 1, none⟩ = some (.int .u32 0) ∧ u.cell? ⟨nb + 1, 2, none⟩ = some (.int .u64 0)) (refine ⟨?_, ?_, ?_, ?_, ?_⟩ <;> simp only [World.cell?_drew] <;> (repeat (first | rw [pastc (by omega)] | rw [apartc (by omega)])) <;> (first | assumption | simp)) (fail)
  all_goals (have hend := ModAt.setGin hM2 hW2 2 (by omega) oo)
  all_goals (have hend1 := ModAt.setGx hend.1 hend.2 2 (.int .u32 0))
  all_goals (have hend2 := ModAt.drewW (ModAt.setGy hend1.1 hend1.2 2 (.int .u64 0)))
  all_goals (have hbe1 := (((hbe.setCell (p := ⟨L.gb, 12, none⟩) (by simp only []; omega) (.int .u8 oo)).setCell (p := ⟨L.gb, 13, none⟩) (by simp only []; omega) (.int .u32 0)).setCell (p := ⟨L.gb, 14, none⟩) (by simp only []; omega) (.int .u64 0)).drew)
  all_goals (have xa2 : ((((W.setCell ⟨L.gb, 12, none⟩ (.int .u8 oo)).setCell ⟨L.gb, 13, none⟩ (.int .u32 0)).setCell ⟨L.gb, 14, none⟩ (.int .u64 0)).drew).cell? ⟨nb, 2, none⟩ = some (.int .i64 2) := by rw [World.cell?_drew, apartc (by omega), apartc (by omega), apartc (by omega)]; exact x2)
  all_goals (have xa3 : ((((W.setCell ⟨L.gb, 12, none⟩ (.int .u8 oo)).setCell ⟨L.gb, 13, none⟩ (.int .u32 0)).setCell ⟨L.gb, 14, none⟩ (.int .u64 0)).drew).cell? ⟨nb, 3, none⟩ = some (.int .i64 C) := by rw [World.cell?_drew, apartc (by omega), apartc (by omega), apartc (by omega)]; exact x3)
  all_goals (generalize ((((W.setCell ⟨L.gb, 12, none⟩ (.int .u8 oo)).setCell ⟨L.gb, 13, none⟩ (.int .u32 0)).setCell ⟨L.gb, 14, none⟩ (.int .u64 0)).drew) = W1 at *)
  all_goals clear m7 ci zi cx cy zx zy x1 x2 x3 x4 x5 y0 y1 y2 hM2 hW2 hmw hend hend1
  all_goals (rcases hcase with ⟨h1, h2, h3⟩ | ⟨h1, h2, h3⟩)
  all_goals subst h2
  all_goals subst h3
  all_goals go_wp2
  all_goals go_ret3
  all_goals exact ⟨rfl, ⟨L, rfl, hend2⟩, hbe1⟩

set_option maxRecDepth 100000 in
set_option maxHeartbeats 1000000 in
theorem turned_global3 (hM : ModAt w bv L M) (hW : ModW w L M) (hC0 : 0 ≤ C) (hC3 : C ≤ 3) : TurnedTo bv L K 5 3 C S T w (if C = 3 then 0 else 3) (if C = 3 then 0 else 27) { M with gin := upd M.gin 3 (offOp C) } := by
  unfold TurnedTo
  obtain ⟨oo, hoo⟩ : ∃ oo, offOp C = oo := ⟨_, rfl⟩
  have hoo' := hoo
  unfold offOp at hoo
  have hmw := (ModAt.allocW (ModAt.allocW ⟨hM, hW⟩ (.cells #[.int .i64 K, .int .i64 5, .int .i64 3, .int .i64 C, .string ⟨S.toArray⟩, .string ⟨T.toArray⟩] 34)) (.cells #[.int .u8 oo, .int .u32 0, .int .u64 0] 42))
  have hM2 := hmw.1
  have hW2 := hmw.2
  have hpl : L.p < w.heap.size := World.block_lt_of_cell? _ _ hM.m0
  have hbe : Below L.p w ((w.alloc (.cells #[.int .i64 K, .int .i64 5, .int .i64 3, .int .i64 C, .string ⟨S.toArray⟩, .string ⟨T.toArray⟩] 34)).alloc (.cells #[.int .u8 oo, .int .u32 0, .int .u64 0] 42)) := ((Below.refl _ _).alloc (by omega) _).alloc (by simp; omega) _
  have o1 := hW.o1
  have o2 := hW.o2
  have o3 := hW.o3
  have o4 := hW.o4
  have o7 := hW.o7
  have hcase : ((3 != C) = false ∧ (if C = 3 then (0 : Int) else 3) = 0 ∧ (if C = 3 then (0 : Int) else 27) = 0) ∨ ((3 != C) = true ∧ (if C = 3 then (0 : Int) else 3) = 3 ∧ (if C = 3 then (0 : Int) else 27) = 27) := by
    by_cases h1 : C = 3
    · exact .inl ⟨by rw [bne_eq_false_iff_eq]; exact h1.symm, by simp [h1], by simp [h1]⟩
    · exact .inr ⟨by rw [bne_iff_ne]; exact fun e => h1 e.symm, by simp [h1], by simp [h1]⟩
  generalize (if C = 3 then (0 : Int) else 3) = rw1 at *
  generalize (if C = 3 then (0 : Int) else 27) = wt at *
  rw [hoo']
  clear hoo'
  have dC0 : decide (0 ≤ C) = true := by simp [hC0]
  have dC3 : decide (C ≤ 3) = true := by simp [hC3]
  have hsz : w.heap.size + 1 < ((w.alloc (.cells #[.int .i64 K, .int .i64 5, .int .i64 3, .int .i64 C, .string ⟨S.toArray⟩, .string ⟨T.toArray⟩] 34)).alloc (.cells #[.int .u8 oo, .int .u32 0, .int .u64 0] 42)).heap.size := by simp
  have x1 := (oldc (ob := .cells #[.int .u8 oo, .int .u32 0, .int .u64 0] 42) (o := 1) (w := w.alloc (.cells #[.int .i64 K, .int .i64 5, .int .i64 3, .int .i64 C, .string ⟨S.toArray⟩, .string ⟨T.toArray⟩] 34)) (b := w.heap.size) (by simp)).trans (World.cell?_alloc_new w #[.int .i64 K, .int .i64 5, .int .i64 3, .int .i64 C, .string ⟨S.toArray⟩, .string ⟨T.toArray⟩] 34 1)
  have x2 := (oldc (ob := .cells #[.int .u8 oo, .int .u32 0, .int .u64 0] 42) (o := 2) (w := w.alloc (.cells #[.int .i64 K, .int .i64 5, .int .i64 3, .int .i64 C, .string ⟨S.toArray⟩, .string ⟨T.toArray⟩] 34)) (b := w.heap.size) (by simp)).trans (World.cell?_alloc_new w #[.int .i64 K, .int .i64 5, .int .i64 3, .int .i64 C, .string ⟨S.toArray⟩, .string ⟨T.toArray⟩] 34 2)
  have x3 := (oldc (ob := .cells #[.int .u8 oo, .int .u32 0, .int .u64 0] 42) (o := 3) (w := w.alloc (.cells #[.int .i64 K, .int .i64 5, .int .i64 3, .int .i64 C, .string ⟨S.toArray⟩, .string ⟨T.toArray⟩] 34)) (b := w.heap.size) (by simp)).trans (World.cell?_alloc_new w #[.int .i64 K, .int .i64 5, .int .i64 3, .int .i64 C, .string ⟨S.toArray⟩, .string ⟨T.toArray⟩] 34 3)
  have x4 := (oldc (ob := .cells #[.int .u8 oo, .int .u32 0, .int .u64 0] 42) (o := 4) (w := w.alloc (.cells #[.int .i64 K, .int .i64 5, .int .i64 3, .int .i64 C, .string ⟨S.toArray⟩, .string ⟨T.toArray⟩] 34)) (b := w.heap.size) (by simp)).trans (World.cell?_alloc_new w #[.int .i64 K, .int .i64 5, .int .i64 3, .int .i64 C, .string ⟨S.toArray⟩, .string ⟨T.toArray⟩] 34 4)
  have x5 := (oldc (ob := .cells #[.int .u8 oo, .int .u32 0, .int .u64 0] 42) (o := 5) (w := w.alloc (.cells #[.int .i64 K, .int .i64 5, .int .i64 3, .int .i64 C, .string ⟨S.toArray⟩, .string ⟨T.toArray⟩] 34)) (b := w.heap.size) (by simp)).trans (World.cell?_alloc_new w #[.int .i64 K, .int .i64 5, .int .i64 3, .int .i64 C, .string ⟨S.toArray⟩, .string ⟨T.toArray⟩] 34 5)
  have y0 := World.cell?_alloc_new (w.alloc (.cells #[.int .i64 K, .int .i64 5, .int .i64 3, .int .i64 C, .string ⟨S.toArray⟩, .string ⟨T.toArray⟩] 34)) #[.int .u8 oo, .int .u32 0, .int .u64 0] 42 0
  have y1 := World.cell?_alloc_new (w.alloc (.cells #[.int .i64 K, .int .i64 5, .int .i64 3, .int .i64 C, .string ⟨S.toArray⟩, .string ⟨T.toArray⟩] 34)) #[.int .u8 oo, .int .u32 0, .int .u64 0] 42 1
  have y2 := World.cell?_alloc_new (w.alloc (.cells #[.int .i64 K, .int .i64 5, .int .i64 3, .int .i64 C, .string ⟨S.toArray⟩, .string ⟨T.toArray⟩] 34)) #[.int .u8 oo, .int .u32 0, .int .u64 0] 42 2
  simp only [World.size_alloc] at y0 y1 y2
  simp only [List.getElem?_toArray, List.getElem?_cons_zero, List.getElem?_cons_succ] at x1 x2 x3 x4 x5 y0 y1 y2
  have m7 := hM2.m7
  have ci := hM2.g2 3 (by omega)
  obtain ⟨vx, cx⟩ := hW2.gx 3 (by omega)
  obtain ⟨vy, cy⟩ := hW2.gy 3 (by omega)
  have zi := hW2.fg 17
  have zx := hW2.fg 18
  have zy := hW2.fg 19
  simp only [Nat.reduceMul, Nat.reduceAdd, Nat.zero_add, Nat.zero_mul] at ci cx cy
  all_goals go_enter Try.func39, Try.ntmps39
  all_goals go_upto_region 27 with fail
  all_goals (generalize ((w.alloc (.cells #[.int .i64 K, .int .i64 5, .int .i64 3, .int .i64 C, .string ⟨S.toArray⟩, .string ⟨T.toArray⟩] 34)).alloc (.cells #[.int .u8 oo, .int .u32 0, .int .u64 0] 42)) = W at *)
  all_goals clear hoo
  all_goals (generalize w.heap.size = nb at *)
  all_goals (have np : ¬ L.p = W.heap.size := by omega)
  all_goals (have np2 : ¬ nb = W.heap.size := by omega)
  all_goals (have np3 : ¬ L.p = nb := by omega)
  all_goals (have np4 : ¬ nb = L.p := by omega)
  all_goals go_region_held3 (fun u => u.cell? ⟨L.p, 7, none⟩ = some (.slice (some ⟨L.gb, 0, none⟩) 4 L.gc) ∧ u.cell? ⟨nb, 2, none⟩ = some (.int .i64 3) ∧ u.cell? ⟨nb + 1, 0, none⟩ = some (.int .u8 oo) ∧ u.cell? ⟨nb + 1, 1, none⟩ = some (.int .u32 0) ∧ u.cell? ⟨nb + 1, 2, none⟩ = some (.int .u64 0)) (refine ⟨?_, ?_, ?_, ?_, ?_⟩ <;> simp only [World.cell?_drew] <;> (repeat (first | rw [pastc (by omega)] | rw [apartc (by omega)])) <;> (first | assumption | simp)) (fail)
  all_goals (have hend := ModAt.setGin hM2 hW2 3 (by omega) oo)
  all_goals (have hend1 := ModAt.setGx hend.1 hend.2 3 (.int .u32 0))
  all_goals (have hend2 := ModAt.drewW (ModAt.setGy hend1.1 hend1.2 3 (.int .u64 0)))
  all_goals (have hbe1 := (((hbe.setCell (p := ⟨L.gb, 17, none⟩) (by simp only []; omega) (.int .u8 oo)).setCell (p := ⟨L.gb, 18, none⟩) (by simp only []; omega) (.int .u32 0)).setCell (p := ⟨L.gb, 19, none⟩) (by simp only []; omega) (.int .u64 0)).drew)
  all_goals (have xa2 : ((((W.setCell ⟨L.gb, 17, none⟩ (.int .u8 oo)).setCell ⟨L.gb, 18, none⟩ (.int .u32 0)).setCell ⟨L.gb, 19, none⟩ (.int .u64 0)).drew).cell? ⟨nb, 2, none⟩ = some (.int .i64 3) := by rw [World.cell?_drew, apartc (by omega), apartc (by omega), apartc (by omega)]; exact x2)
  all_goals (have xa3 : ((((W.setCell ⟨L.gb, 17, none⟩ (.int .u8 oo)).setCell ⟨L.gb, 18, none⟩ (.int .u32 0)).setCell ⟨L.gb, 19, none⟩ (.int .u64 0)).drew).cell? ⟨nb, 3, none⟩ = some (.int .i64 C) := by rw [World.cell?_drew, apartc (by omega), apartc (by omega), apartc (by omega)]; exact x3)
  all_goals (generalize ((((W.setCell ⟨L.gb, 17, none⟩ (.int .u8 oo)).setCell ⟨L.gb, 18, none⟩ (.int .u32 0)).setCell ⟨L.gb, 19, none⟩ (.int .u64 0)).drew) = W1 at *)
  all_goals clear m7 ci zi cx cy zx zy x1 x2 x3 x4 x5 y0 y1 y2 hM2 hW2 hmw hend hend1
  all_goals (rcases hcase with ⟨h1, h2, h3⟩ | ⟨h1, h2, h3⟩)
  all_goals subst h2
  all_goals subst h3
  all_goals go_wp2
  all_goals go_ret3
  all_goals exact ⟨rfl, ⟨L, rfl, hend2⟩, hbe1⟩

end
end Go.Proofs.Qxb6500273a
