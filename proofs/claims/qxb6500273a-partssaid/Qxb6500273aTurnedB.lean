/-
  WALKS: turned.
-/
import Derived.Test.Qxb6500273aTurned0
import Derived.Deep.Cut
set_option linter.unusedVariables false
set_option linter.unusedSimpArgs false
namespace Go.Proofs.Qxb6500273a
open Go.RowKit

section
variable (bv : Nat) (L : Lay) (M : Md) (K A B C : Int) (S T : List UInt8) (w : World)

set_option maxRecDepth 100000 in
set_option maxHeartbeats 1000000 in
theorem turned_table_not (hM : ModAt w bv L M) (hW : ModW w L M) (hn : B < 0 ∨ C < -1) : TurnedNot L K 3 B C S T w := by
  unfold TurnedNot
  obtain ⟨oo, hoo⟩ : ∃ oo, offOp C = oo := ⟨_, rfl⟩
  have HOO : Hid (offOp C = oo) := hoo
  unfold offOp at hoo
  have hmw := (ModAt.allocW (ModAt.allocW ⟨hM, hW⟩ (.cells #[.int .i64 K, .int .i64 3, .int .i64 B, .int .i64 C, .string ⟨S.toArray⟩, .string ⟨T.toArray⟩] 34)) (.cells #[.int .u8 oo, .int .u32 0, .int .u64 0] 42))
  have hM2 := hmw.1
  have hW2 := hmw.2
  have hpl : L.p < w.heap.size := World.block_lt_of_cell? _ _ hM.m0
  have hbe : Below L.p w ((w.alloc (.cells #[.int .i64 K, .int .i64 3, .int .i64 B, .int .i64 C, .string ⟨S.toArray⟩, .string ⟨T.toArray⟩] 34)).alloc (.cells #[.int .u8 oo, .int .u32 0, .int .u64 0] 42)) := ((Below.refl _ _).alloc (by omega) _).alloc (by simp; omega) _
  have o1 := hW.o1
  have o2 := hW.o2
  have o3 := hW.o3
  have o4 := hW.o4
  have o7 := hW.o7
  have hsz : w.heap.size + 1 < ((w.alloc (.cells #[.int .i64 K, .int .i64 3, .int .i64 B, .int .i64 C, .string ⟨S.toArray⟩, .string ⟨T.toArray⟩] 34)).alloc (.cells #[.int .u8 oo, .int .u32 0, .int .u64 0] 42)).heap.size := by simp
  have x1 := (oldc (ob := .cells #[.int .u8 oo, .int .u32 0, .int .u64 0] 42) (o := 1) (w := w.alloc (.cells #[.int .i64 K, .int .i64 3, .int .i64 B, .int .i64 C, .string ⟨S.toArray⟩, .string ⟨T.toArray⟩] 34)) (b := w.heap.size) (by simp)).trans (World.cell?_alloc_new w #[.int .i64 K, .int .i64 3, .int .i64 B, .int .i64 C, .string ⟨S.toArray⟩, .string ⟨T.toArray⟩] 34 1)
  have x2 := (oldc (ob := .cells #[.int .u8 oo, .int .u32 0, .int .u64 0] 42) (o := 2) (w := w.alloc (.cells #[.int .i64 K, .int .i64 3, .int .i64 B, .int .i64 C, .string ⟨S.toArray⟩, .string ⟨T.toArray⟩] 34)) (b := w.heap.size) (by simp)).trans (World.cell?_alloc_new w #[.int .i64 K, .int .i64 3, .int .i64 B, .int .i64 C, .string ⟨S.toArray⟩, .string ⟨T.toArray⟩] 34 2)
  have x3 := (oldc (ob := .cells #[.int .u8 oo, .int .u32 0, .int .u64 0] 42) (o := 3) (w := w.alloc (.cells #[.int .i64 K, .int .i64 3, .int .i64 B, .int .i64 C, .string ⟨S.toArray⟩, .string ⟨T.toArray⟩] 34)) (b := w.heap.size) (by simp)).trans (World.cell?_alloc_new w #[.int .i64 K, .int .i64 3, .int .i64 B, .int .i64 C, .string ⟨S.toArray⟩, .string ⟨T.toArray⟩] 34 3)
  have x4 := (oldc (ob := .cells #[.int .u8 oo, .int .u32 0, .int .u64 0] 42) (o := 4) (w := w.alloc (.cells #[.int .i64 K, .int .i64 3, .int .i64 B, .int .i64 C, .string ⟨S.toArray⟩, .string ⟨T.toArray⟩] 34)) (b := w.heap.size) (by simp)).trans (World.cell?_alloc_new w #[.int .i64 K, .int .i64 3, .int .i64 B, .int .i64 C, .string ⟨S.toArray⟩, .string ⟨T.toArray⟩] 34 4)
  have x5 := (oldc (ob := .cells #[.int .u8 oo, .int .u32 0, .int .u64 0] 42) (o := 5) (w := w.alloc (.cells #[.int .i64 K, .int .i64 3, .int .i64 B, .int .i64 C, .string ⟨S.toArray⟩, .string ⟨T.toArray⟩] 34)) (b := w.heap.size) (by simp)).trans (World.cell?_alloc_new w #[.int .i64 K, .int .i64 3, .int .i64 B, .int .i64 C, .string ⟨S.toArray⟩, .string ⟨T.toArray⟩] 34 5)
  have y0 := World.cell?_alloc_new (w.alloc (.cells #[.int .i64 K, .int .i64 3, .int .i64 B, .int .i64 C, .string ⟨S.toArray⟩, .string ⟨T.toArray⟩] 34)) #[.int .u8 oo, .int .u32 0, .int .u64 0] 42 0
  have y1 := World.cell?_alloc_new (w.alloc (.cells #[.int .i64 K, .int .i64 3, .int .i64 B, .int .i64 C, .string ⟨S.toArray⟩, .string ⟨T.toArray⟩] 34)) #[.int .u8 oo, .int .u32 0, .int .u64 0] 42 1
  have y2 := World.cell?_alloc_new (w.alloc (.cells #[.int .i64 K, .int .i64 3, .int .i64 B, .int .i64 C, .string ⟨S.toArray⟩, .string ⟨T.toArray⟩] 34)) #[.int .u8 oo, .int .u32 0, .int .u64 0] 42 2
  simp only [World.size_alloc] at y0 y1 y2
  simp only [List.getElem?_toArray, List.getElem?_cons_zero, List.getElem?_cons_succ] at x1 x2 x3 x4 x5 y0 y1 y2
  have c3 := hM2.m3
  have c4 := hM2.m4
  have z3 := hW2.fp 3
  have z4 := hW2.fp 4
  all_goals go_enter Try.func39, Try.ntmps39
  all_goals go_upto_region 13 with fail
  all_goals (generalize ((w.alloc (.cells #[.int .i64 K, .int .i64 3, .int .i64 B, .int .i64 C, .string ⟨S.toArray⟩, .string ⟨T.toArray⟩] 34)).alloc (.cells #[.int .u8 oo, .int .u32 0, .int .u64 0] 42)) = W at *)
  all_goals clear hoo
  all_goals (generalize w.heap.size = nb at *)
  all_goals (have np : ¬ L.p = W.heap.size := by omega)
  all_goals (have np2 : ¬ nb = W.heap.size := by omega)
  all_goals (have np3 : ¬ L.p = nb := by omega)
  all_goals (have np4 : ¬ nb = L.p := by omega)
  all_goals go_upto_region 15 with fail
  all_goals (have hmw1 := ModAt.setTabMin hM2 hW2 B)
  all_goals (have hmw3 := ModAt.setTabMax hmw1.1 hmw1.2 C)
  all_goals (have hbe1 := (hbe.setCell (p := ⟨L.p, 3, none⟩) (Nat.le_refl _) (.int .i64 B)).setCell (p := ⟨L.p, 4, none⟩) (Nat.le_refl _) (.int .i64 C))
  all_goals (have hsz1 : nb + 1 < ((W.setCell ⟨L.p, 3, none⟩ (.int .i64 B)).setCell ⟨L.p, 4, none⟩ (.int .i64 C)).heap.size := by simpa using hsz)
  all_goals (have x2a : ((W.setCell ⟨L.p, 3, none⟩ (.int .i64 B)).setCell ⟨L.p, 4, none⟩ (.int .i64 C)).cell? ⟨nb, 2, none⟩ = some (.int .i64 B) := by rw [apartc np3, apartc np3]; exact x2)
  all_goals (have x3a : ((W.setCell ⟨L.p, 3, none⟩ (.int .i64 B)).setCell ⟨L.p, 4, none⟩ (.int .i64 C)).cell? ⟨nb, 3, none⟩ = some (.int .i64 C) := by rw [apartc np3, apartc np3]; exact x3)
  all_goals (generalize ((W.setCell ⟨L.p, 3, none⟩ (.int .i64 B)).setCell ⟨L.p, 4, none⟩ (.int .i64 C)) = W1 at *)
  all_goals clear c3 c4 z3 z4 x1 x2 x3 x4 x5 y0 y1 y2 hmw hM2 hW2 hmw1
  all_goals (have c8a : ∀ ob, (W1.alloc ob).cell? ⟨L.p, 8, none⟩ = some (.slice L.xa M.exps.length L.xc) := fun ob => (oldc (by omega)).trans hmw3.1.m8)
  all_goals (have z8a : ∀ ob, (W1.alloc ob).frozen? ⟨L.p, 8, none⟩ = false := fun ob => (ModAt.allocW hmw3 ob).2.fp 8)
  all_goals (have x2b : ∀ ob, (W1.alloc ob).cell? ⟨nb, 2, none⟩ = some (.int .i64 B) := fun ob => (oldc (by omega)).trans x2a)
  all_goals (have x3b : ∀ ob, (W1.alloc ob).cell? ⟨nb, 3, none⟩ = some (.int .i64 C) := fun ob => (oldc (by omega)).trans x3a)
  all_goals (go_wp2_with (go_at_call 59; refine (limited_any B C 8 _).mono ?_; rintro e w1 ⟨rfl, rfl⟩))
  all_goals (have hbe2 := ((hbe1.alloc (by omega) (.cells #[.string ⟨#[97]⟩, .int .u8 1, .int .u32 0] 106)).setCell (p := ⟨L.p, 8, none⟩) (Nat.le_refl _) (.slice (some ⟨W1.heap.size, 0, none⟩) 1 1)))
  all_goals (by_cases hB : B < 0)
  all_goals (first | (have d1 : decide (0 ≤ B) = false := by (simp; omega)) | ((have d1 : decide (0 ≤ B) = true := by (simp; omega)); (have d2 : decide (-1 ≤ C) = false := by (simp; omega))))
  all_goals go_quiet (fail)
  all_goals go_wp2
  all_goals go_ret3
  all_goals exact ⟨⟨_, _, rfl⟩, drewNB hbe2 _⟩

set_option maxRecDepth 100000 in
set_option maxHeartbeats 1000000 in
theorem turned_memory_not (hM : ModAt w bv L M) (hW : ModW w L M) (hn : B < 0 ∨ C < -1) : TurnedNot L K 4 B C S T w := by
  unfold TurnedNot
  obtain ⟨oo, hoo⟩ : ∃ oo, offOp C = oo := ⟨_, rfl⟩
  have HOO : Hid (offOp C = oo) := hoo
  unfold offOp at hoo
  have hmw := (ModAt.allocW (ModAt.allocW ⟨hM, hW⟩ (.cells #[.int .i64 K, .int .i64 4, .int .i64 B, .int .i64 C, .string ⟨S.toArray⟩, .string ⟨T.toArray⟩] 34)) (.cells #[.int .u8 oo, .int .u32 0, .int .u64 0] 42))
  have hM2 := hmw.1
  have hW2 := hmw.2
  have hpl : L.p < w.heap.size := World.block_lt_of_cell? _ _ hM.m0
  have hbe : Below L.p w ((w.alloc (.cells #[.int .i64 K, .int .i64 4, .int .i64 B, .int .i64 C, .string ⟨S.toArray⟩, .string ⟨T.toArray⟩] 34)).alloc (.cells #[.int .u8 oo, .int .u32 0, .int .u64 0] 42)) := ((Below.refl _ _).alloc (by omega) _).alloc (by simp; omega) _
  have o1 := hW.o1
  have o2 := hW.o2
  have o3 := hW.o3
  have o4 := hW.o4
  have o7 := hW.o7
  have hsz : w.heap.size + 1 < ((w.alloc (.cells #[.int .i64 K, .int .i64 4, .int .i64 B, .int .i64 C, .string ⟨S.toArray⟩, .string ⟨T.toArray⟩] 34)).alloc (.cells #[.int .u8 oo, .int .u32 0, .int .u64 0] 42)).heap.size := by simp
  have x1 := (oldc (ob := .cells #[.int .u8 oo, .int .u32 0, .int .u64 0] 42) (o := 1) (w := w.alloc (.cells #[.int .i64 K, .int .i64 4, .int .i64 B, .int .i64 C, .string ⟨S.toArray⟩, .string ⟨T.toArray⟩] 34)) (b := w.heap.size) (by simp)).trans (World.cell?_alloc_new w #[.int .i64 K, .int .i64 4, .int .i64 B, .int .i64 C, .string ⟨S.toArray⟩, .string ⟨T.toArray⟩] 34 1)
  have x2 := (oldc (ob := .cells #[.int .u8 oo, .int .u32 0, .int .u64 0] 42) (o := 2) (w := w.alloc (.cells #[.int .i64 K, .int .i64 4, .int .i64 B, .int .i64 C, .string ⟨S.toArray⟩, .string ⟨T.toArray⟩] 34)) (b := w.heap.size) (by simp)).trans (World.cell?_alloc_new w #[.int .i64 K, .int .i64 4, .int .i64 B, .int .i64 C, .string ⟨S.toArray⟩, .string ⟨T.toArray⟩] 34 2)
  have x3 := (oldc (ob := .cells #[.int .u8 oo, .int .u32 0, .int .u64 0] 42) (o := 3) (w := w.alloc (.cells #[.int .i64 K, .int .i64 4, .int .i64 B, .int .i64 C, .string ⟨S.toArray⟩, .string ⟨T.toArray⟩] 34)) (b := w.heap.size) (by simp)).trans (World.cell?_alloc_new w #[.int .i64 K, .int .i64 4, .int .i64 B, .int .i64 C, .string ⟨S.toArray⟩, .string ⟨T.toArray⟩] 34 3)
  have x4 := (oldc (ob := .cells #[.int .u8 oo, .int .u32 0, .int .u64 0] 42) (o := 4) (w := w.alloc (.cells #[.int .i64 K, .int .i64 4, .int .i64 B, .int .i64 C, .string ⟨S.toArray⟩, .string ⟨T.toArray⟩] 34)) (b := w.heap.size) (by simp)).trans (World.cell?_alloc_new w #[.int .i64 K, .int .i64 4, .int .i64 B, .int .i64 C, .string ⟨S.toArray⟩, .string ⟨T.toArray⟩] 34 4)
  have x5 := (oldc (ob := .cells #[.int .u8 oo, .int .u32 0, .int .u64 0] 42) (o := 5) (w := w.alloc (.cells #[.int .i64 K, .int .i64 4, .int .i64 B, .int .i64 C, .string ⟨S.toArray⟩, .string ⟨T.toArray⟩] 34)) (b := w.heap.size) (by simp)).trans (World.cell?_alloc_new w #[.int .i64 K, .int .i64 4, .int .i64 B, .int .i64 C, .string ⟨S.toArray⟩, .string ⟨T.toArray⟩] 34 5)
  have y0 := World.cell?_alloc_new (w.alloc (.cells #[.int .i64 K, .int .i64 4, .int .i64 B, .int .i64 C, .string ⟨S.toArray⟩, .string ⟨T.toArray⟩] 34)) #[.int .u8 oo, .int .u32 0, .int .u64 0] 42 0
  have y1 := World.cell?_alloc_new (w.alloc (.cells #[.int .i64 K, .int .i64 4, .int .i64 B, .int .i64 C, .string ⟨S.toArray⟩, .string ⟨T.toArray⟩] 34)) #[.int .u8 oo, .int .u32 0, .int .u64 0] 42 1
  have y2 := World.cell?_alloc_new (w.alloc (.cells #[.int .i64 K, .int .i64 4, .int .i64 B, .int .i64 C, .string ⟨S.toArray⟩, .string ⟨T.toArray⟩] 34)) #[.int .u8 oo, .int .u32 0, .int .u64 0] 42 2
  simp only [World.size_alloc] at y0 y1 y2
  simp only [List.getElem?_toArray, List.getElem?_cons_zero, List.getElem?_cons_succ] at x1 x2 x3 x4 x5 y0 y1 y2
  have c3 := hM2.m5
  have c4 := hM2.m6
  have z3 := hW2.fp 5
  have z4 := hW2.fp 6
  all_goals go_enter Try.func39, Try.ntmps39
  all_goals go_upto_region 19 with fail
  all_goals (generalize ((w.alloc (.cells #[.int .i64 K, .int .i64 4, .int .i64 B, .int .i64 C, .string ⟨S.toArray⟩, .string ⟨T.toArray⟩] 34)).alloc (.cells #[.int .u8 oo, .int .u32 0, .int .u64 0] 42)) = W at *)
  all_goals clear hoo
  all_goals (generalize w.heap.size = nb at *)
  all_goals (have np : ¬ L.p = W.heap.size := by omega)
  all_goals (have np2 : ¬ nb = W.heap.size := by omega)
  all_goals (have np3 : ¬ L.p = nb := by omega)
  all_goals (have np4 : ¬ nb = L.p := by omega)
  all_goals go_upto_region 21 with fail
  all_goals (have hmw1 := ModAt.setMemMin hM2 hW2 B)
  all_goals (have hmw3 := ModAt.setMemMax hmw1.1 hmw1.2 C)
  all_goals (have hbe1 := (hbe.setCell (p := ⟨L.p, 5, none⟩) (Nat.le_refl _) (.int .i64 B)).setCell (p := ⟨L.p, 6, none⟩) (Nat.le_refl _) (.int .i64 C))
  all_goals (have hsz1 : nb + 1 < ((W.setCell ⟨L.p, 5, none⟩ (.int .i64 B)).setCell ⟨L.p, 6, none⟩ (.int .i64 C)).heap.size := by simpa using hsz)
  all_goals (have x2a : ((W.setCell ⟨L.p, 5, none⟩ (.int .i64 B)).setCell ⟨L.p, 6, none⟩ (.int .i64 C)).cell? ⟨nb, 2, none⟩ = some (.int .i64 B) := by rw [apartc np3, apartc np3]; exact x2)
  all_goals (have x3a : ((W.setCell ⟨L.p, 5, none⟩ (.int .i64 B)).setCell ⟨L.p, 6, none⟩ (.int .i64 C)).cell? ⟨nb, 3, none⟩ = some (.int .i64 C) := by rw [apartc np3, apartc np3]; exact x3)
  all_goals (generalize ((W.setCell ⟨L.p, 5, none⟩ (.int .i64 B)).setCell ⟨L.p, 6, none⟩ (.int .i64 C)) = W1 at *)
  all_goals clear c3 c4 z3 z4 x1 x2 x3 x4 x5 y0 y1 y2 hmw hM2 hW2 hmw1
  all_goals (have c8a : ∀ ob, (W1.alloc ob).cell? ⟨L.p, 8, none⟩ = some (.slice L.xa M.exps.length L.xc) := fun ob => (oldc (by omega)).trans hmw3.1.m8)
  all_goals (have z8a : ∀ ob, (W1.alloc ob).frozen? ⟨L.p, 8, none⟩ = false := fun ob => (ModAt.allocW hmw3 ob).2.fp 8)
  all_goals (have x2b : ∀ ob, (W1.alloc ob).cell? ⟨nb, 2, none⟩ = some (.int .i64 B) := fun ob => (oldc (by omega)).trans x2a)
  all_goals (have x3b : ∀ ob, (W1.alloc ob).cell? ⟨nb, 3, none⟩ = some (.int .i64 C) := fun ob => (oldc (by omega)).trans x3a)
  all_goals (go_wp2_with (go_at_call 59; refine (limited_any B C 6 _).mono ?_; rintro e w1 ⟨rfl, rfl⟩))
  all_goals (have hbe2 := ((hbe1.alloc (by omega) (.cells #[.string ⟨#[97]⟩, .int .u8 2, .int .u32 0] 106)).setCell (p := ⟨L.p, 8, none⟩) (Nat.le_refl _) (.slice (some ⟨W1.heap.size, 0, none⟩) 1 1)))
  all_goals (by_cases hB : B < 0)
  all_goals (first | (have d1 : decide (0 ≤ B) = false := by (simp; omega)) | ((have d1 : decide (0 ≤ B) = true := by (simp; omega)); (have d2 : decide (-1 ≤ C) = false := by (simp; omega))))
  all_goals go_quiet (fail)
  all_goals go_wp2
  all_goals go_ret3
  all_goals exact ⟨⟨_, _, rfl⟩, drewNB hbe2 _⟩

set_option maxRecDepth 100000 in
set_option maxHeartbeats 1000000 in
theorem turned_other (hM : ModAt w bv L M) (hW : ModW w L M) (n1 : ¬ A = 1) (n2 : ¬ A = 2) (n3 : ¬ A = 3) (n4 : ¬ A = 4) (n5 : ¬ A = 5) (n6 : ¬ A = 6) (n7 : ¬ A = 7) (n8 : ¬ A = 8) (n9 : ¬ A = 9) (n10 : ¬ A = 10) (n11 : ¬ A = 11) (n12 : ¬ A = 12) : TurnedNot L K A B C S T w := by
  unfold TurnedNot
  obtain ⟨oo, hoo⟩ : ∃ oo, offOp C = oo := ⟨_, rfl⟩
  have HOO : Hid (offOp C = oo) := hoo
  unfold offOp at hoo
  have hmw := (ModAt.allocW (ModAt.allocW ⟨hM, hW⟩ (.cells #[.int .i64 K, .int .i64 A, .int .i64 B, .int .i64 C, .string ⟨S.toArray⟩, .string ⟨T.toArray⟩] 34)) (.cells #[.int .u8 oo, .int .u32 0, .int .u64 0] 42))
  have hM2 := hmw.1
  have hW2 := hmw.2
  have hpl : L.p < w.heap.size := World.block_lt_of_cell? _ _ hM.m0
  have hbe : Below L.p w ((w.alloc (.cells #[.int .i64 K, .int .i64 A, .int .i64 B, .int .i64 C, .string ⟨S.toArray⟩, .string ⟨T.toArray⟩] 34)).alloc (.cells #[.int .u8 oo, .int .u32 0, .int .u64 0] 42)) := ((Below.refl _ _).alloc (by omega) _).alloc (by simp; omega) _
  have o1 := hW.o1
  have o2 := hW.o2
  have o3 := hW.o3
  have o4 := hW.o4
  have o7 := hW.o7
  have b1 : (A == 1) = false := by rw [beq_eq_false_iff_ne]; exact n1
  have b2 : (A == 2) = false := by rw [beq_eq_false_iff_ne]; exact n2
  have b3 : (A == 3) = false := by rw [beq_eq_false_iff_ne]; exact n3
  have b4 : (A == 4) = false := by rw [beq_eq_false_iff_ne]; exact n4
  have b5 : (A == 5) = false := by rw [beq_eq_false_iff_ne]; exact n5
  have b6 : (A == 6) = false := by rw [beq_eq_false_iff_ne]; exact n6
  have b7 : (A == 7) = false := by rw [beq_eq_false_iff_ne]; exact n7
  have b8 : (A == 8) = false := by rw [beq_eq_false_iff_ne]; exact n8
  have b9 : (A == 9) = false := by rw [beq_eq_false_iff_ne]; exact n9
  have b10 : (A == 10) = false := by rw [beq_eq_false_iff_ne]; exact n10
  have b11 : (A == 11) = false := by rw [beq_eq_false_iff_ne]; exact n11
  have b12 : (A == 12) = false := by rw [beq_eq_false_iff_ne]; exact n12
  clear n1 n2 n3 n4 n5 n6 n7 n8 n9 n10 n11 n12
  go_enter Try.func39, Try.ntmps39
  go_wp2
  all_goals go_ret3
  all_goals exact ⟨⟨_, _, rfl⟩, hbe⟩

set_option maxRecDepth 100000 in
set_option maxHeartbeats 1000000 in
theorem turned_global_not (hM : ModAt w bv L M) (hW : ModW w L M) (hn : B < 0 ∨ 3 < B ∨ C < 0 ∨ 3 < C) : TurnedNot L K 5 B C S T w := by
  unfold TurnedNot
  obtain ⟨oo, hoo⟩ : ∃ oo, offOp C = oo := ⟨_, rfl⟩
  have HOO : Hid (offOp C = oo) := hoo
  unfold offOp at hoo
  have hmw := (ModAt.allocW (ModAt.allocW ⟨hM, hW⟩ (.cells #[.int .i64 K, .int .i64 5, .int .i64 B, .int .i64 C, .string ⟨S.toArray⟩, .string ⟨T.toArray⟩] 34)) (.cells #[.int .u8 oo, .int .u32 0, .int .u64 0] 42))
  have hM2 := hmw.1
  have hW2 := hmw.2
  have hpl : L.p < w.heap.size := World.block_lt_of_cell? _ _ hM.m0
  have hbe : Below L.p w ((w.alloc (.cells #[.int .i64 K, .int .i64 5, .int .i64 B, .int .i64 C, .string ⟨S.toArray⟩, .string ⟨T.toArray⟩] 34)).alloc (.cells #[.int .u8 oo, .int .u32 0, .int .u64 0] 42)) := ((Below.refl _ _).alloc (by omega) _).alloc (by simp; omega) _
  have o1 := hW.o1
  have o2 := hW.o2
  have o3 := hW.o3
  have o4 := hW.o4
  have o7 := hW.o7
  rcases hn with hn | hn | hn | hn
  rotate_left 2
  all_goals (first | ((have dn0 : decide (0 ≤ C) = false := by (simp; omega)); clear hn) | ((have dn0 : decide (0 ≤ C) = true := by (simp; omega)); (have dn3 : decide (C ≤ 3) = false := by (simp; omega)); clear hn) | skip)
  all_goals go_enter Try.func39, Try.ntmps39
  all_goals go_wp2_with fail
  all_goals go_ret3
  all_goals exact ⟨⟨_, _, rfl⟩, hbe⟩

end
end Go.Proofs.Qxb6500273a
