/-
  WALKS: turned.
-/
import Derived.Test.Qxb6500273aTurned0
import Derived.Deep.Cut
set_option linter.unusedVariables false
set_option linter.unusedSimpArgs false
namespace Go.Proofs.Qxb6500273a
open Go.RowKit

section
variable (bv : Nat) (L : Lay) (M : Md) (K A B C : Int) (S T : List UInt8) (w : World)

set_option maxRecDepth 100000 in
set_option maxHeartbeats 1000000 in
theorem turned_export2e (hM : ModAt w bv L M) (hW : ModW w L M) (hu : u32F C = true) (hS : S = []) : TurnedTo bv L K 6 2 C S T w 0 (if 1 ≤ C then 17 else 0) { M with exps := [⟨[97], 2, C % 4294967296⟩] } := by
  unfold TurnedTo
  obtain ⟨oo, hoo⟩ : ∃ oo, offOp C = oo := ⟨_, rfl⟩
  have HOO : Hid (offOp C = oo) := hoo
  unfold offOp at hoo
  have hmw := (ModAt.allocW (ModAt.allocW ⟨hM, hW⟩ (.cells #[.int .i64 K, .int .i64 6, .int .i64 2, .int .i64 C, .string ⟨S.toArray⟩, .string ⟨T.toArray⟩] 34)) (.cells #[.int .u8 oo, .int .u32 0, .int .u64 0] 42))
  have hM2 := hmw.1
  have hW2 := hmw.2
  have hpl : L.p < w.heap.size := World.block_lt_of_cell? _ _ hM.m0
  have hbe : Below L.p w ((w.alloc (.cells #[.int .i64 K, .int .i64 6, .int .i64 2, .int .i64 C, .string ⟨S.toArray⟩, .string ⟨T.toArray⟩] 34)).alloc (.cells #[.int .u8 oo, .int .u32 0, .int .u64 0] 42)) := ((Below.refl _ _).alloc (by omega) _).alloc (by simp; omega) _
  have o1 := hW.o1
  have o2 := hW.o2
  have o3 := hW.o3
  have o4 := hW.o4
  have o7 := hW.o7
  have hcase : (1 ≤ C ∧ (if 1 ≤ C then (17 : Int) else 0) = 17) ∨ (C < 1 ∧ (if 1 ≤ C then (17 : Int) else 0) = 0) := by
    by_cases h1 : 1 ≤ C
    · exact .inl ⟨h1, by simp [h1]⟩
    · exact .inr ⟨by omega, by simp [h1]⟩
  generalize (if 1 ≤ C then (17 : Int) else 0) = wt at *
  have bS : S.isEmpty = true := by rw [hS]; rfl
  clear hS
  have HU : ∀ wx, _ := fun wx => u32_any C wx
  rw [hu] at HU
  have dC0 : decide (0 ≤ C) = true := by (simp [u32F] at hu; simp [hu.1])
  clear hu
  have hsz : w.heap.size + 1 < ((w.alloc (.cells #[.int .i64 K, .int .i64 6, .int .i64 2, .int .i64 C, .string ⟨S.toArray⟩, .string ⟨T.toArray⟩] 34)).alloc (.cells #[.int .u8 oo, .int .u32 0, .int .u64 0] 42)).heap.size := by simp
  have x1 := (oldc (ob := .cells #[.int .u8 oo, .int .u32 0, .int .u64 0] 42) (o := 1) (w := w.alloc (.cells #[.int .i64 K, .int .i64 6, .int .i64 2, .int .i64 C, .string ⟨S.toArray⟩, .string ⟨T.toArray⟩] 34)) (b := w.heap.size) (by simp)).trans (World.cell?_alloc_new w #[.int .i64 K, .int .i64 6, .int .i64 2, .int .i64 C, .string ⟨S.toArray⟩, .string ⟨T.toArray⟩] 34 1)
  have x2 := (oldc (ob := .cells #[.int .u8 oo, .int .u32 0, .int .u64 0] 42) (o := 2) (w := w.alloc (.cells #[.int .i64 K, .int .i64 6, .int .i64 2, .int .i64 C, .string ⟨S.toArray⟩, .string ⟨T.toArray⟩] 34)) (b := w.heap.size) (by simp)).trans (World.cell?_alloc_new w #[.int .i64 K, .int .i64 6, .int .i64 2, .int .i64 C, .string ⟨S.toArray⟩, .string ⟨T.toArray⟩] 34 2)
  have x3 := (oldc (ob := .cells #[.int .u8 oo, .int .u32 0, .int .u64 0] 42) (o := 3) (w := w.alloc (.cells #[.int .i64 K, .int .i64 6, .int .i64 2, .int .i64 C, .string ⟨S.toArray⟩, .string ⟨T.toArray⟩] 34)) (b := w.heap.size) (by simp)).trans (World.cell?_alloc_new w #[.int .i64 K, .int .i64 6, .int .i64 2, .int .i64 C, .string ⟨S.toArray⟩, .string ⟨T.toArray⟩] 34 3)
  have x4 := (oldc (ob := .cells #[.int .u8 oo, .int .u32 0, .int .u64 0] 42) (o := 4) (w := w.alloc (.cells #[.int .i64 K, .int .i64 6, .int .i64 2, .int .i64 C, .string ⟨S.toArray⟩, .string ⟨T.toArray⟩] 34)) (b := w.heap.size) (by simp)).trans (World.cell?_alloc_new w #[.int .i64 K, .int .i64 6, .int .i64 2, .int .i64 C, .string ⟨S.toArray⟩, .string ⟨T.toArray⟩] 34 4)
  have x5 := (oldc (ob := .cells #[.int .u8 oo, .int .u32 0, .int .u64 0] 42) (o := 5) (w := w.alloc (.cells #[.int .i64 K, .int .i64 6, .int .i64 2, .int .i64 C, .string ⟨S.toArray⟩, .string ⟨T.toArray⟩] 34)) (b := w.heap.size) (by simp)).trans (World.cell?_alloc_new w #[.int .i64 K, .int .i64 6, .int .i64 2, .int .i64 C, .string ⟨S.toArray⟩, .string ⟨T.toArray⟩] 34 5)
  have y0 := World.cell?_alloc_new (w.alloc (.cells #[.int .i64 K, .int .i64 6, .int .i64 2, .int .i64 C, .string ⟨S.toArray⟩, .string ⟨T.toArray⟩] 34)) #[.int .u8 oo, .int .u32 0, .int .u64 0] 42 0
  have y1 := World.cell?_alloc_new (w.alloc (.cells #[.int .i64 K, .int .i64 6, .int .i64 2, .int .i64 C, .string ⟨S.toArray⟩, .string ⟨T.toArray⟩] 34)) #[.int .u8 oo, .int .u32 0, .int .u64 0] 42 1
  have y2 := World.cell?_alloc_new (w.alloc (.cells #[.int .i64 K, .int .i64 6, .int .i64 2, .int .i64 C, .string ⟨S.toArray⟩, .string ⟨T.toArray⟩] 34)) #[.int .u8 oo, .int .u32 0, .int .u64 0] 42 2
  simp only [World.size_alloc] at y0 y1 y2
  simp only [List.getElem?_toArray, List.getElem?_cons_zero, List.getElem?_cons_succ] at x1 x2 x3 x4 x5 y0 y1 y2
  cases d3 : decide (C ≤ 3)
  all_goals go_enter Try.func39, Try.ntmps39
  all_goals go_upto_region 34 with (go_at_call 40; refine (HU _).mono ?_; rintro e w1 ⟨rfl, rfl⟩)
  all_goals (generalize ((w.alloc (.cells #[.int .i64 K, .int .i64 6, .int .i64 2, .int .i64 C, .string ⟨S.toArray⟩, .string ⟨T.toArray⟩] 34)).alloc (.cells #[.int .u8 oo, .int .u32 0, .int .u64 0] 42)) = W at *)
  all_goals clear hoo
  all_goals (generalize w.heap.size = nb at *)
  all_goals (have np : ¬ L.p = W.heap.size := by omega)
  all_goals (have np2 : ¬ nb = W.heap.size := by omega)
  all_goals (have np3 : ¬ L.p = nb := by omega)
  all_goals (have np4 : ¬ nb = L.p := by omega)
  all_goals (have c8a : ∀ ob, (W.alloc ob).cell? ⟨L.p, 8, none⟩ = some (.slice L.xa M.exps.length L.xc) := fun ob => (oldc (by omega)).trans hmw.1.m8)
  all_goals (have z8a : ∀ ob, (W.alloc ob).frozen? ⟨L.p, 8, none⟩ = false := fun ob => (ModAt.allocW hmw ob).2.fp 8)
  all_goals (have c3a : ∀ ob, (W.alloc ob).cell? ⟨L.p, 3, none⟩ = some (.int .i64 M.tabMin) := fun ob => (oldc (by omega)).trans hmw.1.m3)
  all_goals (have z3a : ∀ ob, (W.alloc ob).frozen? ⟨L.p, 3, none⟩ = false := fun ob => (ModAt.allocW hmw ob).2.fp 3)
  all_goals (have c5a : ∀ ob, (W.alloc ob).cell? ⟨L.p, 5, none⟩ = some (.int .i64 M.memMin) := fun ob => (oldc (by omega)).trans hmw.1.m5)
  all_goals (have z5a : ∀ ob, (W.alloc ob).frozen? ⟨L.p, 5, none⟩ = false := fun ob => (ModAt.allocW hmw ob).2.fp 5)
  all_goals (have x2b : ∀ ob, (W.alloc ob).cell? ⟨nb, 2, none⟩ = some (.int .i64 2) := fun ob => (oldc (by omega)).trans x2)
  all_goals (have x3b : ∀ ob, (W.alloc ob).cell? ⟨nb, 3, none⟩ = some (.int .i64 C) := fun ob => (oldc (by omega)).trans x3)
  all_goals (have x4b : ∀ ob, (W.alloc ob).cell? ⟨nb, 4, none⟩ = some (.string ⟨S.toArray⟩) := fun ob => (oldc (by omega)).trans x4)
  all_goals (rcases hcase with ⟨h1, h2⟩ | ⟨h1, h2⟩)
  all_goals subst h2
  all_goals go_wp2
  all_goals go_ret3
  all_goals (have ha := ModAt.allocW hmw (.cells #[.string ⟨#[97]⟩, .int .u8 2, .int .u32 (C % 4294967296)] 106))
  all_goals (have hx := ModAt.setExps ha.1 ha.2 [⟨[97], 2, C % 4294967296⟩] W.heap.size 1 (by have := hmw.2.o7; exact this) (one3 (World.cell?_alloc_new _ _ _ 0)) (one3 (World.cell?_alloc_new _ _ _ 1)) (one3 (World.cell?_alloc_new _ _ _ 2)))
  all_goals exact ⟨rfl, ⟨_, (by rfl), hx⟩, ((hbe.alloc (by omega) _).setCell (Nat.le_refl _) _)⟩

set_option maxRecDepth 100000 in
set_option maxHeartbeats 1000000 in
theorem turned_export2n (hM : ModAt w bv L M) (hW : ModW w L M) (hu : u32F C = true) (hS : S ≠ []) : TurnedTo bv L K 6 2 C S T w 0 (if 0 ≤ C then 17 else 0) { M with exps := [⟨[97], 2, C % 4294967296⟩], tabMin := -1, memMin := -1 } := by
  unfold TurnedTo
  obtain ⟨oo, hoo⟩ : ∃ oo, offOp C = oo := ⟨_, rfl⟩
  have HOO : Hid (offOp C = oo) := hoo
  unfold offOp at hoo
  have hmw := (ModAt.allocW (ModAt.allocW ⟨hM, hW⟩ (.cells #[.int .i64 K, .int .i64 6, .int .i64 2, .int .i64 C, .string ⟨S.toArray⟩, .string ⟨T.toArray⟩] 34)) (.cells #[.int .u8 oo, .int .u32 0, .int .u64 0] 42))
  have hM2 := hmw.1
  have hW2 := hmw.2
  have hpl : L.p < w.heap.size := World.block_lt_of_cell? _ _ hM.m0
  have hbe : Below L.p w ((w.alloc (.cells #[.int .i64 K, .int .i64 6, .int .i64 2, .int .i64 C, .string ⟨S.toArray⟩, .string ⟨T.toArray⟩] 34)).alloc (.cells #[.int .u8 oo, .int .u32 0, .int .u64 0] 42)) := ((Below.refl _ _).alloc (by omega) _).alloc (by simp; omega) _
  have o1 := hW.o1
  have o2 := hW.o2
  have o3 := hW.o3
  have o4 := hW.o4
  have o7 := hW.o7
  have hcase : (0 ≤ C ∧ (if 0 ≤ C then (17 : Int) else 0) = 17) ∨ (C < 0 ∧ (if 0 ≤ C then (17 : Int) else 0) = 0) := by
    by_cases h1 : 0 ≤ C
    · exact .inl ⟨h1, by simp [h1]⟩
    · exact .inr ⟨by omega, by simp [h1]⟩
  generalize (if 0 ≤ C then (17 : Int) else 0) = wt at *
  have bS : S.isEmpty = false := by cases S with | nil => exact absurd rfl hS | cons a l => rfl
  clear hS
  have HU : ∀ wx, _ := fun wx => u32_any C wx
  rw [hu] at HU
  have dC0 : decide (0 ≤ C) = true := by (simp [u32F] at hu; simp [hu.1])
  clear hu
  have hsz : w.heap.size + 1 < ((w.alloc (.cells #[.int .i64 K, .int .i64 6, .int .i64 2, .int .i64 C, .string ⟨S.toArray⟩, .string ⟨T.toArray⟩] 34)).alloc (.cells #[.int .u8 oo, .int .u32 0, .int .u64 0] 42)).heap.size := by simp
  have x1 := (oldc (ob := .cells #[.int .u8 oo, .int .u32 0, .int .u64 0] 42) (o := 1) (w := w.alloc (.cells #[.int .i64 K, .int .i64 6, .int .i64 2, .int .i64 C, .string ⟨S.toArray⟩, .string ⟨T.toArray⟩] 34)) (b := w.heap.size) (by simp)).trans (World.cell?_alloc_new w #[.int .i64 K, .int .i64 6, .int .i64 2, .int .i64 C, .string ⟨S.toArray⟩, .string ⟨T.toArray⟩] 34 1)
  have x2 := (oldc (ob := .cells #[.int .u8 oo, .int .u32 0, .int .u64 0] 42) (o := 2) (w := w.alloc (.cells #[.int .i64 K, .int .i64 6, .int .i64 2, .int .i64 C, .string ⟨S.toArray⟩, .string ⟨T.toArray⟩] 34)) (b := w.heap.size) (by simp)).trans (World.cell?_alloc_new w #[.int .i64 K, .int .i64 6, .int .i64 2, .int .i64 C, .string ⟨S.toArray⟩, .string ⟨T.toArray⟩] 34 2)
  have x3 := (oldc (ob := .cells #[.int .u8 oo, .int .u32 0, .int .u64 0] 42) (o := 3) (w := w.alloc (.cells #[.int .i64 K, .int .i64 6, .int .i64 2, .int .i64 C, .string ⟨S.toArray⟩, .string ⟨T.toArray⟩] 34)) (b := w.heap.size) (by simp)).trans (World.cell?_alloc_new w #[.int .i64 K, .int .i64 6, .int .i64 2, .int .i64 C, .string ⟨S.toArray⟩, .string ⟨T.toArray⟩] 34 3)
  have x4 := (oldc (ob := .cells #[.int .u8 oo, .int .u32 0, .int .u64 0] 42) (o := 4) (w := w.alloc (.cells #[.int .i64 K, .int .i64 6, .int .i64 2, .int .i64 C, .string ⟨S.toArray⟩, .string ⟨T.toArray⟩] 34)) (b := w.heap.size) (by simp)).trans (World.cell?_alloc_new w #[.int .i64 K, .int .i64 6, .int .i64 2, .int .i64 C, .string ⟨S.toArray⟩, .string ⟨T.toArray⟩] 34 4)
  have x5 := (oldc (ob := .cells #[.int .u8 oo, .int .u32 0, .int .u64 0] 42) (o := 5) (w := w.alloc (.cells #[.int .i64 K, .int .i64 6, .int .i64 2, .int .i64 C, .string ⟨S.toArray⟩, .string ⟨T.toArray⟩] 34)) (b := w.heap.size) (by simp)).trans (World.cell?_alloc_new w #[.int .i64 K, .int .i64 6, .int .i64 2, .int .i64 C, .string ⟨S.toArray⟩, .string ⟨T.toArray⟩] 34 5)
  have y0 := World.cell?_alloc_new (w.alloc (.cells #[.int .i64 K, .int .i64 6, .int .i64 2, .int .i64 C, .string ⟨S.toArray⟩, .string ⟨T.toArray⟩] 34)) #[.int .u8 oo, .int .u32 0, .int .u64 0] 42 0
  have y1 := World.cell?_alloc_new (w.alloc (.cells #[.int .i64 K, .int .i64 6, .int .i64 2, .int .i64 C, .string ⟨S.toArray⟩, .string ⟨T.toArray⟩] 34)) #[.int .u8 oo, .int .u32 0, .int .u64 0] 42 1
  have y2 := World.cell?_alloc_new (w.alloc (.cells #[.int .i64 K, .int .i64 6, .int .i64 2, .int .i64 C, .string ⟨S.toArray⟩, .string ⟨T.toArray⟩] 34)) #[.int .u8 oo, .int .u32 0, .int .u64 0] 42 2
  simp only [World.size_alloc] at y0 y1 y2
  simp only [List.getElem?_toArray, List.getElem?_cons_zero, List.getElem?_cons_succ] at x1 x2 x3 x4 x5 y0 y1 y2
  cases d3 : decide (C ≤ 3)
  all_goals go_enter Try.func39, Try.ntmps39
  all_goals go_upto_region 34 with (go_at_call 40; refine (HU _).mono ?_; rintro e w1 ⟨rfl, rfl⟩)
  all_goals (generalize ((w.alloc (.cells #[.int .i64 K, .int .i64 6, .int .i64 2, .int .i64 C, .string ⟨S.toArray⟩, .string ⟨T.toArray⟩] 34)).alloc (.cells #[.int .u8 oo, .int .u32 0, .int .u64 0] 42)) = W at *)
  all_goals clear hoo
  all_goals (generalize w.heap.size = nb at *)
  all_goals (have np : ¬ L.p = W.heap.size := by omega)
  all_goals (have np2 : ¬ nb = W.heap.size := by omega)
  all_goals (have np3 : ¬ L.p = nb := by omega)
  all_goals (have np4 : ¬ nb = L.p := by omega)
  all_goals (have c8a : ∀ ob, (W.alloc ob).cell? ⟨L.p, 8, none⟩ = some (.slice L.xa M.exps.length L.xc) := fun ob => (oldc (by omega)).trans hmw.1.m8)
  all_goals (have z8a : ∀ ob, (W.alloc ob).frozen? ⟨L.p, 8, none⟩ = false := fun ob => (ModAt.allocW hmw ob).2.fp 8)
  all_goals (have c3a : ∀ ob, (W.alloc ob).cell? ⟨L.p, 3, none⟩ = some (.int .i64 M.tabMin) := fun ob => (oldc (by omega)).trans hmw.1.m3)
  all_goals (have z3a : ∀ ob, (W.alloc ob).frozen? ⟨L.p, 3, none⟩ = false := fun ob => (ModAt.allocW hmw ob).2.fp 3)
  all_goals (have c5a : ∀ ob, (W.alloc ob).cell? ⟨L.p, 5, none⟩ = some (.int .i64 M.memMin) := fun ob => (oldc (by omega)).trans hmw.1.m5)
  all_goals (have z5a : ∀ ob, (W.alloc ob).frozen? ⟨L.p, 5, none⟩ = false := fun ob => (ModAt.allocW hmw ob).2.fp 5)
  all_goals (have x2b : ∀ ob, (W.alloc ob).cell? ⟨nb, 2, none⟩ = some (.int .i64 2) := fun ob => (oldc (by omega)).trans x2)
  all_goals (have x3b : ∀ ob, (W.alloc ob).cell? ⟨nb, 3, none⟩ = some (.int .i64 C) := fun ob => (oldc (by omega)).trans x3)
  all_goals (have x4b : ∀ ob, (W.alloc ob).cell? ⟨nb, 4, none⟩ = some (.string ⟨S.toArray⟩) := fun ob => (oldc (by omega)).trans x4)
  all_goals (rcases hcase with ⟨h1, h2⟩ | ⟨h1, h2⟩)
  all_goals subst h2
  all_goals go_wp2
  all_goals go_ret3
  all_goals (have ha := ModAt.allocW hmw (.cells #[.string ⟨#[97]⟩, .int .u8 2, .int .u32 (C % 4294967296)] 106))
  all_goals (have hx := ModAt.setExps ha.1 ha.2 [⟨[97], 2, C % 4294967296⟩] W.heap.size 1 (by have := hmw.2.o7; exact this) (one3 (World.cell?_alloc_new _ _ _ 0)) (one3 (World.cell?_alloc_new _ _ _ 1)) (one3 (World.cell?_alloc_new _ _ _ 2)))
  all_goals (have hx2 := ModAt.setTabMin hx.1 hx.2 (-1))
  all_goals (have hx3 := ModAt.setMemMin hx2.1 hx2.2 (-1))
  all_goals (first | exact ⟨rfl, ⟨_, (by rfl), hx3⟩, ((((hbe.alloc (by omega) _).setCell (Nat.le_refl _) _).setCell (Nat.le_refl _) _).setCell (Nat.le_refl _) _)⟩ | (exfalso; have hz := of_decide_eq_true dC0; omega))

set_option maxRecDepth 100000 in
set_option maxHeartbeats 1000000 in
theorem turned_export3e (hM : ModAt w bv L M) (hW : ModW w L M) (hu : u32F C = true) (hS : S = []) : TurnedTo bv L K 6 3 C S T w 0 (if 4 ≤ C then 17 else 0) { M with exps := [⟨[97], 3, C % 4294967296⟩] } := by
  unfold TurnedTo
  obtain ⟨oo, hoo⟩ : ∃ oo, offOp C = oo := ⟨_, rfl⟩
  have HOO : Hid (offOp C = oo) := hoo
  unfold offOp at hoo
  have hmw := (ModAt.allocW (ModAt.allocW ⟨hM, hW⟩ (.cells #[.int .i64 K, .int .i64 6, .int .i64 3, .int .i64 C, .string ⟨S.toArray⟩, .string ⟨T.toArray⟩] 34)) (.cells #[.int .u8 oo, .int .u32 0, .int .u64 0] 42))
  have hM2 := hmw.1
  have hW2 := hmw.2
  have hpl : L.p < w.heap.size := World.block_lt_of_cell? _ _ hM.m0
  have hbe : Below L.p w ((w.alloc (.cells #[.int .i64 K, .int .i64 6, .int .i64 3, .int .i64 C, .string ⟨S.toArray⟩, .string ⟨T.toArray⟩] 34)).alloc (.cells #[.int .u8 oo, .int .u32 0, .int .u64 0] 42)) := ((Below.refl _ _).alloc (by omega) _).alloc (by simp; omega) _
  have o1 := hW.o1
  have o2 := hW.o2
  have o3 := hW.o3
  have o4 := hW.o4
  have o7 := hW.o7
  have hcase : (4 ≤ C ∧ (if 4 ≤ C then (17 : Int) else 0) = 17) ∨ (C < 4 ∧ (if 4 ≤ C then (17 : Int) else 0) = 0) := by
    by_cases h1 : 4 ≤ C
    · exact .inl ⟨h1, by simp [h1]⟩
    · exact .inr ⟨by omega, by simp [h1]⟩
  generalize (if 4 ≤ C then (17 : Int) else 0) = wt at *
  have bS : S.isEmpty = true := by rw [hS]; rfl
  clear hS
  have HU : ∀ wx, _ := fun wx => u32_any C wx
  rw [hu] at HU
  have dC0 : decide (0 ≤ C) = true := by (simp [u32F] at hu; simp [hu.1])
  clear hu
  have hsz : w.heap.size + 1 < ((w.alloc (.cells #[.int .i64 K, .int .i64 6, .int .i64 3, .int .i64 C, .string ⟨S.toArray⟩, .string ⟨T.toArray⟩] 34)).alloc (.cells #[.int .u8 oo, .int .u32 0, .int .u64 0] 42)).heap.size := by simp
  have x1 := (oldc (ob := .cells #[.int .u8 oo, .int .u32 0, .int .u64 0] 42) (o := 1) (w := w.alloc (.cells #[.int .i64 K, .int .i64 6, .int .i64 3, .int .i64 C, .string ⟨S.toArray⟩, .string ⟨T.toArray⟩] 34)) (b := w.heap.size) (by simp)).trans (World.cell?_alloc_new w #[.int .i64 K, .int .i64 6, .int .i64 3, .int .i64 C, .string ⟨S.toArray⟩, .string ⟨T.toArray⟩] 34 1)
  have x2 := (oldc (ob := .cells #[.int .u8 oo, .int .u32 0, .int .u64 0] 42) (o := 2) (w := w.alloc (.cells #[.int .i64 K, .int .i64 6, .int .i64 3, .int .i64 C, .string ⟨S.toArray⟩, .string ⟨T.toArray⟩] 34)) (b := w.heap.size) (by simp)).trans (World.cell?_alloc_new w #[.int .i64 K, .int .i64 6, .int .i64 3, .int .i64 C, .string ⟨S.toArray⟩, .string ⟨T.toArray⟩] 34 2)
  have x3 := (oldc (ob := .cells #[.int .u8 oo, .int .u32 0, .int .u64 0] 42) (o := 3) (w := w.alloc (.cells #[.int .i64 K, .int .i64 6, .int .i64 3, .int .i64 C, .string ⟨S.toArray⟩, .string ⟨T.toArray⟩] 34)) (b := w.heap.size) (by simp)).trans (World.cell?_alloc_new w #[.int .i64 K, .int .i64 6, .int .i64 3, .int .i64 C, .string ⟨S.toArray⟩, .string ⟨T.toArray⟩] 34 3)
  have x4 := (oldc (ob := .cells #[.int .u8 oo, .int .u32 0, .int .u64 0] 42) (o := 4) (w := w.alloc (.cells #[.int .i64 K, .int .i64 6, .int .i64 3, .int .i64 C, .string ⟨S.toArray⟩, .string ⟨T.toArray⟩] 34)) (b := w.heap.size) (by simp)).trans (World.cell?_alloc_new w #[.int .i64 K, .int .i64 6, .int .i64 3, .int .i64 C, .string ⟨S.toArray⟩, .string ⟨T.toArray⟩] 34 4)
  have x5 := (oldc (ob := .cells #[.int .u8 oo, .int .u32 0, .int .u64 0] 42) (o := 5) (w := w.alloc (.cells #[.int .i64 K, .int .i64 6, .int .i64 3, .int .i64 C, .string ⟨S.toArray⟩, .string ⟨T.toArray⟩] 34)) (b := w.heap.size) (by simp)).trans (World.cell?_alloc_new w #[.int .i64 K, .int .i64 6, .int .i64 3, .int .i64 C, .string ⟨S.toArray⟩, .string ⟨T.toArray⟩] 34 5)
  have y0 := World.cell?_alloc_new (w.alloc (.cells #[.int .i64 K, .int .i64 6, .int .i64 3, .int .i64 C, .string ⟨S.toArray⟩, .string ⟨T.toArray⟩] 34)) #[.int .u8 oo, .int .u32 0, .int .u64 0] 42 0
  have y1 := World.cell?_alloc_new (w.alloc (.cells #[.int .i64 K, .int .i64 6, .int .i64 3, .int .i64 C, .string ⟨S.toArray⟩, .string ⟨T.toArray⟩] 34)) #[.int .u8 oo, .int .u32 0, .int .u64 0] 42 1
  have y2 := World.cell?_alloc_new (w.alloc (.cells #[.int .i64 K, .int .i64 6, .int .i64 3, .int .i64 C, .string ⟨S.toArray⟩, .string ⟨T.toArray⟩] 34)) #[.int .u8 oo, .int .u32 0, .int .u64 0] 42 2
  simp only [World.size_alloc] at y0 y1 y2
  simp only [List.getElem?_toArray, List.getElem?_cons_zero, List.getElem?_cons_succ] at x1 x2 x3 x4 x5 y0 y1 y2
  cases d3 : decide (C ≤ 3)
  all_goals go_enter Try.func39, Try.ntmps39
  all_goals go_upto_region 34 with (go_at_call 40; refine (HU _).mono ?_; rintro e w1 ⟨rfl, rfl⟩)
  all_goals (generalize ((w.alloc (.cells #[.int .i64 K, .int .i64 6, .int .i64 3, .int .i64 C, .string ⟨S.toArray⟩, .string ⟨T.toArray⟩] 34)).alloc (.cells #[.int .u8 oo, .int .u32 0, .int .u64 0] 42)) = W at *)
  all_goals clear hoo
  all_goals (generalize w.heap.size = nb at *)
  all_goals (have np : ¬ L.p = W.heap.size := by omega)
  all_goals (have np2 : ¬ nb = W.heap.size := by omega)
  all_goals (have np3 : ¬ L.p = nb := by omega)
  all_goals (have np4 : ¬ nb = L.p := by omega)
  all_goals (have c8a : ∀ ob, (W.alloc ob).cell? ⟨L.p, 8, none⟩ = some (.slice L.xa M.exps.length L.xc) := fun ob => (oldc (by omega)).trans hmw.1.m8)
  all_goals (have z8a : ∀ ob, (W.alloc ob).frozen? ⟨L.p, 8, none⟩ = false := fun ob => (ModAt.allocW hmw ob).2.fp 8)
  all_goals (have c3a : ∀ ob, (W.alloc ob).cell? ⟨L.p, 3, none⟩ = some (.int .i64 M.tabMin) := fun ob => (oldc (by omega)).trans hmw.1.m3)
  all_goals (have z3a : ∀ ob, (W.alloc ob).frozen? ⟨L.p, 3, none⟩ = false := fun ob => (ModAt.allocW hmw ob).2.fp 3)
  all_goals (have c5a : ∀ ob, (W.alloc ob).cell? ⟨L.p, 5, none⟩ = some (.int .i64 M.memMin) := fun ob => (oldc (by omega)).trans hmw.1.m5)
  all_goals (have z5a : ∀ ob, (W.alloc ob).frozen? ⟨L.p, 5, none⟩ = false := fun ob => (ModAt.allocW hmw ob).2.fp 5)
  all_goals (have x2b : ∀ ob, (W.alloc ob).cell? ⟨nb, 2, none⟩ = some (.int .i64 3) := fun ob => (oldc (by omega)).trans x2)
  all_goals (have x3b : ∀ ob, (W.alloc ob).cell? ⟨nb, 3, none⟩ = some (.int .i64 C) := fun ob => (oldc (by omega)).trans x3)
  all_goals (have x4b : ∀ ob, (W.alloc ob).cell? ⟨nb, 4, none⟩ = some (.string ⟨S.toArray⟩) := fun ob => (oldc (by omega)).trans x4)
  all_goals (rcases hcase with ⟨h1, h2⟩ | ⟨h1, h2⟩)
  all_goals subst h2
  all_goals go_wp2
  all_goals go_ret3
  all_goals (have ha := ModAt.allocW hmw (.cells #[.string ⟨#[97]⟩, .int .u8 3, .int .u32 (C % 4294967296)] 106))
  all_goals (have hx := ModAt.setExps ha.1 ha.2 [⟨[97], 3, C % 4294967296⟩] W.heap.size 1 (by have := hmw.2.o7; exact this) (one3 (World.cell?_alloc_new _ _ _ 0)) (one3 (World.cell?_alloc_new _ _ _ 1)) (one3 (World.cell?_alloc_new _ _ _ 2)))
  all_goals exact ⟨rfl, ⟨_, (by rfl), hx⟩, ((hbe.alloc (by omega) _).setCell (Nat.le_refl _) _)⟩

set_option maxRecDepth 100000 in
set_option maxHeartbeats 1000000 in
theorem turned_export3n (hM : ModAt w bv L M) (hW : ModW w L M) (hu : u32F C = true) (hS : S ≠ []) : TurnedTo bv L K 6 3 C S T w 0 (if 4 ≤ C then 17 else 0) { M with exps := [⟨[97], 3, C % 4294967296⟩], tabMin := -1, memMin := -1 } := by
  unfold TurnedTo
  obtain ⟨oo, hoo⟩ : ∃ oo, offOp C = oo := ⟨_, rfl⟩
  have HOO : Hid (offOp C = oo) := hoo
  unfold offOp at hoo
  have hmw := (ModAt.allocW (ModAt.allocW ⟨hM, hW⟩ (.cells #[.int .i64 K, .int .i64 6, .int .i64 3, .int .i64 C, .string ⟨S.toArray⟩, .string ⟨T.toArray⟩] 34)) (.cells #[.int .u8 oo, .int .u32 0, .int .u64 0] 42))
  have hM2 := hmw.1
  have hW2 := hmw.2
  have hpl : L.p < w.heap.size := World.block_lt_of_cell? _ _ hM.m0
  have hbe : Below L.p w ((w.alloc (.cells #[.int .i64 K, .int .i64 6, .int .i64 3, .int .i64 C, .string ⟨S.toArray⟩, .string ⟨T.toArray⟩] 34)).alloc (.cells #[.int .u8 oo, .int .u32 0, .int .u64 0] 42)) := ((Below.refl _ _).alloc (by omega) _).alloc (by simp; omega) _
  have o1 := hW.o1
  have o2 := hW.o2
  have o3 := hW.o3
  have o4 := hW.o4
  have o7 := hW.o7
  have hcase : (4 ≤ C ∧ (if 4 ≤ C then (17 : Int) else 0) = 17) ∨ (C < 4 ∧ (if 4 ≤ C then (17 : Int) else 0) = 0) := by
    by_cases h1 : 4 ≤ C
    · exact .inl ⟨h1, by simp [h1]⟩
    · exact .inr ⟨by omega, by simp [h1]⟩
  generalize (if 4 ≤ C then (17 : Int) else 0) = wt at *
  have bS : S.isEmpty = false := by cases S with | nil => exact absurd rfl hS | cons a l => rfl
  clear hS
  have HU : ∀ wx, _ := fun wx => u32_any C wx
  rw [hu] at HU
  have dC0 : decide (0 ≤ C) = true := by (simp [u32F] at hu; simp [hu.1])
  clear hu
  have hsz : w.heap.size + 1 < ((w.alloc (.cells #[.int .i64 K, .int .i64 6, .int .i64 3, .int .i64 C, .string ⟨S.toArray⟩, .string ⟨T.toArray⟩] 34)).alloc (.cells #[.int .u8 oo, .int .u32 0, .int .u64 0] 42)).heap.size := by simp
  have x1 := (oldc (ob := .cells #[.int .u8 oo, .int .u32 0, .int .u64 0] 42) (o := 1) (w := w.alloc (.cells #[.int .i64 K, .int .i64 6, .int .i64 3, .int .i64 C, .string ⟨S.toArray⟩, .string ⟨T.toArray⟩] 34)) (b := w.heap.size) (by simp)).trans (World.cell?_alloc_new w #[.int .i64 K, .int .i64 6, .int .i64 3, .int .i64 C, .string ⟨S.toArray⟩, .string ⟨T.toArray⟩] 34 1)
  have x2 := (oldc (ob := .cells #[.int .u8 oo, .int .u32 0, .int .u64 0] 42) (o := 2) (w := w.alloc (.cells #[.int .i64 K, .int .i64 6, .int .i64 3, .int .i64 C, .string ⟨S.toArray⟩, .string ⟨T.toArray⟩] 34)) (b := w.heap.size) (by simp)).trans (World.cell?_alloc_new w #[.int .i64 K, .int .i64 6, .int .i64 3, .int .i64 C, .string ⟨S.toArray⟩, .string ⟨T.toArray⟩] 34 2)
  have x3 := (oldc (ob := .cells #[.int .u8 oo, .int .u32 0, .int .u64 0] 42) (o := 3) (w := w.alloc (.cells #[.int .i64 K, .int .i64 6, .int .i64 3, .int .i64 C, .string ⟨S.toArray⟩, .string ⟨T.toArray⟩] 34)) (b := w.heap.size) (by simp)).trans (World.cell?_alloc_new w #[.int .i64 K, .int .i64 6, .int .i64 3, .int .i64 C, .string ⟨S.toArray⟩, .string ⟨T.toArray⟩] 34 3)
  have x4 := (oldc (ob := .cells #[.int .u8 oo, .int .u32 0, .int .u64 0] 42) (o := 4) (w := w.alloc (.cells #[.int .i64 K, .int .i64 6, .int .i64 3, .int .i64 C, .string ⟨S.toArray⟩, .string ⟨T.toArray⟩] 34)) (b := w.heap.size) (by simp)).trans (World.cell?_alloc_new w #[.int .i64 K, .int .i64 6, .int .i64 3, .int .i64 C, .string ⟨S.toArray⟩, .string ⟨T.toArray⟩] 34 4)
  have x5 := (oldc (ob := .cells #[.int .u8 oo, .int .u32 0, .int .u64 0] 42) (o := 5) (w := w.alloc (.cells #[.int .i64 K, .int .i64 6, .int .i64 3, .int .i64 C, .string ⟨S.toArray⟩, .string ⟨T.toArray⟩] 34)) (b := w.heap.size) (by simp)).trans (World.cell?_alloc_new w #[.int .i64 K, .int .i64 6, .int .i64 3, .int .i64 C, .string ⟨S.toArray⟩, .string ⟨T.toArray⟩] 34 5)
  have y0 := World.cell?_alloc_new (w.alloc (.cells #[.int .i64 K, .int .i64 6, .int .i64 3, .int .i64 C, .string ⟨S.toArray⟩, .string ⟨T.toArray⟩] 34)) #[.int .u8 oo, .int .u32 0, .int .u64 0] 42 0
  have y1 := World.cell?_alloc_new (w.alloc (.cells #[.int .i64 K, .int .i64 6, .int .i64 3, .int .i64 C, .string ⟨S.toArray⟩, .string ⟨T.toArray⟩] 34)) #[.int .u8 oo, .int .u32 0, .int .u64 0] 42 1
  have y2 := World.cell?_alloc_new (w.alloc (.cells #[.int .i64 K, .int .i64 6, .int .i64 3, .int .i64 C, .string ⟨S.toArray⟩, .string ⟨T.toArray⟩] 34)) #[.int .u8 oo, .int .u32 0, .int .u64 0] 42 2
  simp only [World.size_alloc] at y0 y1 y2
  simp only [List.getElem?_toArray, List.getElem?_cons_zero, List.getElem?_cons_succ] at x1 x2 x3 x4 x5 y0 y1 y2
  cases d3 : decide (C ≤ 3)
  all_goals go_enter Try.func39, Try.ntmps39
  all_goals go_upto_region 34 with (go_at_call 40; refine (HU _).mono ?_; rintro e w1 ⟨rfl, rfl⟩)
  all_goals (generalize ((w.alloc (.cells #[.int .i64 K, .int .i64 6, .int .i64 3, .int .i64 C, .string ⟨S.toArray⟩, .string ⟨T.toArray⟩] 34)).alloc (.cells #[.int .u8 oo, .int .u32 0, .int .u64 0] 42)) = W at *)
  all_goals clear hoo
  all_goals (generalize w.heap.size = nb at *)
  all_goals (have np : ¬ L.p = W.heap.size := by omega)
  all_goals (have np2 : ¬ nb = W.heap.size := by omega)
  all_goals (have np3 : ¬ L.p = nb := by omega)
  all_goals (have np4 : ¬ nb = L.p := by omega)
  all_goals (have c8a : ∀ ob, (W.alloc ob).cell? ⟨L.p, 8, none⟩ = some (.slice L.xa M.exps.length L.xc) := fun ob => (oldc (by omega)).trans hmw.1.m8)
  all_goals (have z8a : ∀ ob, (W.alloc ob).frozen? ⟨L.p, 8, none⟩ = false := fun ob => (ModAt.allocW hmw ob).2.fp 8)
  all_goals (have c3a : ∀ ob, (W.alloc ob).cell? ⟨L.p, 3, none⟩ = some (.int .i64 M.tabMin) := fun ob => (oldc (by omega)).trans hmw.1.m3)
  all_goals (have z3a : ∀ ob, (W.alloc ob).frozen? ⟨L.p, 3, none⟩ = false := fun ob => (ModAt.allocW hmw ob).2.fp 3)
  all_goals (have c5a : ∀ ob, (W.alloc ob).cell? ⟨L.p, 5, none⟩ = some (.int .i64 M.memMin) := fun ob => (oldc (by omega)).trans hmw.1.m5)
  all_goals (have z5a : ∀ ob, (W.alloc ob).frozen? ⟨L.p, 5, none⟩ = false := fun ob => (ModAt.allocW hmw ob).2.fp 5)
  all_goals (have x2b : ∀ ob, (W.alloc ob).cell? ⟨nb, 2, none⟩ = some (.int .i64 3) := fun ob => (oldc (by omega)).trans x2)
  all_goals (have x3b : ∀ ob, (W.alloc ob).cell? ⟨nb, 3, none⟩ = some (.int .i64 C) := fun ob => (oldc (by omega)).trans x3)
  all_goals (have x4b : ∀ ob, (W.alloc ob).cell? ⟨nb, 4, none⟩ = some (.string ⟨S.toArray⟩) := fun ob => (oldc (by omega)).trans x4)
  all_goals (rcases hcase with ⟨h1, h2⟩ | ⟨h1, h2⟩)
  all_goals subst h2
  all_goals go_wp2
  all_goals go_ret3
  all_goals (have ha := ModAt.allocW hmw (.cells #[.string ⟨#[97]⟩, .int .u8 3, .int .u32 (C % 4294967296)] 106))
  all_goals (have hx := ModAt.setExps ha.1 ha.2 [⟨[97], 3, C % 4294967296⟩] W.heap.size 1 (by have := hmw.2.o7; exact this) (one3 (World.cell?_alloc_new _ _ _ 0)) (one3 (World.cell?_alloc_new _ _ _ 1)) (one3 (World.cell?_alloc_new _ _ _ 2)))
  all_goals (have hx2 := ModAt.setTabMin hx.1 hx.2 (-1))
  all_goals (have hx3 := ModAt.setMemMin hx2.1 hx2.2 (-1))
  all_goals (first | exact ⟨rfl, ⟨_, (by rfl), hx3⟩, ((((hbe.alloc (by omega) _).setCell (Nat.le_refl _) _).setCell (Nat.le_refl _) _).setCell (Nat.le_refl _) _)⟩ | (exfalso; have hz := of_decide_eq_true dC0; omega))

set_option maxRecDepth 100000 in
set_option maxHeartbeats 1000000 in
theorem turned_data_ty (hM : ModAt w bv L M) (hW : ModW w L M) (hC0 : 0 ≤ C) (hC3 : C ≤ 3) (hC : C ≠ 0) : TurnedTo bv L K 10 B C S T w 0 27 { M with datas := [offOp C] } := by
  unfold TurnedTo
  obtain ⟨oo, hoo⟩ : ∃ oo, offOp C = oo := ⟨_, rfl⟩
  have hoo' := hoo
  unfold offOp at hoo
  have hmw := (ModAt.allocW (ModAt.allocW ⟨hM, hW⟩ (.cells #[.int .i64 K, .int .i64 10, .int .i64 B, .int .i64 C, .string ⟨S.toArray⟩, .string ⟨T.toArray⟩] 34)) (.cells #[.int .u8 oo, .int .u32 0, .int .u64 0] 42))
  have hM2 := hmw.1
  have hW2 := hmw.2
  have hpl : L.p < w.heap.size := World.block_lt_of_cell? _ _ hM.m0
  have hbe : Below L.p w ((w.alloc (.cells #[.int .i64 K, .int .i64 10, .int .i64 B, .int .i64 C, .string ⟨S.toArray⟩, .string ⟨T.toArray⟩] 34)).alloc (.cells #[.int .u8 oo, .int .u32 0, .int .u64 0] 42)) := ((Below.refl _ _).alloc (by omega) _).alloc (by simp; omega) _
  have o1 := hW.o1
  have o2 := hW.o2
  have o3 := hW.o3
  have o4 := hW.o4
  have o7 := hW.o7
  rw [hoo']
  clear hoo'
  have c0 : (C != 0) = true := by rw [bne_iff_ne]; exact hC
  clear hC
  have dC0 : decide (0 ≤ C) = true := by simp [hC0]
  have dC3 : decide (C ≤ 3) = true := by simp [hC3]
  have hsz : w.heap.size + 1 < ((w.alloc (.cells #[.int .i64 K, .int .i64 10, .int .i64 B, .int .i64 C, .string ⟨S.toArray⟩, .string ⟨T.toArray⟩] 34)).alloc (.cells #[.int .u8 oo, .int .u32 0, .int .u64 0] 42)).heap.size := by simp
  have x1 := (oldc (ob := .cells #[.int .u8 oo, .int .u32 0, .int .u64 0] 42) (o := 1) (w := w.alloc (.cells #[.int .i64 K, .int .i64 10, .int .i64 B, .int .i64 C, .string ⟨S.toArray⟩, .string ⟨T.toArray⟩] 34)) (b := w.heap.size) (by simp)).trans (World.cell?_alloc_new w #[.int .i64 K, .int .i64 10, .int .i64 B, .int .i64 C, .string ⟨S.toArray⟩, .string ⟨T.toArray⟩] 34 1)
  have x2 := (oldc (ob := .cells #[.int .u8 oo, .int .u32 0, .int .u64 0] 42) (o := 2) (w := w.alloc (.cells #[.int .i64 K, .int .i64 10, .int .i64 B, .int .i64 C, .string ⟨S.toArray⟩, .string ⟨T.toArray⟩] 34)) (b := w.heap.size) (by simp)).trans (World.cell?_alloc_new w #[.int .i64 K, .int .i64 10, .int .i64 B, .int .i64 C, .string ⟨S.toArray⟩, .string ⟨T.toArray⟩] 34 2)
  have x3 := (oldc (ob := .cells #[.int .u8 oo, .int .u32 0, .int .u64 0] 42) (o := 3) (w := w.alloc (.cells #[.int .i64 K, .int .i64 10, .int .i64 B, .int .i64 C, .string ⟨S.toArray⟩, .string ⟨T.toArray⟩] 34)) (b := w.heap.size) (by simp)).trans (World.cell?_alloc_new w #[.int .i64 K, .int .i64 10, .int .i64 B, .int .i64 C, .string ⟨S.toArray⟩, .string ⟨T.toArray⟩] 34 3)
  have x4 := (oldc (ob := .cells #[.int .u8 oo, .int .u32 0, .int .u64 0] 42) (o := 4) (w := w.alloc (.cells #[.int .i64 K, .int .i64 10, .int .i64 B, .int .i64 C, .string ⟨S.toArray⟩, .string ⟨T.toArray⟩] 34)) (b := w.heap.size) (by simp)).trans (World.cell?_alloc_new w #[.int .i64 K, .int .i64 10, .int .i64 B, .int .i64 C, .string ⟨S.toArray⟩, .string ⟨T.toArray⟩] 34 4)
  have x5 := (oldc (ob := .cells #[.int .u8 oo, .int .u32 0, .int .u64 0] 42) (o := 5) (w := w.alloc (.cells #[.int .i64 K, .int .i64 10, .int .i64 B, .int .i64 C, .string ⟨S.toArray⟩, .string ⟨T.toArray⟩] 34)) (b := w.heap.size) (by simp)).trans (World.cell?_alloc_new w #[.int .i64 K, .int .i64 10, .int .i64 B, .int .i64 C, .string ⟨S.toArray⟩, .string ⟨T.toArray⟩] 34 5)
  have y0 := World.cell?_alloc_new (w.alloc (.cells #[.int .i64 K, .int .i64 10, .int .i64 B, .int .i64 C, .string ⟨S.toArray⟩, .string ⟨T.toArray⟩] 34)) #[.int .u8 oo, .int .u32 0, .int .u64 0] 42 0
  have y1 := World.cell?_alloc_new (w.alloc (.cells #[.int .i64 K, .int .i64 10, .int .i64 B, .int .i64 C, .string ⟨S.toArray⟩, .string ⟨T.toArray⟩] 34)) #[.int .u8 oo, .int .u32 0, .int .u64 0] 42 1
  have y2 := World.cell?_alloc_new (w.alloc (.cells #[.int .i64 K, .int .i64 10, .int .i64 B, .int .i64 C, .string ⟨S.toArray⟩, .string ⟨T.toArray⟩] 34)) #[.int .u8 oo, .int .u32 0, .int .u64 0] 42 2
  simp only [World.size_alloc] at y0 y1 y2
  simp only [List.getElem?_toArray, List.getElem?_cons_zero, List.getElem?_cons_succ] at x1 x2 x3 x4 x5 y0 y1 y2
  all_goals go_enter Try.func39, Try.ntmps39
  all_goals go_upto_region 81 with fail
  all_goals (generalize ((w.alloc (.cells #[.int .i64 K, .int .i64 10, .int .i64 B, .int .i64 C, .string ⟨S.toArray⟩, .string ⟨T.toArray⟩] 34)).alloc (.cells #[.int .u8 oo, .int .u32 0, .int .u64 0] 42)) = W at *)
  all_goals clear hoo
  all_goals (generalize w.heap.size = nb at *)
  all_goals (have np : ¬ L.p = W.heap.size := by omega)
  all_goals (have np2 : ¬ nb = W.heap.size := by omega)
  all_goals (have np3 : ¬ L.p = nb := by omega)
  all_goals (have np4 : ¬ nb = L.p := by omega)
  all_goals (have c11a : ∀ ob, (W.alloc ob).cell? ⟨L.p, 11, none⟩ = some (.slice L.da M.datas.length L.dc) := fun ob => (oldc (by omega)).trans hmw.1.m11)
  all_goals (have z11a : ∀ ob, (W.alloc ob).frozen? ⟨L.p, 11, none⟩ = false := fun ob => (ModAt.allocW hmw ob).2.fp 11)
  all_goals (have c5a : ∀ ob, (W.alloc ob).cell? ⟨L.p, 5, none⟩ = some (.int .i64 M.memMin) := fun ob => (oldc (by omega)).trans hmw.1.m5)
  all_goals (have z5a : ∀ ob, (W.alloc ob).frozen? ⟨L.p, 5, none⟩ = false := fun ob => (ModAt.allocW hmw ob).2.fp 5)
  all_goals (have x1b : ∀ ob, (W.alloc ob).cell? ⟨nb, 1, none⟩ = some (.int .i64 10) := fun ob => (oldc (by omega)).trans x1)
  all_goals (have x3b : ∀ ob, (W.alloc ob).cell? ⟨nb, 3, none⟩ = some (.int .i64 C) := fun ob => (oldc (by omega)).trans x3)
  all_goals go_wp2
  all_goals go_ret3
  all_goals (have ha := ModAt.allocW hmw (.cells #[.int .u8 oo, .int .u32 0, .int .u64 0, .string ⟨#[100]⟩] 102))
  all_goals (have hx := ModAt.setDatas ha.1 ha.2 [oo] W.heap.size 1 (by have := hmw.2.o7; exact this) (one3 (World.cell?_alloc_new _ _ _ 0)))
  all_goals exact ⟨rfl, ⟨_, (by rfl), hx⟩, ((hbe.alloc (by omega) _).setCell (Nat.le_refl _) _)⟩

set_option maxRecDepth 100000 in
set_option maxHeartbeats 1000000 in
theorem turned_data_ok (hM : ModAt w bv L M) (hW : ModW w L M) (hC0 : 0 ≤ C) (hC3 : C ≤ 3) (hC : C = 0) : TurnedTo bv L K 10 B C S T w 0 0 { M with datas := [offOp C] } := by
  unfold TurnedTo
  obtain ⟨oo, hoo⟩ : ∃ oo, offOp C = oo := ⟨_, rfl⟩
  have hoo' := hoo
  unfold offOp at hoo
  have hmw := (ModAt.allocW (ModAt.allocW ⟨hM, hW⟩ (.cells #[.int .i64 K, .int .i64 10, .int .i64 B, .int .i64 C, .string ⟨S.toArray⟩, .string ⟨T.toArray⟩] 34)) (.cells #[.int .u8 oo, .int .u32 0, .int .u64 0] 42))
  have hM2 := hmw.1
  have hW2 := hmw.2
  have hpl : L.p < w.heap.size := World.block_lt_of_cell? _ _ hM.m0
  have hbe : Below L.p w ((w.alloc (.cells #[.int .i64 K, .int .i64 10, .int .i64 B, .int .i64 C, .string ⟨S.toArray⟩, .string ⟨T.toArray⟩] 34)).alloc (.cells #[.int .u8 oo, .int .u32 0, .int .u64 0] 42)) := ((Below.refl _ _).alloc (by omega) _).alloc (by simp; omega) _
  have o1 := hW.o1
  have o2 := hW.o2
  have o3 := hW.o3
  have o4 := hW.o4
  have o7 := hW.o7
  rw [hoo']
  clear hoo'
  have c0 : (C != 0) = false := by rw [bne_eq_false_iff_eq]; exact hC
  clear hC
  have dC0 : decide (0 ≤ C) = true := by simp [hC0]
  have dC3 : decide (C ≤ 3) = true := by simp [hC3]
  have hsz : w.heap.size + 1 < ((w.alloc (.cells #[.int .i64 K, .int .i64 10, .int .i64 B, .int .i64 C, .string ⟨S.toArray⟩, .string ⟨T.toArray⟩] 34)).alloc (.cells #[.int .u8 oo, .int .u32 0, .int .u64 0] 42)).heap.size := by simp
  have x1 := (oldc (ob := .cells #[.int .u8 oo, .int .u32 0, .int .u64 0] 42) (o := 1) (w := w.alloc (.cells #[.int .i64 K, .int .i64 10, .int .i64 B, .int .i64 C, .string ⟨S.toArray⟩, .string ⟨T.toArray⟩] 34)) (b := w.heap.size) (by simp)).trans (World.cell?_alloc_new w #[.int .i64 K, .int .i64 10, .int .i64 B, .int .i64 C, .string ⟨S.toArray⟩, .string ⟨T.toArray⟩] 34 1)
  have x2 := (oldc (ob := .cells #[.int .u8 oo, .int .u32 0, .int .u64 0] 42) (o := 2) (w := w.alloc (.cells #[.int .i64 K, .int .i64 10, .int .i64 B, .int .i64 C, .string ⟨S.toArray⟩, .string ⟨T.toArray⟩] 34)) (b := w.heap.size) (by simp)).trans (World.cell?_alloc_new w #[.int .i64 K, .int .i64 10, .int .i64 B, .int .i64 C, .string ⟨S.toArray⟩, .string ⟨T.toArray⟩] 34 2)
  have x3 := (oldc (ob := .cells #[.int .u8 oo, .int .u32 0, .int .u64 0] 42) (o := 3) (w := w.alloc (.cells #[.int .i64 K, .int .i64 10, .int .i64 B, .int .i64 C, .string ⟨S.toArray⟩, .string ⟨T.toArray⟩] 34)) (b := w.heap.size) (by simp)).trans (World.cell?_alloc_new w #[.int .i64 K, .int .i64 10, .int .i64 B, .int .i64 C, .string ⟨S.toArray⟩, .string ⟨T.toArray⟩] 34 3)
  have x4 := (oldc (ob := .cells #[.int .u8 oo, .int .u32 0, .int .u64 0] 42) (o := 4) (w := w.alloc (.cells #[.int .i64 K, .int .i64 10, .int .i64 B, .int .i64 C, .string ⟨S.toArray⟩, .string ⟨T.toArray⟩] 34)) (b := w.heap.size) (by simp)).trans (World.cell?_alloc_new w #[.int .i64 K, .int .i64 10, .int .i64 B, .int .i64 C, .string ⟨S.toArray⟩, .string ⟨T.toArray⟩] 34 4)
  have x5 := (oldc (ob := .cells #[.int .u8 oo, .int .u32 0, .int .u64 0] 42) (o := 5) (w := w.alloc (.cells #[.int .i64 K, .int .i64 10, .int .i64 B, .int .i64 C, .string ⟨S.toArray⟩, .string ⟨T.toArray⟩] 34)) (b := w.heap.size) (by simp)).trans (World.cell?_alloc_new w #[.int .i64 K, .int .i64 10, .int .i64 B, .int .i64 C, .string ⟨S.toArray⟩, .string ⟨T.toArray⟩] 34 5)
  have y0 := World.cell?_alloc_new (w.alloc (.cells #[.int .i64 K, .int .i64 10, .int .i64 B, .int .i64 C, .string ⟨S.toArray⟩, .string ⟨T.toArray⟩] 34)) #[.int .u8 oo, .int .u32 0, .int .u64 0] 42 0
  have y1 := World.cell?_alloc_new (w.alloc (.cells #[.int .i64 K, .int .i64 10, .int .i64 B, .int .i64 C, .string ⟨S.toArray⟩, .string ⟨T.toArray⟩] 34)) #[.int .u8 oo, .int .u32 0, .int .u64 0] 42 1
  have y2 := World.cell?_alloc_new (w.alloc (.cells #[.int .i64 K, .int .i64 10, .int .i64 B, .int .i64 C, .string ⟨S.toArray⟩, .string ⟨T.toArray⟩] 34)) #[.int .u8 oo, .int .u32 0, .int .u64 0] 42 2
  simp only [World.size_alloc] at y0 y1 y2
  simp only [List.getElem?_toArray, List.getElem?_cons_zero, List.getElem?_cons_succ] at x1 x2 x3 x4 x5 y0 y1 y2
  all_goals go_enter Try.func39, Try.ntmps39
  all_goals go_upto_region 81 with fail
  all_goals (generalize ((w.alloc (.cells #[.int .i64 K, .int .i64 10, .int .i64 B, .int .i64 C, .string ⟨S.toArray⟩, .string ⟨T.toArray⟩] 34)).alloc (.cells #[.int .u8 oo, .int .u32 0, .int .u64 0] 42)) = W at *)
  all_goals clear hoo
  all_goals (generalize w.heap.size = nb at *)
  all_goals (have np : ¬ L.p = W.heap.size := by omega)
  all_goals (have np2 : ¬ nb = W.heap.size := by omega)
  all_goals (have np3 : ¬ L.p = nb := by omega)
  all_goals (have np4 : ¬ nb = L.p := by omega)
  all_goals (have c11a : ∀ ob, (W.alloc ob).cell? ⟨L.p, 11, none⟩ = some (.slice L.da M.datas.length L.dc) := fun ob => (oldc (by omega)).trans hmw.1.m11)
  all_goals (have z11a : ∀ ob, (W.alloc ob).frozen? ⟨L.p, 11, none⟩ = false := fun ob => (ModAt.allocW hmw ob).2.fp 11)
  all_goals (have c5a : ∀ ob, (W.alloc ob).cell? ⟨L.p, 5, none⟩ = some (.int .i64 M.memMin) := fun ob => (oldc (by omega)).trans hmw.1.m5)
  all_goals (have z5a : ∀ ob, (W.alloc ob).frozen? ⟨L.p, 5, none⟩ = false := fun ob => (ModAt.allocW hmw ob).2.fp 5)
  all_goals (have x1b : ∀ ob, (W.alloc ob).cell? ⟨nb, 1, none⟩ = some (.int .i64 10) := fun ob => (oldc (by omega)).trans x1)
  all_goals (have x3b : ∀ ob, (W.alloc ob).cell? ⟨nb, 3, none⟩ = some (.int .i64 C) := fun ob => (oldc (by omega)).trans x3)
  all_goals go_wp2
  all_goals go_ret3
  all_goals (have ha := ModAt.allocW hmw (.cells #[.int .u8 oo, .int .u32 0, .int .u64 0, .string ⟨#[100]⟩] 102))
  all_goals (have hx := ModAt.setDatas ha.1 ha.2 [oo] W.heap.size 1 (by have := hmw.2.o7; exact this) (one3 (World.cell?_alloc_new _ _ _ 0)))
  all_goals exact ⟨rfl, ⟨_, (by rfl), hx⟩, ((hbe.alloc (by omega) _).setCell (Nat.le_refl _) _)⟩

set_option maxRecDepth 100000 in
set_option maxHeartbeats 1000000 in
theorem turned_data_off (hM : ModAt w bv L M) (hW : ModW w L M) (hC0 : 0 ≤ C) (hC3 : C ≤ 3)  : TurnedTo bv L K 12 B C S T w 0 20 { M with datas := [offOp C], memMin := -1 } := by
  unfold TurnedTo
  obtain ⟨oo, hoo⟩ : ∃ oo, offOp C = oo := ⟨_, rfl⟩
  have hoo' := hoo
  unfold offOp at hoo
  have hmw := (ModAt.allocW (ModAt.allocW ⟨hM, hW⟩ (.cells #[.int .i64 K, .int .i64 12, .int .i64 B, .int .i64 C, .string ⟨S.toArray⟩, .string ⟨T.toArray⟩] 34)) (.cells #[.int .u8 oo, .int .u32 0, .int .u64 0] 42))
  have hM2 := hmw.1
  have hW2 := hmw.2
  have hpl : L.p < w.heap.size := World.block_lt_of_cell? _ _ hM.m0
  have hbe : Below L.p w ((w.alloc (.cells #[.int .i64 K, .int .i64 12, .int .i64 B, .int .i64 C, .string ⟨S.toArray⟩, .string ⟨T.toArray⟩] 34)).alloc (.cells #[.int .u8 oo, .int .u32 0, .int .u64 0] 42)) := ((Below.refl _ _).alloc (by omega) _).alloc (by simp; omega) _
  have o1 := hW.o1
  have o2 := hW.o2
  have o3 := hW.o3
  have o4 := hW.o4
  have o7 := hW.o7
  rw [hoo']
  clear hoo'
  have dC0 : decide (0 ≤ C) = true := by simp [hC0]
  have dC3 : decide (C ≤ 3) = true := by simp [hC3]
  have hsz : w.heap.size + 1 < ((w.alloc (.cells #[.int .i64 K, .int .i64 12, .int .i64 B, .int .i64 C, .string ⟨S.toArray⟩, .string ⟨T.toArray⟩] 34)).alloc (.cells #[.int .u8 oo, .int .u32 0, .int .u64 0] 42)).heap.size := by simp
  have x1 := (oldc (ob := .cells #[.int .u8 oo, .int .u32 0, .int .u64 0] 42) (o := 1) (w := w.alloc (.cells #[.int .i64 K, .int .i64 12, .int .i64 B, .int .i64 C, .string ⟨S.toArray⟩, .string ⟨T.toArray⟩] 34)) (b := w.heap.size) (by simp)).trans (World.cell?_alloc_new w #[.int .i64 K, .int .i64 12, .int .i64 B, .int .i64 C, .string ⟨S.toArray⟩, .string ⟨T.toArray⟩] 34 1)
  have x2 := (oldc (ob := .cells #[.int .u8 oo, .int .u32 0, .int .u64 0] 42) (o := 2) (w := w.alloc (.cells #[.int .i64 K, .int .i64 12, .int .i64 B, .int .i64 C, .string ⟨S.toArray⟩, .string ⟨T.toArray⟩] 34)) (b := w.heap.size) (by simp)).trans (World.cell?_alloc_new w #[.int .i64 K, .int .i64 12, .int .i64 B, .int .i64 C, .string ⟨S.toArray⟩, .string ⟨T.toArray⟩] 34 2)
  have x3 := (oldc (ob := .cells #[.int .u8 oo, .int .u32 0, .int .u64 0] 42) (o := 3) (w := w.alloc (.cells #[.int .i64 K, .int .i64 12, .int .i64 B, .int .i64 C, .string ⟨S.toArray⟩, .string ⟨T.toArray⟩] 34)) (b := w.heap.size) (by simp)).trans (World.cell?_alloc_new w #[.int .i64 K, .int .i64 12, .int .i64 B, .int .i64 C, .string ⟨S.toArray⟩, .string ⟨T.toArray⟩] 34 3)
  have x4 := (oldc (ob := .cells #[.int .u8 oo, .int .u32 0, .int .u64 0] 42) (o := 4) (w := w.alloc (.cells #[.int .i64 K, .int .i64 12, .int .i64 B, .int .i64 C, .string ⟨S.toArray⟩, .string ⟨T.toArray⟩] 34)) (b := w.heap.size) (by simp)).trans (World.cell?_alloc_new w #[.int .i64 K, .int .i64 12, .int .i64 B, .int .i64 C, .string ⟨S.toArray⟩, .string ⟨T.toArray⟩] 34 4)
  have x5 := (oldc (ob := .cells #[.int .u8 oo, .int .u32 0, .int .u64 0] 42) (o := 5) (w := w.alloc (.cells #[.int .i64 K, .int .i64 12, .int .i64 B, .int .i64 C, .string ⟨S.toArray⟩, .string ⟨T.toArray⟩] 34)) (b := w.heap.size) (by simp)).trans (World.cell?_alloc_new w #[.int .i64 K, .int .i64 12, .int .i64 B, .int .i64 C, .string ⟨S.toArray⟩, .string ⟨T.toArray⟩] 34 5)
  have y0 := World.cell?_alloc_new (w.alloc (.cells #[.int .i64 K, .int .i64 12, .int .i64 B, .int .i64 C, .string ⟨S.toArray⟩, .string ⟨T.toArray⟩] 34)) #[.int .u8 oo, .int .u32 0, .int .u64 0] 42 0
  have y1 := World.cell?_alloc_new (w.alloc (.cells #[.int .i64 K, .int .i64 12, .int .i64 B, .int .i64 C, .string ⟨S.toArray⟩, .string ⟨T.toArray⟩] 34)) #[.int .u8 oo, .int .u32 0, .int .u64 0] 42 1
  have y2 := World.cell?_alloc_new (w.alloc (.cells #[.int .i64 K, .int .i64 12, .int .i64 B, .int .i64 C, .string ⟨S.toArray⟩, .string ⟨T.toArray⟩] 34)) #[.int .u8 oo, .int .u32 0, .int .u64 0] 42 2
  simp only [World.size_alloc] at y0 y1 y2
  simp only [List.getElem?_toArray, List.getElem?_cons_zero, List.getElem?_cons_succ] at x1 x2 x3 x4 x5 y0 y1 y2
  all_goals go_enter Try.func39, Try.ntmps39
  all_goals go_upto_region 81 with fail
  all_goals (generalize ((w.alloc (.cells #[.int .i64 K, .int .i64 12, .int .i64 B, .int .i64 C, .string ⟨S.toArray⟩, .string ⟨T.toArray⟩] 34)).alloc (.cells #[.int .u8 oo, .int .u32 0, .int .u64 0] 42)) = W at *)
  all_goals clear hoo
  all_goals (generalize w.heap.size = nb at *)
  all_goals (have np : ¬ L.p = W.heap.size := by omega)
  all_goals (have np2 : ¬ nb = W.heap.size := by omega)
  all_goals (have np3 : ¬ L.p = nb := by omega)
  all_goals (have np4 : ¬ nb = L.p := by omega)
  all_goals (have c11a : ∀ ob, (W.alloc ob).cell? ⟨L.p, 11, none⟩ = some (.slice L.da M.datas.length L.dc) := fun ob => (oldc (by omega)).trans hmw.1.m11)
  all_goals (have z11a : ∀ ob, (W.alloc ob).frozen? ⟨L.p, 11, none⟩ = false := fun ob => (ModAt.allocW hmw ob).2.fp 11)
  all_goals (have c5a : ∀ ob, (W.alloc ob).cell? ⟨L.p, 5, none⟩ = some (.int .i64 M.memMin) := fun ob => (oldc (by omega)).trans hmw.1.m5)
  all_goals (have z5a : ∀ ob, (W.alloc ob).frozen? ⟨L.p, 5, none⟩ = false := fun ob => (ModAt.allocW hmw ob).2.fp 5)
  all_goals (have x1b : ∀ ob, (W.alloc ob).cell? ⟨nb, 1, none⟩ = some (.int .i64 12) := fun ob => (oldc (by omega)).trans x1)
  all_goals (have x3b : ∀ ob, (W.alloc ob).cell? ⟨nb, 3, none⟩ = some (.int .i64 C) := fun ob => (oldc (by omega)).trans x3)
  all_goals go_wp2
  all_goals go_ret3
  all_goals (have ha := ModAt.allocW hmw (.cells #[.int .u8 oo, .int .u32 0, .int .u64 0, .string ⟨#[100]⟩] 102))
  all_goals (have hx := ModAt.setDatas ha.1 ha.2 [oo] W.heap.size 1 (by have := hmw.2.o7; exact this) (one3 (World.cell?_alloc_new _ _ _ 0)))
  all_goals (have hx2 := ModAt.setMemMin hx.1 hx.2 (-1))
  all_goals exact ⟨rfl, ⟨_, (by rfl), hx2⟩, (((hbe.alloc (by omega) _).setCell (Nat.le_refl _) _).setCell (Nat.le_refl _) _)⟩

end
end Go.Proofs.Qxb6500273a
