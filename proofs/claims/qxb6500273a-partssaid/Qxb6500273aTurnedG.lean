/-
  WALKS: turned.
-/
import Derived.Test.Qxb6500273aTurned0
import Derived.Deep.Cut
set_option linter.unusedVariables false
set_option linter.unusedSimpArgs false
namespace Go.Proofs.Qxb6500273a
open Go.RowKit

section
variable (bv : Nat) (L : Lay) (M : Md) (K A B C : Int) (S T : List UInt8) (w : World)

set_option maxRecDepth 100000 in
set_option maxHeartbeats 1000000 in
theorem turned_elem_ty (hM : ModAt w bv L M) (hW : ModW w L M) (hu : u32F B = true) (hC0 : 0 ≤ C) (hC3 : C ≤ 3) (hC : C ≠ 0) : TurnedTo bv L K 9 B C S T w 0 27 { M with elems := [⟨offOp C, [B % 4294967296]⟩] } := by
  unfold TurnedTo
  obtain ⟨oo, hoo⟩ : ∃ oo, offOp C = oo := ⟨_, rfl⟩
  have hoo' := hoo
  unfold offOp at hoo
  have hmw := (ModAt.allocW (ModAt.allocW ⟨hM, hW⟩ (.cells #[.int .i64 K, .int .i64 9, .int .i64 B, .int .i64 C, .string ⟨S.toArray⟩, .string ⟨T.toArray⟩] 34)) (.cells #[.int .u8 oo, .int .u32 0, .int .u64 0] 42))
  have hM2 := hmw.1
  have hW2 := hmw.2
  have hpl : L.p < w.heap.size := World.block_lt_of_cell? _ _ hM.m0
  have hbe : Below L.p w ((w.alloc (.cells #[.int .i64 K, .int .i64 9, .int .i64 B, .int .i64 C, .string ⟨S.toArray⟩, .string ⟨T.toArray⟩] 34)).alloc (.cells #[.int .u8 oo, .int .u32 0, .int .u64 0] 42)) := ((Below.refl _ _).alloc (by omega) _).alloc (by simp; omega) _
  have o1 := hW.o1
  have o2 := hW.o2
  have o3 := hW.o3
  have o4 := hW.o4
  have o7 := hW.o7
  rw [hoo']
  clear hoo'
  have HU : ∀ wx, _ := fun wx => u32_any B wx
  rw [hu] at HU
  clear hu
  have c0 : (C != 0) = true := by rw [bne_iff_ne]; exact hC
  clear hC
  have dC0 : decide (0 ≤ C) = true := by simp [hC0]
  have dC3 : decide (C ≤ 3) = true := by simp [hC3]
  have hsz : w.heap.size + 1 < ((w.alloc (.cells #[.int .i64 K, .int .i64 9, .int .i64 B, .int .i64 C, .string ⟨S.toArray⟩, .string ⟨T.toArray⟩] 34)).alloc (.cells #[.int .u8 oo, .int .u32 0, .int .u64 0] 42)).heap.size := by simp
  have x1 := (oldc (ob := .cells #[.int .u8 oo, .int .u32 0, .int .u64 0] 42) (o := 1) (w := w.alloc (.cells #[.int .i64 K, .int .i64 9, .int .i64 B, .int .i64 C, .string ⟨S.toArray⟩, .string ⟨T.toArray⟩] 34)) (b := w.heap.size) (by simp)).trans (World.cell?_alloc_new w #[.int .i64 K, .int .i64 9, .int .i64 B, .int .i64 C, .string ⟨S.toArray⟩, .string ⟨T.toArray⟩] 34 1)
  have x2 := (oldc (ob := .cells #[.int .u8 oo, .int .u32 0, .int .u64 0] 42) (o := 2) (w := w.alloc (.cells #[.int .i64 K, .int .i64 9, .int .i64 B, .int .i64 C, .string ⟨S.toArray⟩, .string ⟨T.toArray⟩] 34)) (b := w.heap.size) (by simp)).trans (World.cell?_alloc_new w #[.int .i64 K, .int .i64 9, .int .i64 B, .int .i64 C, .string ⟨S.toArray⟩, .string ⟨T.toArray⟩] 34 2)
  have x3 := (oldc (ob := .cells #[.int .u8 oo, .int .u32 0, .int .u64 0] 42) (o := 3) (w := w.alloc (.cells #[.int .i64 K, .int .i64 9, .int .i64 B, .int .i64 C, .string ⟨S.toArray⟩, .string ⟨T.toArray⟩] 34)) (b := w.heap.size) (by simp)).trans (World.cell?_alloc_new w #[.int .i64 K, .int .i64 9, .int .i64 B, .int .i64 C, .string ⟨S.toArray⟩, .string ⟨T.toArray⟩] 34 3)
  have x4 := (oldc (ob := .cells #[.int .u8 oo, .int .u32 0, .int .u64 0] 42) (o := 4) (w := w.alloc (.cells #[.int .i64 K, .int .i64 9, .int .i64 B, .int .i64 C, .string ⟨S.toArray⟩, .string ⟨T.toArray⟩] 34)) (b := w.heap.size) (by simp)).trans (World.cell?_alloc_new w #[.int .i64 K, .int .i64 9, .int .i64 B, .int .i64 C, .string ⟨S.toArray⟩, .string ⟨T.toArray⟩] 34 4)
  have x5 := (oldc (ob := .cells #[.int .u8 oo, .int .u32 0, .int .u64 0] 42) (o := 5) (w := w.alloc (.cells #[.int .i64 K, .int .i64 9, .int .i64 B, .int .i64 C, .string ⟨S.toArray⟩, .string ⟨T.toArray⟩] 34)) (b := w.heap.size) (by simp)).trans (World.cell?_alloc_new w #[.int .i64 K, .int .i64 9, .int .i64 B, .int .i64 C, .string ⟨S.toArray⟩, .string ⟨T.toArray⟩] 34 5)
  have y0 := World.cell?_alloc_new (w.alloc (.cells #[.int .i64 K, .int .i64 9, .int .i64 B, .int .i64 C, .string ⟨S.toArray⟩, .string ⟨T.toArray⟩] 34)) #[.int .u8 oo, .int .u32 0, .int .u64 0] 42 0
  have y1 := World.cell?_alloc_new (w.alloc (.cells #[.int .i64 K, .int .i64 9, .int .i64 B, .int .i64 C, .string ⟨S.toArray⟩, .string ⟨T.toArray⟩] 34)) #[.int .u8 oo, .int .u32 0, .int .u64 0] 42 1
  have y2 := World.cell?_alloc_new (w.alloc (.cells #[.int .i64 K, .int .i64 9, .int .i64 B, .int .i64 C, .string ⟨S.toArray⟩, .string ⟨T.toArray⟩] 34)) #[.int .u8 oo, .int .u32 0, .int .u64 0] 42 2
  simp only [World.size_alloc] at y0 y1 y2
  simp only [List.getElem?_toArray, List.getElem?_cons_zero, List.getElem?_cons_succ] at x1 x2 x3 x4 x5 y0 y1 y2
  all_goals go_enter Try.func39, Try.ntmps39
  all_goals go_upto_region 68 with (go_at_call 40; refine (HU _).mono ?_; rintro e w1 ⟨rfl, rfl⟩)
  all_goals (generalize ((w.alloc (.cells #[.int .i64 K, .int .i64 9, .int .i64 B, .int .i64 C, .string ⟨S.toArray⟩, .string ⟨T.toArray⟩] 34)).alloc (.cells #[.int .u8 oo, .int .u32 0, .int .u64 0] 42)) = W at *)
  all_goals clear hoo
  all_goals (generalize w.heap.size = nb at *)
  all_goals (have np : ¬ L.p = W.heap.size := by omega)
  all_goals (have np2 : ¬ nb = W.heap.size := by omega)
  all_goals (have np3 : ¬ L.p = nb := by omega)
  all_goals (have np4 : ¬ nb = L.p := by omega)
  all_goals (have cb : ∀ ob ob2 bl o v, bl < W.heap.size → W.cell? ⟨bl, o, none⟩ = some v → ((W.alloc ob).alloc ob2).cell? ⟨bl, o, none⟩ = some v := fun ob ob2 bl o v hl hv => (oldc (by simp; omega)).trans ((oldc hl).trans hv))
  all_goals (have c10a : ∀ ob ob2, ((W.alloc ob).alloc ob2).cell? ⟨L.p, 10, none⟩ = some (.slice L.ea M.elems.length L.ec) := fun ob ob2 => cb _ _ _ _ _ (by omega) hmw.1.m10)
  all_goals (have z10a : ∀ ob ob2, ((W.alloc ob).alloc ob2).frozen? ⟨L.p, 10, none⟩ = false := fun ob ob2 => (ModAt.allocW (ModAt.allocW hmw ob) ob2).2.fp 10)
  all_goals (have c3a : ∀ ob ob2, ((W.alloc ob).alloc ob2).cell? ⟨L.p, 3, none⟩ = some (.int .i64 M.tabMin) := fun ob ob2 => cb _ _ _ _ _ (by omega) hmw.1.m3)
  all_goals (have z3a : ∀ ob ob2, ((W.alloc ob).alloc ob2).frozen? ⟨L.p, 3, none⟩ = false := fun ob ob2 => (ModAt.allocW (ModAt.allocW hmw ob) ob2).2.fp 3)
  all_goals (have x1b : ∀ ob ob2, ((W.alloc ob).alloc ob2).cell? ⟨nb, 1, none⟩ = some (.int .i64 9) := fun ob ob2 => cb _ _ _ _ _ (by omega) x1)
  all_goals (have x2b : ∀ ob ob2, ((W.alloc ob).alloc ob2).cell? ⟨nb, 2, none⟩ = some (.int .i64 B) := fun ob ob2 => cb _ _ _ _ _ (by omega) x2)
  all_goals (have x3b : ∀ ob ob2, ((W.alloc ob).alloc ob2).cell? ⟨nb, 3, none⟩ = some (.int .i64 C) := fun ob ob2 => cb _ _ _ _ _ (by omega) x3)
  all_goals clear cb
  all_goals go_wp2
  all_goals go_ret3
  all_goals (have ha := ModAt.allocW (ModAt.allocW hmw (.cells #[.int .u32 (B % 4294967296)] 39)) (.cells #[.int .u8 oo, .int .u32 0, .int .u64 0, .slice (some ⟨W.heap.size, 0, none⟩) 1 1] 104))
  all_goals (have hx := ModAt.setElems ha.1 ha.2 [⟨oo, [B % 4294967296]⟩] (W.heap.size + 1) 1 (fun _ => W.heap.size) (by have := hmw.2.o7; omega) (fun _ _ => by have := hmw.2.o7; exact this) (one3 (by simp)) (one3 (by simp)) (one3 (one3 ((oldc (by simp)).trans (World.cell?_alloc_new _ _ _ 0)))))
  all_goals exact ⟨rfl, ⟨_, (by rfl), hx⟩, (((hbe.alloc (by omega) _).alloc (by simp; omega) _).setCell (Nat.le_refl _) _)⟩

set_option maxRecDepth 100000 in
set_option maxHeartbeats 1000000 in
theorem turned_elem_far (hM : ModAt w bv L M) (hW : ModW w L M) (hu : u32F B = true) (hC0 : 0 ≤ C) (hC3 : C ≤ 3) (hC : C = 0) (hB : 2 ≤ B) : TurnedTo bv L K 9 B C S T w 0 15 { M with elems := [⟨offOp C, [B % 4294967296]⟩] } := by
  unfold TurnedTo
  obtain ⟨oo, hoo⟩ : ∃ oo, offOp C = oo := ⟨_, rfl⟩
  have hoo' := hoo
  unfold offOp at hoo
  have hmw := (ModAt.allocW (ModAt.allocW ⟨hM, hW⟩ (.cells #[.int .i64 K, .int .i64 9, .int .i64 B, .int .i64 C, .string ⟨S.toArray⟩, .string ⟨T.toArray⟩] 34)) (.cells #[.int .u8 oo, .int .u32 0, .int .u64 0] 42))
  have hM2 := hmw.1
  have hW2 := hmw.2
  have hpl : L.p < w.heap.size := World.block_lt_of_cell? _ _ hM.m0
  have hbe : Below L.p w ((w.alloc (.cells #[.int .i64 K, .int .i64 9, .int .i64 B, .int .i64 C, .string ⟨S.toArray⟩, .string ⟨T.toArray⟩] 34)).alloc (.cells #[.int .u8 oo, .int .u32 0, .int .u64 0] 42)) := ((Below.refl _ _).alloc (by omega) _).alloc (by simp; omega) _
  have o1 := hW.o1
  have o2 := hW.o2
  have o3 := hW.o3
  have o4 := hW.o4
  have o7 := hW.o7
  rw [hoo']
  clear hoo'
  have HU : ∀ wx, _ := fun wx => u32_any B wx
  rw [hu] at HU
  clear hu
  have c0 : (C != 0) = false := by rw [bne_eq_false_iff_eq]; exact hC
  clear hC
  have dC0 : decide (0 ≤ C) = true := by simp [hC0]
  have dC3 : decide (C ≤ 3) = true := by simp [hC3]
  have hsz : w.heap.size + 1 < ((w.alloc (.cells #[.int .i64 K, .int .i64 9, .int .i64 B, .int .i64 C, .string ⟨S.toArray⟩, .string ⟨T.toArray⟩] 34)).alloc (.cells #[.int .u8 oo, .int .u32 0, .int .u64 0] 42)).heap.size := by simp
  have x1 := (oldc (ob := .cells #[.int .u8 oo, .int .u32 0, .int .u64 0] 42) (o := 1) (w := w.alloc (.cells #[.int .i64 K, .int .i64 9, .int .i64 B, .int .i64 C, .string ⟨S.toArray⟩, .string ⟨T.toArray⟩] 34)) (b := w.heap.size) (by simp)).trans (World.cell?_alloc_new w #[.int .i64 K, .int .i64 9, .int .i64 B, .int .i64 C, .string ⟨S.toArray⟩, .string ⟨T.toArray⟩] 34 1)
  have x2 := (oldc (ob := .cells #[.int .u8 oo, .int .u32 0, .int .u64 0] 42) (o := 2) (w := w.alloc (.cells #[.int .i64 K, .int .i64 9, .int .i64 B, .int .i64 C, .string ⟨S.toArray⟩, .string ⟨T.toArray⟩] 34)) (b := w.heap.size) (by simp)).trans (World.cell?_alloc_new w #[.int .i64 K, .int .i64 9, .int .i64 B, .int .i64 C, .string ⟨S.toArray⟩, .string ⟨T.toArray⟩] 34 2)
  have x3 := (oldc (ob := .cells #[.int .u8 oo, .int .u32 0, .int .u64 0] 42) (o := 3) (w := w.alloc (.cells #[.int .i64 K, .int .i64 9, .int .i64 B, .int .i64 C, .string ⟨S.toArray⟩, .string ⟨T.toArray⟩] 34)) (b := w.heap.size) (by simp)).trans (World.cell?_alloc_new w #[.int .i64 K, .int .i64 9, .int .i64 B, .int .i64 C, .string ⟨S.toArray⟩, .string ⟨T.toArray⟩] 34 3)
  have x4 := (oldc (ob := .cells #[.int .u8 oo, .int .u32 0, .int .u64 0] 42) (o := 4) (w := w.alloc (.cells #[.int .i64 K, .int .i64 9, .int .i64 B, .int .i64 C, .string ⟨S.toArray⟩, .string ⟨T.toArray⟩] 34)) (b := w.heap.size) (by simp)).trans (World.cell?_alloc_new w #[.int .i64 K, .int .i64 9, .int .i64 B, .int .i64 C, .string ⟨S.toArray⟩, .string ⟨T.toArray⟩] 34 4)
  have x5 := (oldc (ob := .cells #[.int .u8 oo, .int .u32 0, .int .u64 0] 42) (o := 5) (w := w.alloc (.cells #[.int .i64 K, .int .i64 9, .int .i64 B, .int .i64 C, .string ⟨S.toArray⟩, .string ⟨T.toArray⟩] 34)) (b := w.heap.size) (by simp)).trans (World.cell?_alloc_new w #[.int .i64 K, .int .i64 9, .int .i64 B, .int .i64 C, .string ⟨S.toArray⟩, .string ⟨T.toArray⟩] 34 5)
  have y0 := World.cell?_alloc_new (w.alloc (.cells #[.int .i64 K, .int .i64 9, .int .i64 B, .int .i64 C, .string ⟨S.toArray⟩, .string ⟨T.toArray⟩] 34)) #[.int .u8 oo, .int .u32 0, .int .u64 0] 42 0
  have y1 := World.cell?_alloc_new (w.alloc (.cells #[.int .i64 K, .int .i64 9, .int .i64 B, .int .i64 C, .string ⟨S.toArray⟩, .string ⟨T.toArray⟩] 34)) #[.int .u8 oo, .int .u32 0, .int .u64 0] 42 1
  have y2 := World.cell?_alloc_new (w.alloc (.cells #[.int .i64 K, .int .i64 9, .int .i64 B, .int .i64 C, .string ⟨S.toArray⟩, .string ⟨T.toArray⟩] 34)) #[.int .u8 oo, .int .u32 0, .int .u64 0] 42 2
  simp only [World.size_alloc] at y0 y1 y2
  simp only [List.getElem?_toArray, List.getElem?_cons_zero, List.getElem?_cons_succ] at x1 x2 x3 x4 x5 y0 y1 y2
  all_goals go_enter Try.func39, Try.ntmps39
  all_goals go_upto_region 68 with (go_at_call 40; refine (HU _).mono ?_; rintro e w1 ⟨rfl, rfl⟩)
  all_goals (generalize ((w.alloc (.cells #[.int .i64 K, .int .i64 9, .int .i64 B, .int .i64 C, .string ⟨S.toArray⟩, .string ⟨T.toArray⟩] 34)).alloc (.cells #[.int .u8 oo, .int .u32 0, .int .u64 0] 42)) = W at *)
  all_goals clear hoo
  all_goals (generalize w.heap.size = nb at *)
  all_goals (have np : ¬ L.p = W.heap.size := by omega)
  all_goals (have np2 : ¬ nb = W.heap.size := by omega)
  all_goals (have np3 : ¬ L.p = nb := by omega)
  all_goals (have np4 : ¬ nb = L.p := by omega)
  all_goals (have cb : ∀ ob ob2 bl o v, bl < W.heap.size → W.cell? ⟨bl, o, none⟩ = some v → ((W.alloc ob).alloc ob2).cell? ⟨bl, o, none⟩ = some v := fun ob ob2 bl o v hl hv => (oldc (by simp; omega)).trans ((oldc hl).trans hv))
  all_goals (have c10a : ∀ ob ob2, ((W.alloc ob).alloc ob2).cell? ⟨L.p, 10, none⟩ = some (.slice L.ea M.elems.length L.ec) := fun ob ob2 => cb _ _ _ _ _ (by omega) hmw.1.m10)
  all_goals (have z10a : ∀ ob ob2, ((W.alloc ob).alloc ob2).frozen? ⟨L.p, 10, none⟩ = false := fun ob ob2 => (ModAt.allocW (ModAt.allocW hmw ob) ob2).2.fp 10)
  all_goals (have c3a : ∀ ob ob2, ((W.alloc ob).alloc ob2).cell? ⟨L.p, 3, none⟩ = some (.int .i64 M.tabMin) := fun ob ob2 => cb _ _ _ _ _ (by omega) hmw.1.m3)
  all_goals (have z3a : ∀ ob ob2, ((W.alloc ob).alloc ob2).frozen? ⟨L.p, 3, none⟩ = false := fun ob ob2 => (ModAt.allocW (ModAt.allocW hmw ob) ob2).2.fp 3)
  all_goals (have x1b : ∀ ob ob2, ((W.alloc ob).alloc ob2).cell? ⟨nb, 1, none⟩ = some (.int .i64 9) := fun ob ob2 => cb _ _ _ _ _ (by omega) x1)
  all_goals (have x2b : ∀ ob ob2, ((W.alloc ob).alloc ob2).cell? ⟨nb, 2, none⟩ = some (.int .i64 B) := fun ob ob2 => cb _ _ _ _ _ (by omega) x2)
  all_goals (have x3b : ∀ ob ob2, ((W.alloc ob).alloc ob2).cell? ⟨nb, 3, none⟩ = some (.int .i64 C) := fun ob ob2 => cb _ _ _ _ _ (by omega) x3)
  all_goals clear cb
  all_goals go_wp2
  all_goals go_ret3
  all_goals (have ha := ModAt.allocW (ModAt.allocW hmw (.cells #[.int .u32 (B % 4294967296)] 39)) (.cells #[.int .u8 oo, .int .u32 0, .int .u64 0, .slice (some ⟨W.heap.size, 0, none⟩) 1 1] 104))
  all_goals (have hx := ModAt.setElems ha.1 ha.2 [⟨oo, [B % 4294967296]⟩] (W.heap.size + 1) 1 (fun _ => W.heap.size) (by have := hmw.2.o7; omega) (fun _ _ => by have := hmw.2.o7; exact this) (one3 (by simp)) (one3 (by simp)) (one3 (one3 ((oldc (by simp)).trans (World.cell?_alloc_new _ _ _ 0)))))
  all_goals exact ⟨rfl, ⟨_, (by rfl), hx⟩, (((hbe.alloc (by omega) _).alloc (by simp; omega) _).setCell (Nat.le_refl _) _)⟩

set_option maxRecDepth 100000 in
set_option maxHeartbeats 1000000 in
theorem turned_elem_ok (hM : ModAt w bv L M) (hW : ModW w L M) (hu : u32F B = true) (hC0 : 0 ≤ C) (hC3 : C ≤ 3) (hC : C = 0) (hB : B < 2) : TurnedTo bv L K 9 B C S T w 0 0 { M with elems := [⟨offOp C, [B % 4294967296]⟩] } := by
  unfold TurnedTo
  obtain ⟨oo, hoo⟩ : ∃ oo, offOp C = oo := ⟨_, rfl⟩
  have hoo' := hoo
  unfold offOp at hoo
  have hmw := (ModAt.allocW (ModAt.allocW ⟨hM, hW⟩ (.cells #[.int .i64 K, .int .i64 9, .int .i64 B, .int .i64 C, .string ⟨S.toArray⟩, .string ⟨T.toArray⟩] 34)) (.cells #[.int .u8 oo, .int .u32 0, .int .u64 0] 42))
  have hM2 := hmw.1
  have hW2 := hmw.2
  have hpl : L.p < w.heap.size := World.block_lt_of_cell? _ _ hM.m0
  have hbe : Below L.p w ((w.alloc (.cells #[.int .i64 K, .int .i64 9, .int .i64 B, .int .i64 C, .string ⟨S.toArray⟩, .string ⟨T.toArray⟩] 34)).alloc (.cells #[.int .u8 oo, .int .u32 0, .int .u64 0] 42)) := ((Below.refl _ _).alloc (by omega) _).alloc (by simp; omega) _
  have o1 := hW.o1
  have o2 := hW.o2
  have o3 := hW.o3
  have o4 := hW.o4
  have o7 := hW.o7
  rw [hoo']
  clear hoo'
  have HU : ∀ wx, _ := fun wx => u32_any B wx
  rw [hu] at HU
  clear hu
  have c0 : (C != 0) = false := by rw [bne_eq_false_iff_eq]; exact hC
  clear hC
  have dC0 : decide (0 ≤ C) = true := by simp [hC0]
  have dC3 : decide (C ≤ 3) = true := by simp [hC3]
  have hsz : w.heap.size + 1 < ((w.alloc (.cells #[.int .i64 K, .int .i64 9, .int .i64 B, .int .i64 C, .string ⟨S.toArray⟩, .string ⟨T.toArray⟩] 34)).alloc (.cells #[.int .u8 oo, .int .u32 0, .int .u64 0] 42)).heap.size := by simp
  have x1 := (oldc (ob := .cells #[.int .u8 oo, .int .u32 0, .int .u64 0] 42) (o := 1) (w := w.alloc (.cells #[.int .i64 K, .int .i64 9, .int .i64 B, .int .i64 C, .string ⟨S.toArray⟩, .string ⟨T.toArray⟩] 34)) (b := w.heap.size) (by simp)).trans (World.cell?_alloc_new w #[.int .i64 K, .int .i64 9, .int .i64 B, .int .i64 C, .string ⟨S.toArray⟩, .string ⟨T.toArray⟩] 34 1)
  have x2 := (oldc (ob := .cells #[.int .u8 oo, .int .u32 0, .int .u64 0] 42) (o := 2) (w := w.alloc (.cells #[.int .i64 K, .int .i64 9, .int .i64 B, .int .i64 C, .string ⟨S.toArray⟩, .string ⟨T.toArray⟩] 34)) (b := w.heap.size) (by simp)).trans (World.cell?_alloc_new w #[.int .i64 K, .int .i64 9, .int .i64 B, .int .i64 C, .string ⟨S.toArray⟩, .string ⟨T.toArray⟩] 34 2)
  have x3 := (oldc (ob := .cells #[.int .u8 oo, .int .u32 0, .int .u64 0] 42) (o := 3) (w := w.alloc (.cells #[.int .i64 K, .int .i64 9, .int .i64 B, .int .i64 C, .string ⟨S.toArray⟩, .string ⟨T.toArray⟩] 34)) (b := w.heap.size) (by simp)).trans (World.cell?_alloc_new w #[.int .i64 K, .int .i64 9, .int .i64 B, .int .i64 C, .string ⟨S.toArray⟩, .string ⟨T.toArray⟩] 34 3)
  have x4 := (oldc (ob := .cells #[.int .u8 oo, .int .u32 0, .int .u64 0] 42) (o := 4) (w := w.alloc (.cells #[.int .i64 K, .int .i64 9, .int .i64 B, .int .i64 C, .string ⟨S.toArray⟩, .string ⟨T.toArray⟩] 34)) (b := w.heap.size) (by simp)).trans (World.cell?_alloc_new w #[.int .i64 K, .int .i64 9, .int .i64 B, .int .i64 C, .string ⟨S.toArray⟩, .string ⟨T.toArray⟩] 34 4)
  have x5 := (oldc (ob := .cells #[.int .u8 oo, .int .u32 0, .int .u64 0] 42) (o := 5) (w := w.alloc (.cells #[.int .i64 K, .int .i64 9, .int .i64 B, .int .i64 C, .string ⟨S.toArray⟩, .string ⟨T.toArray⟩] 34)) (b := w.heap.size) (by simp)).trans (World.cell?_alloc_new w #[.int .i64 K, .int .i64 9, .int .i64 B, .int .i64 C, .string ⟨S.toArray⟩, .string ⟨T.toArray⟩] 34 5)
  have y0 := World.cell?_alloc_new (w.alloc (.cells #[.int .i64 K, .int .i64 9, .int .i64 B, .int .i64 C, .string ⟨S.toArray⟩, .string ⟨T.toArray⟩] 34)) #[.int .u8 oo, .int .u32 0, .int .u64 0] 42 0
  have y1 := World.cell?_alloc_new (w.alloc (.cells #[.int .i64 K, .int .i64 9, .int .i64 B, .int .i64 C, .string ⟨S.toArray⟩, .string ⟨T.toArray⟩] 34)) #[.int .u8 oo, .int .u32 0, .int .u64 0] 42 1
  have y2 := World.cell?_alloc_new (w.alloc (.cells #[.int .i64 K, .int .i64 9, .int .i64 B, .int .i64 C, .string ⟨S.toArray⟩, .string ⟨T.toArray⟩] 34)) #[.int .u8 oo, .int .u32 0, .int .u64 0] 42 2
  simp only [World.size_alloc] at y0 y1 y2
  simp only [List.getElem?_toArray, List.getElem?_cons_zero, List.getElem?_cons_succ] at x1 x2 x3 x4 x5 y0 y1 y2
  all_goals go_enter Try.func39, Try.ntmps39
  all_goals go_upto_region 68 with (go_at_call 40; refine (HU _).mono ?_; rintro e w1 ⟨rfl, rfl⟩)
  all_goals (generalize ((w.alloc (.cells #[.int .i64 K, .int .i64 9, .int .i64 B, .int .i64 C, .string ⟨S.toArray⟩, .string ⟨T.toArray⟩] 34)).alloc (.cells #[.int .u8 oo, .int .u32 0, .int .u64 0] 42)) = W at *)
  all_goals clear hoo
  all_goals (generalize w.heap.size = nb at *)
  all_goals (have np : ¬ L.p = W.heap.size := by omega)
  all_goals (have np2 : ¬ nb = W.heap.size := by omega)
  all_goals (have np3 : ¬ L.p = nb := by omega)
  all_goals (have np4 : ¬ nb = L.p := by omega)
  all_goals (have cb : ∀ ob ob2 bl o v, bl < W.heap.size → W.cell? ⟨bl, o, none⟩ = some v → ((W.alloc ob).alloc ob2).cell? ⟨bl, o, none⟩ = some v := fun ob ob2 bl o v hl hv => (oldc (by simp; omega)).trans ((oldc hl).trans hv))
  all_goals (have c10a : ∀ ob ob2, ((W.alloc ob).alloc ob2).cell? ⟨L.p, 10, none⟩ = some (.slice L.ea M.elems.length L.ec) := fun ob ob2 => cb _ _ _ _ _ (by omega) hmw.1.m10)
  all_goals (have z10a : ∀ ob ob2, ((W.alloc ob).alloc ob2).frozen? ⟨L.p, 10, none⟩ = false := fun ob ob2 => (ModAt.allocW (ModAt.allocW hmw ob) ob2).2.fp 10)
  all_goals (have c3a : ∀ ob ob2, ((W.alloc ob).alloc ob2).cell? ⟨L.p, 3, none⟩ = some (.int .i64 M.tabMin) := fun ob ob2 => cb _ _ _ _ _ (by omega) hmw.1.m3)
  all_goals (have z3a : ∀ ob ob2, ((W.alloc ob).alloc ob2).frozen? ⟨L.p, 3, none⟩ = false := fun ob ob2 => (ModAt.allocW (ModAt.allocW hmw ob) ob2).2.fp 3)
  all_goals (have x1b : ∀ ob ob2, ((W.alloc ob).alloc ob2).cell? ⟨nb, 1, none⟩ = some (.int .i64 9) := fun ob ob2 => cb _ _ _ _ _ (by omega) x1)
  all_goals (have x2b : ∀ ob ob2, ((W.alloc ob).alloc ob2).cell? ⟨nb, 2, none⟩ = some (.int .i64 B) := fun ob ob2 => cb _ _ _ _ _ (by omega) x2)
  all_goals (have x3b : ∀ ob ob2, ((W.alloc ob).alloc ob2).cell? ⟨nb, 3, none⟩ = some (.int .i64 C) := fun ob ob2 => cb _ _ _ _ _ (by omega) x3)
  all_goals clear cb
  all_goals go_wp2
  all_goals go_ret3
  all_goals (have ha := ModAt.allocW (ModAt.allocW hmw (.cells #[.int .u32 (B % 4294967296)] 39)) (.cells #[.int .u8 oo, .int .u32 0, .int .u64 0, .slice (some ⟨W.heap.size, 0, none⟩) 1 1] 104))
  all_goals (have hx := ModAt.setElems ha.1 ha.2 [⟨oo, [B % 4294967296]⟩] (W.heap.size + 1) 1 (fun _ => W.heap.size) (by have := hmw.2.o7; omega) (fun _ _ => by have := hmw.2.o7; exact this) (one3 (by simp)) (one3 (by simp)) (one3 (one3 ((oldc (by simp)).trans (World.cell?_alloc_new _ _ _ 0)))))
  all_goals exact ⟨rfl, ⟨_, (by rfl), hx⟩, (((hbe.alloc (by omega) _).alloc (by simp; omega) _).setCell (Nat.le_refl _) _)⟩

set_option maxRecDepth 100000 in
set_option maxHeartbeats 1000000 in
theorem turned_elem_off (hM : ModAt w bv L M) (hW : ModW w L M) (hu : u32F B = true) (hC0 : 0 ≤ C) (hC3 : C ≤ 3)  : TurnedTo bv L K 11 B C S T w 0 21 { M with elems := [⟨offOp C, [B % 4294967296]⟩], tabMin := -1 } := by
  unfold TurnedTo
  obtain ⟨oo, hoo⟩ : ∃ oo, offOp C = oo := ⟨_, rfl⟩
  have hoo' := hoo
  unfold offOp at hoo
  have hmw := (ModAt.allocW (ModAt.allocW ⟨hM, hW⟩ (.cells #[.int .i64 K, .int .i64 11, .int .i64 B, .int .i64 C, .string ⟨S.toArray⟩, .string ⟨T.toArray⟩] 34)) (.cells #[.int .u8 oo, .int .u32 0, .int .u64 0] 42))
  have hM2 := hmw.1
  have hW2 := hmw.2
  have hpl : L.p < w.heap.size := World.block_lt_of_cell? _ _ hM.m0
  have hbe : Below L.p w ((w.alloc (.cells #[.int .i64 K, .int .i64 11, .int .i64 B, .int .i64 C, .string ⟨S.toArray⟩, .string ⟨T.toArray⟩] 34)).alloc (.cells #[.int .u8 oo, .int .u32 0, .int .u64 0] 42)) := ((Below.refl _ _).alloc (by omega) _).alloc (by simp; omega) _
  have o1 := hW.o1
  have o2 := hW.o2
  have o3 := hW.o3
  have o4 := hW.o4
  have o7 := hW.o7
  rw [hoo']
  clear hoo'
  have HU : ∀ wx, _ := fun wx => u32_any B wx
  rw [hu] at HU
  clear hu
  have dC0 : decide (0 ≤ C) = true := by simp [hC0]
  have dC3 : decide (C ≤ 3) = true := by simp [hC3]
  have hsz : w.heap.size + 1 < ((w.alloc (.cells #[.int .i64 K, .int .i64 11, .int .i64 B, .int .i64 C, .string ⟨S.toArray⟩, .string ⟨T.toArray⟩] 34)).alloc (.cells #[.int .u8 oo, .int .u32 0, .int .u64 0] 42)).heap.size := by simp
  have x1 := (oldc (ob := .cells #[.int .u8 oo, .int .u32 0, .int .u64 0] 42) (o := 1) (w := w.alloc (.cells #[.int .i64 K, .int .i64 11, .int .i64 B, .int .i64 C, .string ⟨S.toArray⟩, .string ⟨T.toArray⟩] 34)) (b := w.heap.size) (by simp)).trans (World.cell?_alloc_new w #[.int .i64 K, .int .i64 11, .int .i64 B, .int .i64 C, .string ⟨S.toArray⟩, .string ⟨T.toArray⟩] 34 1)
  have x2 := (oldc (ob := .cells #[.int .u8 oo, .int .u32 0, .int .u64 0] 42) (o := 2) (w := w.alloc (.cells #[.int .i64 K, .int .i64 11, .int .i64 B, .int .i64 C, .string ⟨S.toArray⟩, .string ⟨T.toArray⟩] 34)) (b := w.heap.size) (by simp)).trans (World.cell?_alloc_new w #[.int .i64 K, .int .i64 11, .int .i64 B, .int .i64 C, .string ⟨S.toArray⟩, .string ⟨T.toArray⟩] 34 2)
  have x3 := (oldc (ob := .cells #[.int .u8 oo, .int .u32 0, .int .u64 0] 42) (o := 3) (w := w.alloc (.cells #[.int .i64 K, .int .i64 11, .int .i64 B, .int .i64 C, .string ⟨S.toArray⟩, .string ⟨T.toArray⟩] 34)) (b := w.heap.size) (by simp)).trans (World.cell?_alloc_new w #[.int .i64 K, .int .i64 11, .int .i64 B, .int .i64 C, .string ⟨S.toArray⟩, .string ⟨T.toArray⟩] 34 3)
  have x4 := (oldc (ob := .cells #[.int .u8 oo, .int .u32 0, .int .u64 0] 42) (o := 4) (w := w.alloc (.cells #[.int .i64 K, .int .i64 11, .int .i64 B, .int .i64 C, .string ⟨S.toArray⟩, .string ⟨T.toArray⟩] 34)) (b := w.heap.size) (by simp)).trans (World.cell?_alloc_new w #[.int .i64 K, .int .i64 11, .int .i64 B, .int .i64 C, .string ⟨S.toArray⟩, .string ⟨T.toArray⟩] 34 4)
  have x5 := (oldc (ob := .cells #[.int .u8 oo, .int .u32 0, .int .u64 0] 42) (o := 5) (w := w.alloc (.cells #[.int .i64 K, .int .i64 11, .int .i64 B, .int .i64 C, .string ⟨S.toArray⟩, .string ⟨T.toArray⟩] 34)) (b := w.heap.size) (by simp)).trans (World.cell?_alloc_new w #[.int .i64 K, .int .i64 11, .int .i64 B, .int .i64 C, .string ⟨S.toArray⟩, .string ⟨T.toArray⟩] 34 5)
  have y0 := World.cell?_alloc_new (w.alloc (.cells #[.int .i64 K, .int .i64 11, .int .i64 B, .int .i64 C, .string ⟨S.toArray⟩, .string ⟨T.toArray⟩] 34)) #[.int .u8 oo, .int .u32 0, .int .u64 0] 42 0
  have y1 := World.cell?_alloc_new (w.alloc (.cells #[.int .i64 K, .int .i64 11, .int .i64 B, .int .i64 C, .string ⟨S.toArray⟩, .string ⟨T.toArray⟩] 34)) #[.int .u8 oo, .int .u32 0, .int .u64 0] 42 1
  have y2 := World.cell?_alloc_new (w.alloc (.cells #[.int .i64 K, .int .i64 11, .int .i64 B, .int .i64 C, .string ⟨S.toArray⟩, .string ⟨T.toArray⟩] 34)) #[.int .u8 oo, .int .u32 0, .int .u64 0] 42 2
  simp only [World.size_alloc] at y0 y1 y2
  simp only [List.getElem?_toArray, List.getElem?_cons_zero, List.getElem?_cons_succ] at x1 x2 x3 x4 x5 y0 y1 y2
  all_goals go_enter Try.func39, Try.ntmps39
  all_goals go_upto_region 68 with (go_at_call 40; refine (HU _).mono ?_; rintro e w1 ⟨rfl, rfl⟩)
  all_goals (generalize ((w.alloc (.cells #[.int .i64 K, .int .i64 11, .int .i64 B, .int .i64 C, .string ⟨S.toArray⟩, .string ⟨T.toArray⟩] 34)).alloc (.cells #[.int .u8 oo, .int .u32 0, .int .u64 0] 42)) = W at *)
  all_goals clear hoo
  all_goals (generalize w.heap.size = nb at *)
  all_goals (have np : ¬ L.p = W.heap.size := by omega)
  all_goals (have np2 : ¬ nb = W.heap.size := by omega)
  all_goals (have np3 : ¬ L.p = nb := by omega)
  all_goals (have np4 : ¬ nb = L.p := by omega)
  all_goals (have cb : ∀ ob ob2 bl o v, bl < W.heap.size → W.cell? ⟨bl, o, none⟩ = some v → ((W.alloc ob).alloc ob2).cell? ⟨bl, o, none⟩ = some v := fun ob ob2 bl o v hl hv => (oldc (by simp; omega)).trans ((oldc hl).trans hv))
  all_goals (have c10a : ∀ ob ob2, ((W.alloc ob).alloc ob2).cell? ⟨L.p, 10, none⟩ = some (.slice L.ea M.elems.length L.ec) := fun ob ob2 => cb _ _ _ _ _ (by omega) hmw.1.m10)
  all_goals (have z10a : ∀ ob ob2, ((W.alloc ob).alloc ob2).frozen? ⟨L.p, 10, none⟩ = false := fun ob ob2 => (ModAt.allocW (ModAt.allocW hmw ob) ob2).2.fp 10)
  all_goals (have c3a : ∀ ob ob2, ((W.alloc ob).alloc ob2).cell? ⟨L.p, 3, none⟩ = some (.int .i64 M.tabMin) := fun ob ob2 => cb _ _ _ _ _ (by omega) hmw.1.m3)
  all_goals (have z3a : ∀ ob ob2, ((W.alloc ob).alloc ob2).frozen? ⟨L.p, 3, none⟩ = false := fun ob ob2 => (ModAt.allocW (ModAt.allocW hmw ob) ob2).2.fp 3)
  all_goals (have x1b : ∀ ob ob2, ((W.alloc ob).alloc ob2).cell? ⟨nb, 1, none⟩ = some (.int .i64 11) := fun ob ob2 => cb _ _ _ _ _ (by omega) x1)
  all_goals (have x2b : ∀ ob ob2, ((W.alloc ob).alloc ob2).cell? ⟨nb, 2, none⟩ = some (.int .i64 B) := fun ob ob2 => cb _ _ _ _ _ (by omega) x2)
  all_goals (have x3b : ∀ ob ob2, ((W.alloc ob).alloc ob2).cell? ⟨nb, 3, none⟩ = some (.int .i64 C) := fun ob ob2 => cb _ _ _ _ _ (by omega) x3)
  all_goals clear cb
  all_goals go_wp2
  all_goals go_ret3
  all_goals (have ha := ModAt.allocW (ModAt.allocW hmw (.cells #[.int .u32 (B % 4294967296)] 39)) (.cells #[.int .u8 oo, .int .u32 0, .int .u64 0, .slice (some ⟨W.heap.size, 0, none⟩) 1 1] 104))
  all_goals (have hx := ModAt.setElems ha.1 ha.2 [⟨oo, [B % 4294967296]⟩] (W.heap.size + 1) 1 (fun _ => W.heap.size) (by have := hmw.2.o7; omega) (fun _ _ => by have := hmw.2.o7; exact this) (one3 (by simp)) (one3 (by simp)) (one3 (one3 ((oldc (by simp)).trans (World.cell?_alloc_new _ _ _ 0)))))
  all_goals (have hx2 := ModAt.setTabMin hx.1 hx.2 (-1))
  all_goals exact ⟨rfl, ⟨_, (by rfl), hx2⟩, ((((hbe.alloc (by omega) _).alloc (by simp; omega) _).setCell (Nat.le_refl _) _).setCell (Nat.le_refl _) _)⟩

set_option maxRecDepth 100000 in
set_option maxHeartbeats 1000000 in
theorem turned_data_not (hM : ModAt w bv L M) (hW : ModW w L M) (hn : C < 0 ∨ 3 < C) : TurnedNot L K 10 B C S T w := by
  unfold TurnedNot
  obtain ⟨oo, hoo⟩ : ∃ oo, offOp C = oo := ⟨_, rfl⟩
  have HOO : Hid (offOp C = oo) := hoo
  unfold offOp at hoo
  have hmw := (ModAt.allocW (ModAt.allocW ⟨hM, hW⟩ (.cells #[.int .i64 K, .int .i64 10, .int .i64 B, .int .i64 C, .string ⟨S.toArray⟩, .string ⟨T.toArray⟩] 34)) (.cells #[.int .u8 oo, .int .u32 0, .int .u64 0] 42))
  have hM2 := hmw.1
  have hW2 := hmw.2
  have hpl : L.p < w.heap.size := World.block_lt_of_cell? _ _ hM.m0
  have hbe : Below L.p w ((w.alloc (.cells #[.int .i64 K, .int .i64 10, .int .i64 B, .int .i64 C, .string ⟨S.toArray⟩, .string ⟨T.toArray⟩] 34)).alloc (.cells #[.int .u8 oo, .int .u32 0, .int .u64 0] 42)) := ((Below.refl _ _).alloc (by omega) _).alloc (by simp; omega) _
  have o1 := hW.o1
  have o2 := hW.o2
  have o3 := hW.o3
  have o4 := hW.o4
  have o7 := hW.o7
  rcases hn with hn | hn
  all_goals (first | ((have dn0 : decide (0 ≤ C) = false := by (simp; omega)); clear hn) | ((have dn0 : decide (0 ≤ C) = true := by (simp; omega)); (have dn3 : decide (C ≤ 3) = false := by (simp; omega)); clear hn))
  all_goals go_enter Try.func39, Try.ntmps39
  all_goals go_wp2_with fail
  all_goals go_ret3
  all_goals exact ⟨⟨_, _, rfl⟩, hbe⟩

set_option maxRecDepth 100000 in
set_option maxHeartbeats 1000000 in
theorem turned_data_offn (hM : ModAt w bv L M) (hW : ModW w L M) (hn : C < 0 ∨ 3 < C) : TurnedNot L K 12 B C S T w := by
  unfold TurnedNot
  obtain ⟨oo, hoo⟩ : ∃ oo, offOp C = oo := ⟨_, rfl⟩
  have HOO : Hid (offOp C = oo) := hoo
  unfold offOp at hoo
  have hmw := (ModAt.allocW (ModAt.allocW ⟨hM, hW⟩ (.cells #[.int .i64 K, .int .i64 12, .int .i64 B, .int .i64 C, .string ⟨S.toArray⟩, .string ⟨T.toArray⟩] 34)) (.cells #[.int .u8 oo, .int .u32 0, .int .u64 0] 42))
  have hM2 := hmw.1
  have hW2 := hmw.2
  have hpl : L.p < w.heap.size := World.block_lt_of_cell? _ _ hM.m0
  have hbe : Below L.p w ((w.alloc (.cells #[.int .i64 K, .int .i64 12, .int .i64 B, .int .i64 C, .string ⟨S.toArray⟩, .string ⟨T.toArray⟩] 34)).alloc (.cells #[.int .u8 oo, .int .u32 0, .int .u64 0] 42)) := ((Below.refl _ _).alloc (by omega) _).alloc (by simp; omega) _
  have o1 := hW.o1
  have o2 := hW.o2
  have o3 := hW.o3
  have o4 := hW.o4
  have o7 := hW.o7
  rcases hn with hn | hn
  all_goals (first | ((have dn0 : decide (0 ≤ C) = false := by (simp; omega)); clear hn) | ((have dn0 : decide (0 ≤ C) = true := by (simp; omega)); (have dn3 : decide (C ≤ 3) = false := by (simp; omega)); clear hn))
  all_goals go_enter Try.func39, Try.ntmps39
  all_goals go_wp2_with fail
  all_goals go_ret3
  all_goals exact ⟨⟨_, _, rfl⟩, hbe⟩

set_option maxRecDepth 100000 in
set_option maxHeartbeats 1000000 in
theorem turned_elem_not9 (hM : ModAt w bv L M) (hW : ModW w L M) (hn : C < 0 ∨ 3 < C) : TurnedNot L K 9 B C S T w := by
  unfold TurnedNot
  obtain ⟨oo, hoo⟩ : ∃ oo, offOp C = oo := ⟨_, rfl⟩
  have HOO : Hid (offOp C = oo) := hoo
  unfold offOp at hoo
  have hmw := (ModAt.allocW (ModAt.allocW ⟨hM, hW⟩ (.cells #[.int .i64 K, .int .i64 9, .int .i64 B, .int .i64 C, .string ⟨S.toArray⟩, .string ⟨T.toArray⟩] 34)) (.cells #[.int .u8 oo, .int .u32 0, .int .u64 0] 42))
  have hM2 := hmw.1
  have hW2 := hmw.2
  have hpl : L.p < w.heap.size := World.block_lt_of_cell? _ _ hM.m0
  have hbe : Below L.p w ((w.alloc (.cells #[.int .i64 K, .int .i64 9, .int .i64 B, .int .i64 C, .string ⟨S.toArray⟩, .string ⟨T.toArray⟩] 34)).alloc (.cells #[.int .u8 oo, .int .u32 0, .int .u64 0] 42)) := ((Below.refl _ _).alloc (by omega) _).alloc (by simp; omega) _
  have o1 := hW.o1
  have o2 := hW.o2
  have o3 := hW.o3
  have o4 := hW.o4
  have o7 := hW.o7
  have HU : ∀ wx, _ := fun wx => u32_any B wx
  cases hu : u32F B
  all_goals rw [hu] at HU
  all_goals clear hu
  all_goals rcases hn with hn | hn
  all_goals (first | ((have dn0 : decide (0 ≤ C) = false := by (simp; omega)); clear hn) | ((have dn0 : decide (0 ≤ C) = true := by (simp; omega)); (have dn3 : decide (C ≤ 3) = false := by (simp; omega)); clear hn))
  all_goals go_enter Try.func39, Try.ntmps39
  all_goals go_wp2_with (go_at_call 40; refine (HU _).mono ?_; rintro e w1 ⟨rfl, rfl⟩)
  all_goals go_ret3
  all_goals exact ⟨⟨_, _, rfl⟩, hbe⟩

set_option maxRecDepth 100000 in
set_option maxHeartbeats 1000000 in
theorem turned_elem_notu9 (hM : ModAt w bv L M) (hW : ModW w L M) (hu : u32F B = false) : TurnedNot L K 9 B C S T w := by
  unfold TurnedNot
  obtain ⟨oo, hoo⟩ : ∃ oo, offOp C = oo := ⟨_, rfl⟩
  have HOO : Hid (offOp C = oo) := hoo
  unfold offOp at hoo
  have hmw := (ModAt.allocW (ModAt.allocW ⟨hM, hW⟩ (.cells #[.int .i64 K, .int .i64 9, .int .i64 B, .int .i64 C, .string ⟨S.toArray⟩, .string ⟨T.toArray⟩] 34)) (.cells #[.int .u8 oo, .int .u32 0, .int .u64 0] 42))
  have hM2 := hmw.1
  have hW2 := hmw.2
  have hpl : L.p < w.heap.size := World.block_lt_of_cell? _ _ hM.m0
  have hbe : Below L.p w ((w.alloc (.cells #[.int .i64 K, .int .i64 9, .int .i64 B, .int .i64 C, .string ⟨S.toArray⟩, .string ⟨T.toArray⟩] 34)).alloc (.cells #[.int .u8 oo, .int .u32 0, .int .u64 0] 42)) := ((Below.refl _ _).alloc (by omega) _).alloc (by simp; omega) _
  have o1 := hW.o1
  have o2 := hW.o2
  have o3 := hW.o3
  have o4 := hW.o4
  have o7 := hW.o7
  have HU : ∀ wx, _ := fun wx => u32_any B wx
  rw [hu] at HU
  clear hu
  all_goals go_enter Try.func39, Try.ntmps39
  all_goals go_wp2_with (go_at_call 40; refine (HU _).mono ?_; rintro e w1 ⟨rfl, rfl⟩)
  all_goals go_ret3
  all_goals exact ⟨⟨_, _, rfl⟩, hbe⟩

set_option maxRecDepth 100000 in
set_option maxHeartbeats 1000000 in
theorem turned_elem_not11 (hM : ModAt w bv L M) (hW : ModW w L M) (hn : C < 0 ∨ 3 < C) : TurnedNot L K 11 B C S T w := by
  unfold TurnedNot
  obtain ⟨oo, hoo⟩ : ∃ oo, offOp C = oo := ⟨_, rfl⟩
  have HOO : Hid (offOp C = oo) := hoo
  unfold offOp at hoo
  have hmw := (ModAt.allocW (ModAt.allocW ⟨hM, hW⟩ (.cells #[.int .i64 K, .int .i64 11, .int .i64 B, .int .i64 C, .string ⟨S.toArray⟩, .string ⟨T.toArray⟩] 34)) (.cells #[.int .u8 oo, .int .u32 0, .int .u64 0] 42))
  have hM2 := hmw.1
  have hW2 := hmw.2
  have hpl : L.p < w.heap.size := World.block_lt_of_cell? _ _ hM.m0
  have hbe : Below L.p w ((w.alloc (.cells #[.int .i64 K, .int .i64 11, .int .i64 B, .int .i64 C, .string ⟨S.toArray⟩, .string ⟨T.toArray⟩] 34)).alloc (.cells #[.int .u8 oo, .int .u32 0, .int .u64 0] 42)) := ((Below.refl _ _).alloc (by omega) _).alloc (by simp; omega) _
  have o1 := hW.o1
  have o2 := hW.o2
  have o3 := hW.o3
  have o4 := hW.o4
  have o7 := hW.o7
  have HU : ∀ wx, _ := fun wx => u32_any B wx
  cases hu : u32F B
  all_goals rw [hu] at HU
  all_goals clear hu
  all_goals rcases hn with hn | hn
  all_goals (first | ((have dn0 : decide (0 ≤ C) = false := by (simp; omega)); clear hn) | ((have dn0 : decide (0 ≤ C) = true := by (simp; omega)); (have dn3 : decide (C ≤ 3) = false := by (simp; omega)); clear hn))
  all_goals go_enter Try.func39, Try.ntmps39
  all_goals go_wp2_with (go_at_call 40; refine (HU _).mono ?_; rintro e w1 ⟨rfl, rfl⟩)
  all_goals go_ret3
  all_goals exact ⟨⟨_, _, rfl⟩, hbe⟩

set_option maxRecDepth 100000 in
set_option maxHeartbeats 1000000 in
theorem turned_elem_notu11 (hM : ModAt w bv L M) (hW : ModW w L M) (hu : u32F B = false) : TurnedNot L K 11 B C S T w := by
  unfold TurnedNot
  obtain ⟨oo, hoo⟩ : ∃ oo, offOp C = oo := ⟨_, rfl⟩
  have HOO : Hid (offOp C = oo) := hoo
  unfold offOp at hoo
  have hmw := (ModAt.allocW (ModAt.allocW ⟨hM, hW⟩ (.cells #[.int .i64 K, .int .i64 11, .int .i64 B, .int .i64 C, .string ⟨S.toArray⟩, .string ⟨T.toArray⟩] 34)) (.cells #[.int .u8 oo, .int .u32 0, .int .u64 0] 42))
  have hM2 := hmw.1
  have hW2 := hmw.2
  have hpl : L.p < w.heap.size := World.block_lt_of_cell? _ _ hM.m0
  have hbe : Below L.p w ((w.alloc (.cells #[.int .i64 K, .int .i64 11, .int .i64 B, .int .i64 C, .string ⟨S.toArray⟩, .string ⟨T.toArray⟩] 34)).alloc (.cells #[.int .u8 oo, .int .u32 0, .int .u64 0] 42)) := ((Below.refl _ _).alloc (by omega) _).alloc (by simp; omega) _
  have o1 := hW.o1
  have o2 := hW.o2
  have o3 := hW.o3
  have o4 := hW.o4
  have o7 := hW.o7
  have HU : ∀ wx, _ := fun wx => u32_any B wx
  rw [hu] at HU
  clear hu
  all_goals go_enter Try.func39, Try.ntmps39
  all_goals go_wp2_with (go_at_call 40; refine (HU _).mono ?_; rintro e w1 ⟨rfl, rfl⟩)
  all_goals go_ret3
  all_goals exact ⟨⟨_, _, rfl⟩, hbe⟩

end
end Go.Proofs.Qxb6500273a
