/-
  The validator's memory told by plain data, and how a world may turn beside it.
-/
import Derived.Test.Qxb6500273aProg
import Derived.Test.Qxb6500273aPure
import Derived.WalkKit
import Derived.WalkSpells
import Derived.WalkLawsBesides
import Derived.Deep.QuietTactic
import Derived.BigQuiet
namespace Go.Proofs.Qxb6500273a
open Go.RowKit

theorem ret_int {k : IntKind} {a b : Int} (h : a = b) : Ending.returned (.int k a) = .returned (.int k b) := by rw [h]
theorem ret_bool {a b : Bool} (h : a = b) : Ending.returned (.bool a) = .returned (.bool b) := by rw [h]
theorem beq_cast (a b : Nat) : ((a : Int) == (b : Int)) = decide (a = b) := by rw [Bool.eq_iff_iff]; simp; omega

/-- Block b of w holds V. -/
structure VAt (w : World) (b : Nat) (V : VS) : Prop where
  ops : ∀ i, i < 11 → w.cell? ⟨b, i, none⟩ = some (.int .u8 (V.ops i))
  height : w.cell? ⟨b, 11, none⟩ = some (.int .i64 V.height)
  cop : ∀ j, j < 7 → w.cell? ⟨b, 12 + j * 4, none⟩ = some (.int .u8 (V.cop j))
  res : ∀ j, j < 7 → w.cell? ⟨b, 12 + j * 4 + 1, none⟩ = some (.int .u8 (V.res j))
  flr : ∀ j, j < 7 → w.cell? ⟨b, 12 + j * 4 + 2, none⟩ = some (.int .i64 (V.flr j))
  dead : ∀ j, j < 7 → w.cell? ⟨b, 12 + j * 4 + 3, none⟩ = some (.bool (V.dead j))
  depth : w.cell? ⟨b, 40, none⟩ = some (.int .i64 V.depth)
  high : w.cell? ⟨b, 41, none⟩ = some (.int .i64 V.high)
  frz : ∀ o, w.frozen? ⟨b, o, none⟩ = false

/-- w' is w but for block b and new blocks. -/
structure Ex (b : Nat) (w w' : World) : Prop where
  os : w'.os = w.os
  tape : w'.tape = w.tape
  output : w'.output = w.output
  size : w.heap.size ≤ w'.heap.size
  block : ∀ k, k < w.heap.size → k ≠ b → w'.heap[k]? = w.heap[k]?

theorem Ex.refl (b : Nat) (w : World) : Ex b w w := ⟨rfl, rfl, rfl, Nat.le_refl _, fun _ _ _ => rfl⟩
theorem Ex.trans {b : Nat} {w1 w2 w3 : World} (h : Ex b w1 w2) (k : Ex b w2 w3) : Ex b w1 w3 :=
  ⟨k.os.trans h.os, k.tape.trans h.tape, k.output.trans h.output, Nat.le_trans h.size k.size, fun i hi hb => (k.block i (Nat.lt_of_lt_of_le hi h.size) hb).trans (h.block i hi hb)⟩
theorem Ex.drew {b : Nat} {w w' : World} (h : Ex b w w') : Ex b w w'.drew := ⟨h.os, h.tape, h.output, h.size, h.block⟩
theorem Ex.drewN {b : Nat} {w w' : World} (h : Ex b w w') (n : Nat) : Ex b w (w'.drewN n) := ⟨h.os, h.tape, h.output, h.size, h.block⟩
theorem Ex.setCell {b : Nat} {w w' : World} (h : Ex b w w') (o : Nat) (u : Value) : Ex b w (w'.setCell ⟨b, o, none⟩ u) :=
  h.trans ⟨rfl, rfl, rfl, by simp, fun k _ hk => Below.heap_setCell _ _ _ _ hk⟩
theorem Ex.alloc {b : Nat} {w w' : World} (h : Ex b w w') (o : Obj) : Ex b w (w'.alloc o) :=
  h.trans ⟨rfl, rfl, rfl, by simp, fun k hk _ => Below.heap_alloc _ _ _ hk⟩
theorem Ex.cell {b : Nat} {w w' : World} (h : Ex b w w') {p : Addr} (hp : p.block < w.heap.size) (hb : p.block ≠ b) : w'.cell? p = w.cell? p :=
  World.cell?_of_block (w := w) (h.block p.block hp hb)
theorem Ex.frozen {b : Nat} {w w' : World} (h : Ex b w w') {p : Addr} (hp : p.block < w.heap.size) (hb : p.block ≠ b) : w'.frozen? p = w.frozen? p :=
  World.frozen?_of_block (w := w) (h.block p.block hp hb)

theorem VAt.drewN {w : World} {b : Nat} {V : VS} (h : VAt w b V) (n : Nat) : VAt (w.drewN n) b V :=
  ⟨h.ops, h.height, h.cop, h.res, h.flr, h.dead, h.depth, h.high, h.frz⟩
theorem VAt.drew {w : World} {b : Nat} {V : VS} (h : VAt w b V) : VAt w.drew b V :=
  ⟨h.ops, h.height, h.cop, h.res, h.flr, h.dead, h.depth, h.high, h.frz⟩

theorem VAt.lt {w : World} {b : Nat} {V : VS} (h : VAt w b V) : b < w.heap.size := World.block_lt_of_cell? _ _ h.height

theorem VAt.same {w w' : World} {b : Nat} {V : VS} (h : VAt w b V) (hb : w'.heap[b]? = w.heap[b]?) : VAt w' b V := by
  have hc : ∀ o, w'.cell? ⟨b, o, none⟩ = w.cell? ⟨b, o, none⟩ := fun o => World.cell?_of_block (w := w) (a := ⟨b, o, none⟩) hb
  have hf : ∀ o, w'.frozen? ⟨b, o, none⟩ = w.frozen? ⟨b, o, none⟩ := fun o => World.frozen?_of_block (w := w) (a := ⟨b, o, none⟩) hb
  exact ⟨fun i hi => (hc _).trans (h.ops i hi), (hc _).trans h.height, fun i hi => (hc _).trans (h.cop i hi), fun i hi => (hc _).trans (h.res i hi), fun i hi => (hc _).trans (h.flr i hi), fun i hi => (hc _).trans (h.dead i hi), (hc _).trans h.depth, (hc _).trans h.high, fun o => (hf o).trans (h.frz o)⟩

theorem VAt.alloc {w : World} {b : Nat} {V : VS} (h : VAt w b V) (o : Obj) : VAt (w.alloc o) b V :=
  h.same (Below.heap_alloc _ _ _ h.lt)

theorem off_ne {w : World} {b o o' : Nat} {v u : Value} (hne : o ≠ o') (h : w.cell? ⟨b, o', none⟩ = some u) : (w.setCell ⟨b, o, none⟩ v).cell? ⟨b, o', none⟩ = some u := by
  rw [World.cell?_setCell_other _ _ _ _ (by intro e; exact hne (congrArg Addr.off e))]; exact h

theorem VAt.setHeight {w : World} {b : Nat} {V : VS} (h : VAt w b V) (n : Nat) (m : Int) (e : m = n) : VAt (w.setCell ⟨b, 11, none⟩ (.int .i64 m)) b { V with height := n } := by
  subst e
  refine ⟨fun i hi => off_ne (by omega) (h.ops i hi), World.cell?_setCell_same _ _ _ h.height, fun i hi => off_ne (by omega) (h.cop i hi), fun i hi => off_ne (by omega) (h.res i hi), fun i hi => off_ne (by omega) (h.flr i hi), fun i hi => off_ne (by omega) (h.dead i hi), off_ne (by omega) h.depth, off_ne (by omega) h.high, fun o => by simp [h.frz o]⟩

theorem VAt.setDepth {w : World} {b : Nat} {V : VS} (h : VAt w b V) (n : Nat) (m : Int) (e : m = n) : VAt (w.setCell ⟨b, 40, none⟩ (.int .i64 m)) b { V with depth := n } := by
  subst e
  refine ⟨fun i hi => off_ne (by omega) (h.ops i hi), off_ne (by omega) h.height, fun i hi => off_ne (by omega) (h.cop i hi), fun i hi => off_ne (by omega) (h.res i hi), fun i hi => off_ne (by omega) (h.flr i hi), fun i hi => off_ne (by omega) (h.dead i hi), World.cell?_setCell_same _ _ _ h.depth, off_ne (by omega) h.high, fun o => by simp [h.frz o]⟩

theorem VAt.setHigh {w : World} {b : Nat} {V : VS} (h : VAt w b V) (m : Int) : VAt (w.setCell ⟨b, 41, none⟩ (.int .i64 m)) b { V with high := m } := by
  refine ⟨fun i hi => off_ne (by omega) (h.ops i hi), off_ne (by omega) h.height, fun i hi => off_ne (by omega) (h.cop i hi), fun i hi => off_ne (by omega) (h.res i hi), fun i hi => off_ne (by omega) (h.flr i hi), fun i hi => off_ne (by omega) (h.dead i hi), off_ne (by omega) h.depth, World.cell?_setCell_same _ _ _ h.high, fun o => by simp [h.frz o]⟩

theorem VAt.setOps {w : World} {b : Nat} {V : VS} (h : VAt w b V) (k : Nat) (hk : k < 11) (m : Int) : VAt (w.setCell ⟨b, k, none⟩ (.int .u8 m)) b { V with ops := upd V.ops k m } := by
  refine ⟨fun i hi => ?_, off_ne (by omega) h.height, fun i hi => off_ne (by omega) (h.cop i hi), fun i hi => off_ne (by omega) (h.res i hi), fun i hi => off_ne (by omega) (h.flr i hi), fun i hi => off_ne (by omega) (h.dead i hi), off_ne (by omega) h.depth, off_ne (by omega) h.high, fun o => by simp [h.frz o]⟩
  by_cases e : i = k
  · subst e; simp only [upd, if_true]; exact World.cell?_setCell_same _ _ _ (h.ops i hi)
  · simp only [upd, if_neg e]; exact off_ne (by omega) (h.ops i hi)

theorem VAt.setCop {w : World} {b : Nat} {V : VS} (h : VAt w b V) (k : Nat) (hk : k < 7) (m : Int) : VAt (w.setCell ⟨b, 12 + k * 4, none⟩ (.int .u8 m)) b { V with cop := upd V.cop k m } := by
  refine ⟨fun i hi => off_ne (by omega) (h.ops i hi), off_ne (by omega) h.height, fun i hi => ?_, fun i hi => off_ne (by omega) (h.res i hi), fun i hi => off_ne (by omega) (h.flr i hi), fun i hi => off_ne (by omega) (h.dead i hi), off_ne (by omega) h.depth, off_ne (by omega) h.high, fun o => by simp [h.frz o]⟩
  by_cases e : i = k
  · subst e; simp only [upd, if_true]; exact World.cell?_setCell_same _ _ _ (h.cop i hi)
  · simp only [upd, if_neg e]; exact off_ne (by omega) (h.cop i hi)

theorem VAt.setRes {w : World} {b : Nat} {V : VS} (h : VAt w b V) (k : Nat) (hk : k < 7) (m : Int) : VAt (w.setCell ⟨b, 12 + k * 4 + 1, none⟩ (.int .u8 m)) b { V with res := upd V.res k m } := by
  refine ⟨fun i hi => off_ne (by omega) (h.ops i hi), off_ne (by omega) h.height, fun i hi => off_ne (by omega) (h.cop i hi), fun i hi => ?_, fun i hi => off_ne (by omega) (h.flr i hi), fun i hi => off_ne (by omega) (h.dead i hi), off_ne (by omega) h.depth, off_ne (by omega) h.high, fun o => by simp [h.frz o]⟩
  by_cases e : i = k
  · subst e; simp only [upd, if_true]; exact World.cell?_setCell_same _ _ _ (h.res i hi)
  · simp only [upd, if_neg e]; exact off_ne (by omega) (h.res i hi)

theorem VAt.setFlr {w : World} {b : Nat} {V : VS} (h : VAt w b V) (k : Nat) (hk : k < 7) (n : Nat) (m : Int) (em : m = n) : VAt (w.setCell ⟨b, 12 + k * 4 + 2, none⟩ (.int .i64 m)) b { V with flr := upd V.flr k n } := by
  subst em
  refine ⟨fun i hi => off_ne (by omega) (h.ops i hi), off_ne (by omega) h.height, fun i hi => off_ne (by omega) (h.cop i hi), fun i hi => off_ne (by omega) (h.res i hi), fun i hi => ?_, fun i hi => off_ne (by omega) (h.dead i hi), off_ne (by omega) h.depth, off_ne (by omega) h.high, fun o => by simp [h.frz o]⟩
  by_cases e : i = k
  · subst e; simp only [upd, if_true]; exact World.cell?_setCell_same _ _ _ (h.flr i hi)
  · simp only [upd, if_neg e]; exact off_ne (by omega) (h.flr i hi)

theorem VAt.setDead {w : World} {b : Nat} {V : VS} (h : VAt w b V) (k : Nat) (hk : k < 7) (m : Bool) : VAt (w.setCell ⟨b, 12 + k * 4 + 3, none⟩ (.bool m)) b { V with dead := upd V.dead k m } := by
  refine ⟨fun i hi => off_ne (by omega) (h.ops i hi), off_ne (by omega) h.height, fun i hi => off_ne (by omega) (h.cop i hi), fun i hi => off_ne (by omega) (h.res i hi), fun i hi => off_ne (by omega) (h.flr i hi), fun i hi => ?_, off_ne (by omega) h.depth, off_ne (by omega) h.high, fun o => by simp [h.frz o]⟩
  by_cases e : i = k
  · subst e; simp only [upd, if_true]; exact World.cell?_setCell_same _ _ _ (h.dead i hi)
  · simp only [upd, if_neg e]; exact off_ne (by omega) (h.dead i hi)

end Go.Proofs.Qxb6500273a
