/-
  The derivation: as data, and in memory.
-/
import Derived.Test.Qxb6500273aSmall
import Derived.Test.Qxb6500273aLeaf2
import Derived.Deep.RegionHeld3
import Derived.Deep.RegionLaw
import Derived.Deep.AppendLies
set_option linter.unusedVariables false
namespace Go.Proofs.Qxb6500273a
open Go.RowKit

structure Blk where
  op : Int
  res : List UInt8
  outer : List UInt8
def blk0 : Blk := ⟨0, [], []⟩

structure Dv where
  on : Bool
  t : Int
  body : List Insn
  tabs : List Int
  st : List UInt8
  ctl : List Blk
  below : Nat
def dv0 : Dv := ⟨false, 0, [], [], [], [], 0⟩

def ctlCells : List Blk → List Value
  | [] => []
  | b :: r => .int .u8 b.op :: .string ⟨b.res.toArray⟩ :: .string ⟨b.outer.toArray⟩ :: ctlCells r
theorem ctlCells_len : ∀ l : List Blk, (ctlCells l).length = l.length * 3
  | [] => rfl
  | b :: r => by simp [ctlCells, ctlCells_len r]; omega
theorem ctlCells_get : ∀ (l : List Blk) (i : Nat), i < l.length → (ctlCells l)[i * 3]? = some (.int .u8 (l.getD i blk0).op) ∧ (ctlCells l)[i * 3 + 1]? = some (.string ⟨(l.getD i blk0).res.toArray⟩) ∧ (ctlCells l)[i * 3 + 2]? = some (.string ⟨(l.getD i blk0).outer.toArray⟩)
  | b :: r, 0, _ => ⟨rfl, rfl, rfl⟩
  | b :: r, i + 1, hi => by
    have := ctlCells_get r i (by simpa using hi)
    have e1 : (i + 1) * 3 = i * 3 + 1 + 1 + 1 := by omega
    rw [e1]
    simpa [ctlCells] using this

def tabCells (l : List Int) : List Value := l.map (.int .u32 ·)

/-- the derivation D lies in block db; its three rows are its own -/
structure DAt (w : World) (db : Nat) (D : Dv) (vb vt vc : Value) : Prop where
  c0 : w.cell? ⟨db, 0, none⟩ = some (.bool D.on)
  c1 : w.cell? ⟨db, 1, none⟩ = some (.int .i64 D.t)
  c2 : w.cell? ⟨db, 2, none⟩ = some vb
  c3 : w.cell? ⟨db, 3, none⟩ = some vt
  c4 : w.cell? ⟨db, 4, none⟩ = some (.string ⟨D.st.toArray⟩)
  c5 : w.cell? ⟨db, 5, none⟩ = some vc
  c6 : w.cell? ⟨db, 6, none⟩ = some (.int .i64 D.below)
  fz : ∀ o, w.frozen? ⟨db, o, none⟩ = false
  ob : w.ownsRow (db + 1) 42 3 vb D.body.length (insCells D.body)
  ot : w.ownsRow (db + 1) 39 1 vt D.tabs.length (tabCells D.tabs)
  oc : w.ownsRow (db + 1) 62 3 vc D.ctl.length (ctlCells D.ctl)

theorem DAt.lt {w : World} {db : Nat} {D : Dv} {vb vt vc : Value} (h : DAt w db D vb vt vc) : db < w.heap.size := World.block_lt_of_cell? _ _ h.c0

theorem ownsRow_same {w w' : World} {base : Nat} {e : TypeId} {size : Nat} {v : Value} {n : Nat} {xs : List Value} (h : w.ownsRow base e size v n xs) (hb : ∀ g, v.ownBlock = some g → g < w.heap.size → w'.heap[g]? = w.heap[g]?) : w'.ownsRow base e size v n xs := by
  refine ⟨h.1, ?_⟩
  rcases h.2 with h0 | ⟨g, cap, cur, rfl, h1, h2, h3⟩
  · exact .inl h0
  · have hl : g < w.heap.size := by
      rcases Nat.lt_or_ge g w.heap.size with h4 | h4
      · exact h4
      · rw [Array.getElem?_eq_none h4] at h2; exact absurd h2 (by simp)
    exact .inr ⟨g, cap, cur, rfl, h1, (hb g rfl hl).trans h2, h3⟩

theorem DAt.below {w w' : World} {db : Nat} {D : Dv} {vb vt vc : Value} (h : DAt w db D vb vt vc) (hb : Below w.heap.size w w') : DAt w' db D vb vt vc := by
  have l := h.lt
  have k : ∀ o, w'.cell? ⟨db, o, none⟩ = w.cell? ⟨db, o, none⟩ := fun o => hb.cell l
  exact ⟨(k 0).trans h.c0, (k 1).trans h.c1, (k 2).trans h.c2, (k 3).trans h.c3, (k 4).trans h.c4, (k 5).trans h.c5, (k 6).trans h.c6, fun o => by rw [hb.frozen (p := ⟨db, o, none⟩) l]; exact h.fz o,
    ownsRow_same h.ob fun g _ hg => hb.block g hg, ownsRow_same h.ot fun g _ hg => hb.block g hg, ownsRow_same h.oc fun g _ hg => hb.block g hg⟩
theorem DAt.alloc {w : World} {db : Nat} {D : Dv} {vb vt vc : Value} (h : DAt w db D vb vt vc) (o : Obj) : DAt (w.alloc o) db D vb vt vc := h.below ((Below.refl _ _).alloc (Nat.le_refl _) o)
theorem DAt.drew {w : World} {db : Nat} {D : Dv} {vb vt vc : Value} (h : DAt w db D vb vt vc) : DAt w.drew db D vb vt vc := h.below (Below.refl _ _).drew
theorem DAt.drewN {w : World} {db : Nat} {D : Dv} {vb vt vc : Value} (h : DAt w db D vb vt vc) (n : Nat) : DAt (w.drewN n) db D vb vt vc := h.below ⟨rfl, rfl, rfl, Nat.le_refl _, fun _ _ => rfl⟩

/-- the innermost blocks, from within -/
theorem DAt.ctlAt {w : World} {db : Nat} {D : Dv} {vb vt vc : Value} (h : DAt w db D vb vt vc) (i : Nat) (hi : i < D.ctl.length) :
    ∃ g cap, vc = .slice (some ⟨g, 0, none⟩) D.ctl.length cap ∧ db < g ∧ w.cell? ⟨g, i * 3, none⟩ = some (.int .u8 (D.ctl.getD i blk0).op) ∧ w.cell? ⟨g, i * 3 + 1, none⟩ = some (.string ⟨(D.ctl.getD i blk0).res.toArray⟩) ∧ w.cell? ⟨g, i * 3 + 2, none⟩ = some (.string ⟨(D.ctl.getD i blk0).outer.toArray⟩) := by
  obtain ⟨g, cap, rfl, hg, hl⟩ := h.oc.form (by omega)
  have hc := ctlCells_get D.ctl i hi
  have hn := ctlCells_len D.ctl
  exact ⟨g, cap, rfl, hg, (h.oc.cellAt _ (by omega)).trans hc.1, (h.oc.cellAt _ (by omega)).trans hc.2.1, (h.oc.cellAt _ (by omega)).trans hc.2.2⟩
theorem DAt.ctlV {w : World} {db : Nat} {D : Dv} {vb vt vc : Value} (h : DAt w db D vb vt vc) : ∃ a cap, vc = .slice a D.ctl.length cap := by
  rcases h.oc.2 with ⟨h0, h1⟩ | ⟨g, cap, cur, h0, _⟩
  · exact ⟨none, 0, by rw [h0, h1]⟩
  · exact ⟨_, cap, h0⟩

end Go.Proofs.Qxb6500273a
