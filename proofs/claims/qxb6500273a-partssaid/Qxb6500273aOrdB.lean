/-
  Ordered: the export's step: an append.
-/
import Derived.Test.Qxb6500273aOrdA
import Derived.Deep.RegionLaw
import Derived.Deep.AppendLies
set_option linter.unusedVariables false
namespace Go.Proofs.Qxb6500273a
open Go.RowKit

theorem Try.info106 : (Try.prog.info? 106).map (fun i => (i.zero, i.size, i.bytes)) = some (some (.agg #[.string ⟨#[]⟩, .int .u8 0, .int .u32 0]), 3, 24) := by kernel_rfl

theorem ord6 {bv : Nat} {w : World} {P : Nat} {B : Int} {M : Md} {L : Lay} {Wm w1 : World} {xr : Option Nat} (h : OrdS bv w P B M L Wm) (hg : Wm.grownBy w1 xr)
    (hx : ∀ b, some b = xr → L.gb < b ∧ (M.elems ≠ [] → L.eb ≠ b) ∧ (∀ i, i < M.elems.length → ∀ j, j < (M.elems.getD i elm0).fns.length → L.ef i ≠ b) ∧ (M.datas ≠ [] → L.db ≠ b))
    (g cap : Nat) (gl : L.gb < g) (es : List Expo)
    (c0 : ∀ i, i < es.length → w1.cell? ⟨g, i * 3, none⟩ = some (.string ⟨(es.getD i exp0).name.toArray⟩)) (c1 : ∀ i, i < es.length → w1.cell? ⟨g, i * 3 + 1, none⟩ = some (.int .u8 (es.getD i exp0).kind)) (c2 : ∀ i, i < es.length → w1.cell? ⟨g, i * 3 + 2, none⟩ = some (.int .u32 (es.getD i exp0).idx)) :
    ∃ L', OrdS bv w P B { M with exps := es } L' (w1.setCell ⟨P, 8, none⟩ (.slice (some ⟨g, 0, none⟩) es.length cap)) := by
  have hlt := h.lt
  have hltp := h.ltp
  have o1 := h.m.2.o1
  have o2 := h.m.2.o2
  have o3 := h.m.2.o3
  have o4 := h.m.2.o4
  obtain rfl := h.p
  have far : ∀ b, b ≤ L.gb → some b ≠ xr := fun b hb e => by have := (hx b e).1; omega
  have key := ModAt.reExps (w2 := w1.setCell ⟨L.p, 8, none⟩ (.slice (some ⟨g, 0, none⟩) es.length cap)) h.m.1 h.m.2 es g cap xr
    (fun b o v hn ho hv => by
      rw [World.cell?_setCell_other _ _ _ _ (fun e => by injection e with e1 e2; omega), hg.cell_far ⟨b, o, none⟩ (World.block_lt_of_cell? _ _ hv) hn]
      exact hv)
    (fun b o hn hl hv => by
      have := hg.frozen_far ⟨b, o, none⟩ hl hn
      simpa [this] using hv)
    (by simpa using hg.size) hx
    (World.cell?_setCell_same _ _ _ ((hg.cell_far ⟨L.p, 8, none⟩ hltp (far L.p (by omega))).trans h.m.1.m8)) gl
    (fun i hi => by rw [apartc (by omega)]; exact c0 i hi) (fun i hi => by rw [apartc (by omega)]; exact c1 i hi) (fun i hi => by rw [apartc (by omega)]; exact c2 i hi)
  refine ⟨_, by rfl, key, ?_, ?_, hlt⟩
  · refine Below.setCell (p := ⟨L.p, 8, none⟩) ?_ (by simp only []; omega) _
    have hb := h.be
    exact ⟨hg.os.trans hb.os, hg.tape.trans hb.tape, hg.output.trans hb.output, Nat.le_trans hb.size hg.size, fun i hi => by
      rw [hg.block i (Nat.lt_of_lt_of_le hi hb.size) (far _ (by omega))]; exact hb.block i hi⟩
  · rw [apartc (by omega), hg.cell_far ⟨w.heap.size, 2, none⟩ (World.block_lt_of_cell? _ _ h.bx) (far w.heap.size (by omega))]
    exact h.bx

theorem heap_old {x : World} {i : Nat} {ob o : Obj} (h : x.heap[i]? = some o) : (x.alloc ob).heap[i]? = some o := by
  have hl : i < x.heap.size := by
    rcases Nat.lt_or_ge i x.heap.size with h1 | h1
    · exact h1
    · rw [Array.getElem?_eq_none h1] at h; exact absurd h (by simp)
  show (x.heap.push ob)[i]? = some o
  rw [Array.getElem?_push, if_neg (by omega)]
  exact h

/-- the cells of a row of exports -/
def expCells : List Expo → List Value
  | [] => []
  | e :: r => .string ⟨e.name.toArray⟩ :: .int .u8 e.kind :: .int .u32 e.idx :: expCells r
theorem expCells_get : ∀ (l : List Expo) (i : Nat), i < l.length → (expCells l)[i * 3]? = some (.string ⟨(l.getD i exp0).name.toArray⟩) ∧ (expCells l)[i * 3 + 1]? = some (.int .u8 (l.getD i exp0).kind) ∧ (expCells l)[i * 3 + 2]? = some (.int .u32 (l.getD i exp0).idx)
  | e :: r, 0, _ => ⟨rfl, rfl, rfl⟩
  | e :: r, i + 1, hi => by
    have := expCells_get r i (by simpa using hi)
    have e1 : (i + 1) * 3 = i * 3 + 1 + 1 + 1 := by omega
    rw [e1]
    simpa [expCells] using this

end Go.Proofs.Qxb6500273a
