/-
  The derivation turned: its cells set, its rows grown.
-/
import Derived.Test.Qxb6500273aDv
import Derived.Laws.Rows
set_option linter.unusedVariables false
namespace Go.Proofs.Qxb6500273a
open Go.RowKit

theorem insCells_app : ∀ a b : List Insn, insCells (a ++ b) = insCells a ++ insCells b
  | [], b => rfl
  | x :: a, b => by simp [insCells, insCells_app a b]
theorem ctlCells_app : ∀ a b : List Blk, ctlCells (a ++ b) = ctlCells a ++ ctlCells b
  | [], b => rfl
  | x :: a, b => by simp [ctlCells, ctlCells_app a b]

theorem ownsRow_block {w : World} {base : Nat} {e : TypeId} {size : Nat} {v : Value} {n : Nat} {xs : List Value} (h : w.ownsRow base e size v n xs) {g : Nat} (hg : v.ownBlock = some g) : base ≤ g ∧ ∃ cur fr, w.heap[g]? = some (.cells cur e fr) := by
  rcases h.2 with ⟨rfl, _⟩ | ⟨g', cap, cur, rfl, h1, h2, h3⟩
  · simp [Value.ownBlock] at hg
  · simp [Value.ownBlock] at hg
    subst hg
    exact ⟨h1, cur, _, h2⟩

/-- rows of different element types lie apart -/
theorem ownsRow_apart {w : World} {b1 b2 : Nat} {e1 e2 : TypeId} {s1 s2 : Nat} {v1 v2 : Value} {n1 n2 : Nat} {x1 x2 : List Value} (h1 : w.ownsRow b1 e1 s1 v1 n1 x1) (h2 : w.ownsRow b2 e2 s2 v2 n2 x2) (he : e1 ≠ e2) {g : Nat} (hg : v1.ownBlock = some g) : some g ≠ v2.ownBlock := fun hh => by
  obtain ⟨_, c1, f1, k1⟩ := ownsRow_block h1 hg
  obtain ⟨_, c2, f2, k2⟩ := ownsRow_block h2 hh.symm
  rw [k1] at k2
  simp only [Option.some.injEq, Obj.cells.injEq] at k2
  exact he k2.2.1

theorem ownsRow_setCell {w : World} {db o : Nat} {v : Value} {e : TypeId} {size : Nat} {u : Value} {n : Nat} {xs : List Value} (h : w.ownsRow (db + 1) e size u n xs) : (w.setCell ⟨db, o, none⟩ v).ownsRow (db + 1) e size u n xs :=
  ownsRow_same h fun g hg _ => Below.heap_setCell _ _ _ _ (by have := (ownsRow_block h hg).1; simp only []; omega)

theorem cell_set_other {w : World} {db o o' : Nat} {v : Value} (h : o' ≠ o) : (w.setCell ⟨db, o, none⟩ v).cell? ⟨db, o', none⟩ = w.cell? ⟨db, o', none⟩ :=
  World.cell?_setCell_other _ _ _ _ (fun e => h (by injection e with _ e2; omega))

section
variable {w w1 : World} {db : Nat} {D : Dv} {vb vt vc : Value}

theorem DAt.setSt (h : DAt w db D vb vt vc) (s : List UInt8) : DAt (w.setCell ⟨db, 4, none⟩ (.string ⟨s.toArray⟩)) db { D with st := s } vb vt vc :=
  ⟨(cell_set_other (by omega)).trans h.c0, (cell_set_other (by omega)).trans h.c1, (cell_set_other (by omega)).trans h.c2, (cell_set_other (by omega)).trans h.c3, World.cell?_setCell_same _ _ _ h.c4, (cell_set_other (by omega)).trans h.c5, (cell_set_other (by omega)).trans h.c6,
    fun o => by simpa using h.fz o, ownsRow_setCell h.ob, ownsRow_setCell h.ot, ownsRow_setCell h.oc⟩

theorem DAt.setBelow (h : DAt w db D vb vt vc) (n : Nat) : DAt (w.setCell ⟨db, 6, none⟩ (.int .i64 n)) db { D with below := n } vb vt vc :=
  ⟨(cell_set_other (by omega)).trans h.c0, (cell_set_other (by omega)).trans h.c1, (cell_set_other (by omega)).trans h.c2, (cell_set_other (by omega)).trans h.c3, (cell_set_other (by omega)).trans h.c4, (cell_set_other (by omega)).trans h.c5, World.cell?_setCell_same _ _ _ h.c6,
    fun o => by simpa using h.fz o, ownsRow_setCell h.ob, ownsRow_setCell h.ot, ownsRow_setCell h.oc⟩

theorem DAt.setOn (h : DAt w db D vb vt vc) (b : Bool) : DAt (w.setCell ⟨db, 0, none⟩ (.bool b)) db { D with on := b } vb vt vc :=
  ⟨World.cell?_setCell_same _ _ _ h.c0, (cell_set_other (by omega)).trans h.c1, (cell_set_other (by omega)).trans h.c2, (cell_set_other (by omega)).trans h.c3, (cell_set_other (by omega)).trans h.c4, (cell_set_other (by omega)).trans h.c5, (cell_set_other (by omega)).trans h.c6,
    fun o => by simpa using h.fz o, ownsRow_setCell h.ob, ownsRow_setCell h.ot, ownsRow_setCell h.oc⟩

theorem DAt.setT (h : DAt w db D vb vt vc) (t : Int) : DAt (w.setCell ⟨db, 1, none⟩ (.int .i64 t)) db { D with t := t } vb vt vc :=
  ⟨(cell_set_other (by omega)).trans h.c0, World.cell?_setCell_same _ _ _ h.c1, (cell_set_other (by omega)).trans h.c2, (cell_set_other (by omega)).trans h.c3, (cell_set_other (by omega)).trans h.c4, (cell_set_other (by omega)).trans h.c5, (cell_set_other (by omega)).trans h.c6,
    fun o => by simpa using h.fz o, ownsRow_setCell h.ob, ownsRow_setCell h.ot, ownsRow_setCell h.oc⟩

theorem far {e : TypeId} {size : Nat} {v : Value} {n : Nat} {xs : List Value} (h : w.ownsRow (db + 1) e size v n xs) {b : Nat} (hb : b ≤ db) : some b ≠ v.ownBlock := fun e => by
  have := (ownsRow_block h e.symm).1
  omega

theorem DAt.pushBody (h : DAt w db D vb vt vc) (hg : w.grownBy w1 vb.ownBlock) (x : Insn) (g cap : Nat) (ho : w1.ownsRow (db + 1) 42 3 (.slice (some ⟨g, 0, none⟩) (D.body.length + 1) cap) (D.body.length + 1) (insCells D.body ++ insCells [x])) :
    DAt (w1.setCell ⟨db, 2, none⟩ (.slice (some ⟨g, 0, none⟩) (D.body.length + 1) cap)) db { D with body := D.body ++ [x] } (.slice (some ⟨g, 0, none⟩) (D.body.length + 1) cap) vt vc := by
  have hl := h.lt
  have k : ∀ o, w1.cell? ⟨db, o, none⟩ = w.cell? ⟨db, o, none⟩ := fun o => hg.cell_far ⟨db, o, none⟩ hl (far h.ob (Nat.le_refl _))
  refine ⟨(cell_set_other (by omega)).trans ((k 0).trans h.c0), (cell_set_other (by omega)).trans ((k 1).trans h.c1), World.cell?_setCell_same _ _ _ ((k 2).trans h.c2), (cell_set_other (by omega)).trans ((k 3).trans h.c3), (cell_set_other (by omega)).trans ((k 4).trans h.c4), (cell_set_other (by omega)).trans ((k 5).trans h.c5), (cell_set_other (by omega)).trans ((k 6).trans h.c6),
    fun o => ?_, ?_, ownsRow_setCell (ownsRow_same h.ot fun g' hg' hl' => hg.block g' hl' (ownsRow_apart h.ot h.ob (by decide) hg')), ownsRow_setCell (ownsRow_same h.oc fun g' hg' hl' => hg.block g' hl' (ownsRow_apart h.oc h.ob (by decide) hg'))⟩
  · have := hg.frozen_far ⟨db, o, none⟩ hl (far h.ob (Nat.le_refl _))
    simpa [this] using h.fz o
  · rw [insCells_app, List.length_append]
    exact ownsRow_setCell ho

theorem DAt.pushTabs (h : DAt w db D vb vt vc) (hg : w.grownBy w1 vt.ownBlock) (x : Int) (g cap : Nat) (ho : w1.ownsRow (db + 1) 39 1 (.slice (some ⟨g, 0, none⟩) (D.tabs.length + 1) cap) (D.tabs.length + 1) (tabCells D.tabs ++ tabCells [x])) :
    DAt (w1.setCell ⟨db, 3, none⟩ (.slice (some ⟨g, 0, none⟩) (D.tabs.length + 1) cap)) db { D with tabs := D.tabs ++ [x] } vb (.slice (some ⟨g, 0, none⟩) (D.tabs.length + 1) cap) vc := by
  have hl := h.lt
  have k : ∀ o, w1.cell? ⟨db, o, none⟩ = w.cell? ⟨db, o, none⟩ := fun o => hg.cell_far ⟨db, o, none⟩ hl (far h.ot (Nat.le_refl _))
  refine ⟨(cell_set_other (by omega)).trans ((k 0).trans h.c0), (cell_set_other (by omega)).trans ((k 1).trans h.c1), (cell_set_other (by omega)).trans ((k 2).trans h.c2), World.cell?_setCell_same _ _ _ ((k 3).trans h.c3), (cell_set_other (by omega)).trans ((k 4).trans h.c4), (cell_set_other (by omega)).trans ((k 5).trans h.c5), (cell_set_other (by omega)).trans ((k 6).trans h.c6),
    fun o => ?_, ownsRow_setCell (ownsRow_same h.ob fun g' hg' hl' => hg.block g' hl' (ownsRow_apart h.ob h.ot (by decide) hg')), ?_, ownsRow_setCell (ownsRow_same h.oc fun g' hg' hl' => hg.block g' hl' (ownsRow_apart h.oc h.ot (by decide) hg'))⟩
  · have := hg.frozen_far ⟨db, o, none⟩ hl (far h.ot (Nat.le_refl _))
    simpa [this] using h.fz o
  · have e1 : tabCells (D.tabs ++ [x]) = tabCells D.tabs ++ tabCells [x] := by simp [tabCells]
    rw [e1, List.length_append]
    exact ownsRow_setCell ho

theorem DAt.pushCtl (h : DAt w db D vb vt vc) (hg : w.grownBy w1 vc.ownBlock) (x : Blk) (g cap : Nat) (ho : w1.ownsRow (db + 1) 62 3 (.slice (some ⟨g, 0, none⟩) (D.ctl.length + 1) cap) (D.ctl.length + 1) (ctlCells D.ctl ++ ctlCells [x])) :
    DAt (w1.setCell ⟨db, 5, none⟩ (.slice (some ⟨g, 0, none⟩) (D.ctl.length + 1) cap)) db { D with ctl := D.ctl ++ [x] } vb vt (.slice (some ⟨g, 0, none⟩) (D.ctl.length + 1) cap) := by
  have hl := h.lt
  have k : ∀ o, w1.cell? ⟨db, o, none⟩ = w.cell? ⟨db, o, none⟩ := fun o => hg.cell_far ⟨db, o, none⟩ hl (far h.oc (Nat.le_refl _))
  refine ⟨(cell_set_other (by omega)).trans ((k 0).trans h.c0), (cell_set_other (by omega)).trans ((k 1).trans h.c1), (cell_set_other (by omega)).trans ((k 2).trans h.c2), (cell_set_other (by omega)).trans ((k 3).trans h.c3), (cell_set_other (by omega)).trans ((k 4).trans h.c4), World.cell?_setCell_same _ _ _ ((k 5).trans h.c5), (cell_set_other (by omega)).trans ((k 6).trans h.c6),
    fun o => ?_, ownsRow_setCell (ownsRow_same h.ob fun g' hg' hl' => hg.block g' hl' (ownsRow_apart h.ob h.oc (by decide) hg')), ownsRow_setCell (ownsRow_same h.ot fun g' hg' hl' => hg.block g' hl' (ownsRow_apart h.ot h.oc (by decide) hg')), ?_⟩
  · have := hg.frozen_far ⟨db, o, none⟩ hl (far h.oc (Nat.le_refl _))
    simpa [this] using h.fz o
  · rw [ctlCells_app, List.length_append]
    exact ownsRow_setCell ho

/-- a block's end: the row shrinks by one -/
theorem DAt.popCtl (h : DAt w db D vb vt vc) (k : Nat) (hk : D.ctl.length = k + 1) (g cap : Nat) (hv : vc = .slice (some ⟨g, 0, none⟩) (k + 1) cap) :
    DAt (w.setCell ⟨db, 5, none⟩ (.slice (some ⟨g, 0, none⟩) k cap)) db { D with ctl := D.ctl.take k } vb vt (.slice (some ⟨g, 0, none⟩) k cap) := by
  refine ⟨(cell_set_other (by omega)).trans h.c0, (cell_set_other (by omega)).trans h.c1, (cell_set_other (by omega)).trans h.c2, (cell_set_other (by omega)).trans h.c3, (cell_set_other (by omega)).trans h.c4, World.cell?_setCell_same _ _ _ h.c5, (cell_set_other (by omega)).trans h.c6,
    fun o => by simpa using h.fz o, ownsRow_setCell h.ob, ownsRow_setCell h.ot, ?_⟩
  have hlen : (D.ctl.take k).length = k := by simp [hk]
  have ho := h.oc
  subst hv
  rcases ho.2 with ⟨h0, _⟩ | ⟨g', cap', cur, h0, h1, h2, h3, h4, h5, h6⟩
  · simp at h0
  · simp only [Value.slice.injEq, Option.some.injEq, Addr.mk.injEq, and_true] at h0
    obtain ⟨rfl, _, rfl⟩ := h0
    refine ⟨by rw [ctlCells_len], .inr ⟨g, cap, cur, by rw [hlen], h1, ?_, by rw [hlen]; omega, h4, h5, ?_⟩⟩
    · rw [Below.heap_setCell _ _ _ _ (by simp only []; omega)]; exact h2
    · have e1 : ctlCells D.ctl = ctlCells (D.ctl.take k) ++ ctlCells (D.ctl.drop k) := by rw [← ctlCells_app, List.take_append_drop]
      have e2 : (ctlCells (D.ctl.take k)).length = k * 3 := by rw [ctlCells_len, hlen]
      rw [hlen]
      have e3 : (cur.toList.take (D.ctl.length * 3)).take (k * 3) = (ctlCells D.ctl).take (k * 3) := by rw [h6]
      rw [List.take_take, show min (k * 3) (D.ctl.length * 3) = k * 3 by omega] at e3
      rw [e3, e1, ← e2]
      simp

/-- an if turns to its else -/
theorem DAt.elseCtl (h : DAt w db D vb vt vc) (k : Nat) (hk : D.ctl.length = k + 1) (g cap : Nat) (hv : vc = .slice (some ⟨g, 0, none⟩) (k + 1) cap) :
    DAt (w.setCell ⟨g, k * 3, none⟩ (.int .u8 5)) db { D with ctl := D.ctl.take k ++ [⟨5, (D.ctl.getD k blk0).res, (D.ctl.getD k blk0).outer⟩] } vb vt vc := by
  have hgb : vc.ownBlock = some g := by rw [hv]; rfl
  have hg1 := (ownsRow_block h.oc hgb).1
  have n : ∀ o, (w.setCell ⟨g, k * 3, none⟩ (.int .u8 5)).cell? ⟨db, o, none⟩ = w.cell? ⟨db, o, none⟩ := fun o => apartc (by omega)
  have far' : ∀ {e size v n xs}, w.ownsRow (db + 1) e size v n xs → e ≠ 62 → (w.setCell ⟨g, k * 3, none⟩ (.int .u8 5)).ownsRow (db + 1) e size v n xs := fun hh he =>
    ownsRow_same hh fun g' hg' _ => Below.heap_setCell _ _ _ _ (fun e => ownsRow_apart hh h.oc he hg' (by rw [hgb]; exact congrArg some e))
  refine ⟨(n 0).trans h.c0, (n 1).trans h.c1, (n 2).trans h.c2, (n 3).trans h.c3, (n 4).trans h.c4, (n 5).trans h.c5, (n 6).trans h.c6, fun o => by simpa using h.fz o, far' h.ob (by decide), far' h.ot (by decide), ?_⟩
  have hlen : (D.ctl.take k ++ [(⟨5, (D.ctl.getD k blk0).res, (D.ctl.getD k blk0).outer⟩ : Blk)]).length = k + 1 := by simp; omega
  have ho := h.oc
  subst hv
  rcases ho.2 with ⟨h0, _⟩ | ⟨g', cap', cur, h0, h1, h2, h3, h4, h5, h6⟩
  · simp at h0
  · simp only [Value.slice.injEq, Option.some.injEq, Addr.mk.injEq, and_true] at h0
    obtain ⟨rfl, _, rfl⟩ := h0
    refine ⟨by rw [ctlCells_len], .inr ⟨g, cap, cur.setIfInBounds (k * 3) (.int .u8 5), by rw [hlen], h1, ?_, by rw [hlen]; omega, h4, by simpa using h5, ?_⟩⟩
    · exact heap_setCell_same w g (k * 3) cur 62 _ h2
    · rw [hlen, ctlCells_app]
      have e0 : D.ctl = D.ctl.take k ++ [D.ctl.getD k blk0] := by
        have : D.ctl.drop k = [D.ctl.getD k blk0] := by
          rw [List.drop_eq_getElem_cons (by omega)]
          simp [List.getElem?_eq_getElem (show k < D.ctl.length by omega), List.drop_eq_nil_of_le (show D.ctl.length ≤ k + 1 by omega)]
        rw [← this, List.take_append_drop]
      have e2 : (ctlCells (D.ctl.take k)).length = k * 3 := by rw [ctlCells_len]; simp; omega
      rw [hk] at h6
      have e3 : ctlCells D.ctl = ctlCells (D.ctl.take k) ++ ctlCells [D.ctl.getD k blk0] := by rw [← ctlCells_app, ← e0]
      rw [e3] at h6
      have e4 : (cur.setIfInBounds (k * 3) (.int .u8 5)).toList.take ((k + 1) * 3) = (cur.toList.take ((k + 1) * 3)).set (k * 3) (.int .u8 5) := by
        rw [Array.toList_setIfInBounds, List.take_set]
      rw [e4, h6, List.set_append_right _ _ (by omega), e2]
      simp [ctlCells]

end
end Go.Proofs.Qxb6500273a
