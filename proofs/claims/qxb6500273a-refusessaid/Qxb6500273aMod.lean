/-
  The frame module in memory, told by plain data.
-/
import Derived.Test.Qxb6500273aBase
namespace Go.Proofs.Qxb6500273a
open Go.RowKit

/-- Where the module's parts lie. bv: the validator's block. -/
structure Lay where
  p : Nat
  tb : Nat
  ib : Nat
  fb : Nat
  gb : Nat
  gc : Nat
  bb : Nat
  bc : Nat
  ta : Option Addr
  tc : Nat
  tbk : Nat
  xa : Option Addr
  xc : Nat
  xb : Nat
  ea : Option Addr
  ec : Nat
  eb : Nat
  ef : Nat → Nat
  da : Option Addr
  dc : Nat
  db : Nat

/-- The module M lies in w as L says. -/
structure ModAt (w : World) (bv : Nat) (L : Lay) (M : Md) : Prop where
  m0 : w.cell? ⟨L.p, 0, none⟩ = some (.slice (some ⟨L.tb, 0, none⟩) 3 3)
  m1 : w.cell? ⟨L.p, 1, none⟩ = some (.slice (some ⟨L.ib, 0, none⟩) 1 1)
  m2 : w.cell? ⟨L.p, 2, none⟩ = some (.slice (some ⟨L.fb, 0, none⟩) 1 1)
  m3 : w.cell? ⟨L.p, 3, none⟩ = some (.int .i64 M.tabMin)
  m4 : w.cell? ⟨L.p, 4, none⟩ = some (.int .i64 M.tabMax)
  m5 : w.cell? ⟨L.p, 5, none⟩ = some (.int .i64 M.memMin)
  m6 : w.cell? ⟨L.p, 6, none⟩ = some (.int .i64 M.memMax)
  m7 : w.cell? ⟨L.p, 7, none⟩ = some (.slice (some ⟨L.gb, 0, none⟩) 4 L.gc)
  m8 : w.cell? ⟨L.p, 8, none⟩ = some (.slice L.xa M.exps.length L.xc)
  m9 : w.cell? ⟨L.p, 9, none⟩ = some (.int .i64 M.start)
  m10 : w.cell? ⟨L.p, 10, none⟩ = some (.slice L.ea M.elems.length L.ec)
  m11 : w.cell? ⟨L.p, 11, none⟩ = some (.slice L.da M.datas.length L.dc)
  ty0 : w.cell? ⟨L.tb, 0, none⟩ = some (.string ⟨[58].toArray⟩)
  ty1 : w.cell? ⟨L.tb, 1, none⟩ = some (.string ⟨M.t1.toArray⟩)
  ty2 : w.cell? ⟨L.tb, 2, none⟩ = some (.string ⟨[127, 126, 125, 124, 58, 124].toArray⟩)
  im : w.cell? ⟨L.ib, 2, none⟩ = some (.int .i64 M.it)
  f0 : w.cell? ⟨L.fb, 0, none⟩ = some (.int .i64 M.ft)
  f1 : w.cell? ⟨L.fb, 1, none⟩ = some (.string ⟨allFour.toArray⟩)
  f2 : w.cell? ⟨L.fb, 2, none⟩ = some (.slice (some ⟨L.bb, 0, none⟩) M.body.length L.bc)
  f3 : w.cell? ⟨L.fb, 3, none⟩ = some (.slice L.ta M.tabs.length L.tc)
  g0 : ∀ i, i < 4 → w.cell? ⟨L.gb, i * 5, none⟩ = some (.int .u8 (gType i))
  g1 : ∀ i, i < 4 → w.cell? ⟨L.gb, i * 5 + 1, none⟩ = some (.bool (gMut M i))
  g2 : ∀ i, i < 4 → w.cell? ⟨L.gb, i * 5 + 2, none⟩ = some (.int .u8 (M.gin i))
  b0 : ∀ i, i < M.body.length → w.cell? ⟨L.bb, i * 3, none⟩ = some (.int .u8 (M.body.getD i ins0).op)
  b1 : ∀ i, i < M.body.length → w.cell? ⟨L.bb, i * 3 + 1, none⟩ = some (.int .u32 (M.body.getD i ins0).x)
  b2 : ∀ i, i < M.body.length → w.cell? ⟨L.bb, i * 3 + 2, none⟩ = some (.int .u64 (M.body.getD i ins0).y)
  t0 : ∀ i, i < M.tabs.length → L.ta = some ⟨L.tbk, 0, none⟩ ∧ w.cell? ⟨L.tbk, i, none⟩ = some (.int .u32 (M.tabs.getD i 0))
  x0 : ∀ i, i < M.exps.length → L.xa = some ⟨L.xb, 0, none⟩ ∧ w.cell? ⟨L.xb, i * 3, none⟩ = some (.string ⟨(M.exps.getD i exp0).name.toArray⟩)
  x1 : ∀ i, i < M.exps.length → w.cell? ⟨L.xb, i * 3 + 1, none⟩ = some (.int .u8 (M.exps.getD i exp0).kind)
  x2 : ∀ i, i < M.exps.length → w.cell? ⟨L.xb, i * 3 + 2, none⟩ = some (.int .u32 (M.exps.getD i exp0).idx)
  e0 : ∀ i, i < M.elems.length → L.ea = some ⟨L.eb, 0, none⟩ ∧ w.cell? ⟨L.eb, i * 4, none⟩ = some (.int .u8 (M.elems.getD i elm0).off)
  e3 : ∀ i, i < M.elems.length → w.cell? ⟨L.eb, i * 4 + 3, none⟩ = some (.slice (some ⟨L.ef i, 0, none⟩) (M.elems.getD i elm0).fns.length (M.elems.getD i elm0).fns.length)
  ef : ∀ i, i < M.elems.length → ∀ j, j < (M.elems.getD i elm0).fns.length → w.cell? ⟨L.ef i, j, none⟩ = some (.int .u32 ((M.elems.getD i elm0).fns.getD j 0))
  d0 : ∀ i, i < M.datas.length → L.da = some ⟨L.db, 0, none⟩ ∧ w.cell? ⟨L.db, i * 4, none⟩ = some (.int .u8 (M.datas.getD i 0))
  /- the blocks lie above the validator's -/
  ne : bv < L.p ∧ bv < L.tb ∧ bv < L.ib ∧ bv < L.fb ∧ bv < L.gb ∧ bv < L.bb ∧ (M.tabs ≠ [] → bv < L.tbk) ∧ (M.exps ≠ [] → bv < L.xb) ∧ (M.elems ≠ [] → bv < L.eb) ∧ (∀ i, i < M.elems.length → bv < L.ef i) ∧ (M.datas ≠ [] → bv < L.db)

/-- What can be read of the module stays as it is while the validator's block alone is written. -/
theorem ModAt.keep {w w' : World} {bv : Nat} {L : Lay} {M : Md} (h : ModAt w bv L M) (hc : ∀ p : Addr, ∀ v, bv < p.block → w.cell? p = some v → w'.cell? p = some v) : ModAt w' bv L M := by
  obtain ⟨n1, n2, n3, n4, n5, n6, n7, n8, n9, n10, n11⟩ := h.ne
  have nz : ∀ {A : Type} {l : List A} {i : Nat}, i < l.length → l ≠ [] := fun {A l i} hi e => by rw [e] at hi; simp at hi
  exact ⟨hc _ _ n1 h.m0, hc _ _ n1 h.m1, hc _ _ n1 h.m2, hc _ _ n1 h.m3, hc _ _ n1 h.m4, hc _ _ n1 h.m5, hc _ _ n1 h.m6, hc _ _ n1 h.m7, hc _ _ n1 h.m8, hc _ _ n1 h.m9, hc _ _ n1 h.m10, hc _ _ n1 h.m11,
    hc _ _ n2 h.ty0, hc _ _ n2 h.ty1, hc _ _ n2 h.ty2, hc _ _ n3 h.im, hc _ _ n4 h.f0, hc _ _ n4 h.f1, hc _ _ n4 h.f2, hc _ _ n4 h.f3,
    fun i hi => hc _ _ n5 (h.g0 i hi), fun i hi => hc _ _ n5 (h.g1 i hi), fun i hi => hc _ _ n5 (h.g2 i hi),
    fun i hi => hc _ _ n6 (h.b0 i hi), fun i hi => hc _ _ n6 (h.b1 i hi), fun i hi => hc _ _ n6 (h.b2 i hi),
    fun i hi => ⟨(h.t0 i hi).1, hc _ _ (n7 (nz hi)) (h.t0 i hi).2⟩,
    fun i hi => ⟨(h.x0 i hi).1, hc _ _ (n8 (nz hi)) (h.x0 i hi).2⟩, fun i hi => hc _ _ (n8 (nz hi)) (h.x1 i hi), fun i hi => hc _ _ (n8 (nz hi)) (h.x2 i hi),
    fun i hi => ⟨(h.e0 i hi).1, hc _ _ (n9 (nz hi)) (h.e0 i hi).2⟩, fun i hi => hc _ _ (n9 (nz hi)) (h.e3 i hi),
    fun i hi j hj => hc _ _ (n10 i hi) (h.ef i hi j hj), fun i hi => ⟨(h.d0 i hi).1, hc _ _ (n11 (nz hi)) (h.d0 i hi).2⟩, h.ne⟩

theorem ModAt.ex {w w' : World} {bv : Nat} {L : Lay} {M : Md} (h : ModAt w bv L M) (e : Ex bv w w') : ModAt w' bv L M :=
  h.keep fun p v hp hv => by rw [e.cell (World.block_lt_of_cell? _ _ hv) (by omega)]; exact hv

theorem ModAt.drewN {w : World} {bv : Nat} {L : Lay} {M : Md} (h : ModAt w bv L M) (n : Nat) : ModAt (w.drewN n) bv L M := h.ex ((Ex.refl bv w).drewN n)
theorem ModAt.alloc {w : World} {bv : Nat} {L : Lay} {M : Md} (h : ModAt w bv L M) (o : Obj) : ModAt (w.alloc o) bv L M := h.ex ((Ex.refl bv w).alloc o)

theorem ModAt.ty {w : World} {bv : Nat} {L : Lay} {M : Md} (h : ModAt w bv L M) (i : Nat) (hi : i < 3) : w.cell? ⟨L.tb, i, none⟩ = some (.string ⟨(typeText M i).toArray⟩) := by
  match i, hi with
  | 0, _ => exact h.ty0
  | 1, _ => exact h.ty1
  | 2, _ => exact h.ty2

end Go.Proofs.Qxb6500273a
