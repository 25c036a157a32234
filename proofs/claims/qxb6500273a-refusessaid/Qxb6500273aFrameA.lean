/-
  The frame module: what it is as data, and the derivation's parts in memory.
-/
import Derived.Test.Qxb6500273aMod
import Derived.Deep.RegionWith
import Derived.Deep.RegionHeld3
import Derived.Deep.RegionLaw
import Derived.Deep.AppendLies
namespace Go.Proofs.Qxb6500273a
open Go.RowKit

theorem pastc {w : World} {b o o' : Nat} {v : Value} (h : o ≠ o') : (w.setCell ⟨b, o, none⟩ v).cell? ⟨b, o', none⟩ = w.cell? ⟨b, o', none⟩ :=
  World.cell?_setCell_other _ _ _ _ (fun e => h (congrArg Addr.off e))
theorem apartc {w : World} {b b' o o' : Nat} {v : Value} (h : b ≠ b') : (w.setCell ⟨b, o, none⟩ v).cell? ⟨b', o', none⟩ = w.cell? ⟨b', o', none⟩ :=
  World.cell?_setCell_other _ _ _ _ (fun e => h (congrArg Addr.block e))
theorem oldc {w : World} {ob : Obj} {b o : Nat} (h : b < w.heap.size) : (w.alloc ob).cell? ⟨b, o, none⟩ = w.cell? ⟨b, o, none⟩ :=
  World.cell?_alloc_lt _ _ _ h

def mod0 (t : Int) (body : List Insn) (tabs : List Int) : Md :=
  { t1 := [127, 58, 127], it := 1, ft := t, body := body, tabs := tabs, tabMin := 1, tabMax := -1, memMin := 1, memMax := -1, gin := fun i => 65 + (i : Int), mut3 := true, exps := [], start := -1, elems := [], datas := [] }

/-- a body's instructions lie in block bb -/
structure BodyAt (w : World) (bb : Nat) (body : List Insn) : Prop where
  b0 : ∀ i, i < body.length → w.cell? ⟨bb, i * 3, none⟩ = some (.int .u8 (body.getD i ins0).op)
  b1 : ∀ i, i < body.length → w.cell? ⟨bb, i * 3 + 1, none⟩ = some (.int .u32 (body.getD i ins0).x)
  b2 : ∀ i, i < body.length → w.cell? ⟨bb, i * 3 + 2, none⟩ = some (.int .u64 (body.getD i ins0).y)

/-- the labels -/
structure TabsAt (w : World) (ta : Option Addr) (tbk : Nat) (tabs : List Int) : Prop where
  t0 : ∀ i, i < tabs.length → ta = some ⟨tbk, 0, none⟩ ∧ w.cell? ⟨tbk, i, none⟩ = some (.int .u32 (tabs.getD i 0))

theorem BodyAt.keep {w w' : World} {bb : Nat} {body : List Insn} (h : BodyAt w bb body) (hc : ∀ o v, w.cell? ⟨bb, o, none⟩ = some v → w'.cell? ⟨bb, o, none⟩ = some v) : BodyAt w' bb body :=
  ⟨fun i hi => hc _ _ (h.b0 i hi), fun i hi => hc _ _ (h.b1 i hi), fun i hi => hc _ _ (h.b2 i hi)⟩
theorem TabsAt.keep {w w' : World} {ta : Option Addr} {tbk : Nat} {tabs : List Int} (h : TabsAt w ta tbk tabs) (hc : ∀ o v, w.cell? ⟨tbk, o, none⟩ = some v → w'.cell? ⟨tbk, o, none⟩ = some v) : TabsAt w' ta tbk tabs :=
  ⟨fun i hi => ⟨(h.t0 i hi).1, hc _ _ (h.t0 i hi).2⟩⟩
theorem BodyAt.below {w w' : World} {bb : Nat} {body : List Insn} (h : BodyAt w bb body) (b : Below w.heap.size w w') : BodyAt w' bb body :=
  h.keep fun o v hv => by rw [b.cell (World.block_lt_of_cell? _ _ hv)]; exact hv
theorem TabsAt.below {w w' : World} {ta : Option Addr} {tbk : Nat} {tabs : List Int} (h : TabsAt w ta tbk tabs) (b : Below w.heap.size w w') : TabsAt w' ta tbk tabs :=
  h.keep fun o v hv => by rw [b.cell (World.block_lt_of_cell? _ _ hv)]; exact hv

/-- the module's own blocks: their order, and that they may be written -/
structure ModW (w : World) (L : Lay) (M : Md) : Prop where
  o1 : L.p < L.tb
  o2 : L.tb < L.ib
  o3 : L.ib < L.fb
  o4 : L.fb < L.gb
  o5 : L.bb < L.p
  o6 : M.tabs ≠ [] → L.tbk < L.p
  o7 : L.gb < w.heap.size
  fp : ∀ o, w.frozen? ⟨L.p, o, none⟩ = false
  ft : ∀ o, w.frozen? ⟨L.tb, o, none⟩ = false
  fi : ∀ o, w.frozen? ⟨L.ib, o, none⟩ = false
  ff : ∀ o, w.frozen? ⟨L.fb, o, none⟩ = false
  fg : ∀ o, w.frozen? ⟨L.gb, o, none⟩ = false
  o8 : M.exps ≠ [] → L.gb < L.xb
  o9 : M.elems ≠ [] → L.gb < L.eb
  o10 : ∀ i, i < M.elems.length → L.gb < L.ef i
  o11 : M.datas ≠ [] → L.gb < L.db
  gx : ∀ i, i < 4 → ∃ v, w.cell? ⟨L.gb, i * 5 + 3, none⟩ = some v
  gy : ∀ i, i < 4 → ∃ v, w.cell? ⟨L.gb, i * 5 + 4, none⟩ = some v

theorem Try.info83 : (Try.prog.info? 83).map (fun i => (i.zero, i.size, i.bytes)) = some (some (.agg #[.int .u8 0, .bool false, .int .u8 0, .int .u32 0, .int .u64 0]), 5, 24) := by kernel_rfl

/-- the cells of the first k globals -/
def globs (k : Nat) : List Value :=
  (List.range k).flatMap fun i => [.int .u8 (gType i), .bool true, .int .u8 (65 + (i : Int)), .int .u32 0, .int .u64 0]

end Go.Proofs.Qxb6500273a
