/-
  Ordered: what is carried from part to part.
-/
import Derived.Test.Qxb6500273aReExps
import Derived.Test.Qxb6500273aOrdLaw
import Derived.Test.Qxb6500273aIn
import Derived.Test.Qxb6500273aValid
import Derived.Deep.DeepCutAuto
set_option linter.unusedVariables false
namespace Go.Proofs.Qxb6500273a
open Go.RowKit

/-- the wide instruction's box -/
def WideAt (wc : World) (wb : Nat) : Prop := wc.cell? ⟨wb, 0, none⟩ = some (.int .u8 66) ∧ wc.cell? ⟨wb, 1, none⟩ = some (.int .u32 0) ∧ wc.cell? ⟨wb, 2, none⟩ = some (.int .u64 0)

/-- where the exports lie: nowhere yet | the twins, in a row of their own -/
def XNone (L : Lay) (M : Md) : Prop := M.exps = [] ∧ L.xa = none ∧ L.xc = 0
def XTwins (wc : World) (L : Lay) (M : Md) : Prop :=
  M.exps.length = 2 ∧ L.xa = some ⟨L.xb, 0, none⟩ ∧ L.xc = 2 ∧ wc.heap[L.xb]? = some (.cells #[.string ⟨#[98]⟩, .int .u8 0, .int .u32 1, .string ⟨#[98]⟩, .int .u8 2, .int .u32 0] 106 (0, 0)) ∧ L.gb < L.xb ∧ (M.elems ≠ [] → L.eb ≠ L.xb) ∧ (∀ i, i < M.elems.length → ∀ j, j < (M.elems.getD i elm0).fns.length → L.ef i ≠ L.xb) ∧ (M.datas ≠ [] → L.db ≠ L.xb)

/-- the state behind a part -/
structure OrdS (bv : Nat) (w : World) (P : Nat) (B : Int) (M : Md) (L : Lay) (wc : World) : Prop where
  p : L.p = P
  m : ModAt wc bv L M ∧ ModW wc L M
  be : Below w.heap.size w wc
  bx : wc.cell? ⟨w.heap.size, 2, none⟩ = some (.int .i64 B)
  lt : w.heap.size < P

theorem OrdS.ltp {bv : Nat} {w : World} {P : Nat} {B : Int} {M : Md} {L : Lay} {wc : World} (h : OrdS bv w P B M L wc) : P < wc.heap.size := by
  rw [← h.p]; exact World.block_lt_of_cell? _ _ h.m.1.m0

/-- a block more -/
theorem OrdS.alloc {bv : Nat} {w : World} {P : Nat} {B : Int} {M : Md} {L : Lay} {wc : World} (h : OrdS bv w P B M L wc) (ob : Obj) : OrdS bv w P B M L (wc.alloc ob) :=
  ⟨h.p, ModAt.allocW h.m ob, h.be.alloc h.be.size ob, (oldc (World.block_lt_of_cell? _ _ h.bx)).trans h.bx, h.lt⟩
theorem OrdS.drew {bv : Nat} {w : World} {P : Nat} {B : Int} {M : Md} {L : Lay} {wc : World} (h : OrdS bv w P B M L wc) : OrdS bv w P B M L wc.drew :=
  ⟨h.p, ModAt.drewW h.m, h.be.drew, h.bx, h.lt⟩
/-- a cell of the module's turned -/
theorem OrdS.set {bv : Nat} {w : World} {P : Nat} {B : Int} {M M' : Md} {L L' : Lay} {wc : World} (h : OrdS bv w P B M L wc) (b o : Nat) (v : Value) (hb : w.heap.size < b) (hp : L'.p = L.p) (hm : ModAt (wc.setCell ⟨b, o, none⟩ v) bv L' M' ∧ ModW (wc.setCell ⟨b, o, none⟩ v) L' M') : OrdS bv w P B M' L' (wc.setCell ⟨b, o, none⟩ v) :=
  ⟨hp.trans h.p, hm, h.be.setCell (by simp only []; omega) v, by rw [apartc (by omega)]; exact h.bx, h.lt⟩

def OrdRel (bv : Nat) (w : World) (P : Nat) (B : Int) (M : Md) (r : Int × Int) (s6 s7 : Value) (wc : World) : Prop :=
  s6 = .int .i64 r.1 ∧ s7 = .int .i64 r.2 ∧ ∃ L, OrdS bv w P B M L wc
def OrdRelX (bv : Nat) (w : World) (P wb : Nat) (B : Int) (M : Md) (r : Int × Int) (s6 s7 : Value) (wc : World) : Prop :=
  s6 = .int .i64 r.1 ∧ s7 = .int .i64 r.2 ∧ ∃ L, OrdS bv w P B M L wc ∧ XNone L M ∧ WideAt wc wb ∧ P < wb
def OrdRelN (bv : Nat) (w : World) (P : Nat) (B : Int) (M : Md) (r : Int × Int) (s6 s7 : Value) (wc : World) : Prop :=
  s6 = .int .i64 r.1 ∧ s7 = .int .i64 r.2 ∧ ∃ L, OrdS bv w P B M L wc ∧ XNone L M
def OrdRelT (bv : Nat) (w : World) (P : Nat) (B : Int) (t : Bool) (M : Md) (r : Int × Int) (s6 s7 : Value) (wc : World) : Prop :=
  s6 = .int .i64 r.1 ∧ s7 = .int .i64 r.2 ∧ ∃ L, OrdS bv w P B M L wc ∧ ((t = false ∧ XNone L M) ∨ (t = true ∧ XTwins wc L M))

theorem heap_new_at {x : World} {n : Nat} {ob : Obj} (h : x.heap.size = n) : (x.alloc ob).heap[n]? = some ob := by
  subst h; exact Array.getElem?_push_size

/-- the step at part 10, and so on: what the walk left, said -/
theorem ord10 {bv : Nat} {w : World} {P wb : Nat} {B : Int} {M : Md} {L : Lay} {W : World} (h : OrdS bv w P B M L W) (hX : XNone L M) (hd : WideAt W wb) (hwb : P < wb) :
    OrdRelX bv w P wb B { M with datas := [66] } (0, 27) (.int .i64 0) (.int .i64 27) ((W.setCell ⟨P, 11, none⟩ (.slice (some ⟨W.heap.size, 0, none⟩) 1 1)).alloc (.cells #[.int .u8 66, .int .u32 0, .int .u64 0, .string ⟨#[100]⟩] 102)) := by
  have hl := h.ltp
  have hlt := h.lt
  have hwl : wb < W.heap.size := World.block_lt_of_cell? _ _ hd.1
  rw [← World.setCell_alloc_past _ _ _ _ hl]
  obtain rfl := h.p
  have ha := h.alloc (.cells #[.int .u8 66, .int .u32 0, .int .u64 0, .string ⟨#[100]⟩] 102)
  have hx := ModAt.setDatas ha.m.1 ha.m.2 [66] W.heap.size 1 h.m.2.o7 (one3 (World.cell?_alloc_new _ _ _ 0))
  refine ⟨rfl, rfl, _, ha.set _ _ _ hlt (by rfl) hx, hX, ⟨?_, ?_, ?_⟩, hwb⟩
  · rw [apartc (by omega), oldc hwl]; exact hd.1
  · rw [apartc (by omega), oldc hwl]; exact hd.2.1
  · rw [apartc (by omega), oldc hwl]; exact hd.2.2

theorem ord9 {bv : Nat} {w : World} {P : Nat} {B : Int} {M : Md} {L : Lay} {W : World} (h : OrdS bv w P B M L W) (hX : XNone L M) :
    OrdRelN bv w P B { M with elems := [⟨65, [0]⟩, ⟨66, [0]⟩] } (1, 27) (.int .i64 1) (.int .i64 27) ((((W.alloc (.cells #[.int .u32 0] 39)).alloc (.cells #[.int .u32 0] 39)).alloc (.cells #[.int .u8 65, .int .u32 0, .int .u64 0, .slice (some ⟨W.heap.size, 0, none⟩) 1 1, .int .u8 66, .int .u32 0, .int .u64 0, .slice (some ⟨W.heap.size + 1, 0, none⟩) 1 1] 104)).setCell ⟨P, 10, none⟩ (.slice (some ⟨W.heap.size + 2, 0, none⟩) 2 2)) := by
  have hl := h.ltp
  have hlt := h.lt
  have o7 := h.m.2.o7
  obtain rfl := h.p
  have ha := ((h.alloc (.cells #[.int .u32 0] 39)).alloc (.cells #[.int .u32 0] 39)).alloc (.cells #[.int .u8 65, .int .u32 0, .int .u64 0, .slice (some ⟨W.heap.size, 0, none⟩) 1 1, .int .u8 66, .int .u32 0, .int .u64 0, .slice (some ⟨W.heap.size + 1, 0, none⟩) 1 1] 104)
  have n := fun j => World.cell?_alloc_new ((W.alloc (.cells #[.int .u32 0] 39)).alloc (.cells #[.int .u32 0] 39)) #[.int .u8 65, .int .u32 0, .int .u64 0, .slice (some ⟨W.heap.size, 0, none⟩) 1 1, .int .u8 66, .int .u32 0, .int .u64 0, .slice (some ⟨W.heap.size + 1, 0, none⟩) 1 1] 104 j
  simp only [World.size_alloc] at n
  have q1 : (((W.alloc (.cells #[.int .u32 0] 39)).alloc (.cells #[.int .u32 0] 39)).alloc (.cells #[.int .u8 65, .int .u32 0, .int .u64 0, .slice (some ⟨W.heap.size, 0, none⟩) 1 1, .int .u8 66, .int .u32 0, .int .u64 0, .slice (some ⟨W.heap.size + 1, 0, none⟩) 1 1] 104)).cell? ⟨W.heap.size, 0, none⟩ = some (.int .u32 0) := by
    rw [oldc (by simp only [World.size_alloc]; omega), oldc (by simp only [World.size_alloc]; omega)]; exact World.cell?_alloc_new _ _ _ 0
  have q2 : (((W.alloc (.cells #[.int .u32 0] 39)).alloc (.cells #[.int .u32 0] 39)).alloc (.cells #[.int .u8 65, .int .u32 0, .int .u64 0, .slice (some ⟨W.heap.size, 0, none⟩) 1 1, .int .u8 66, .int .u32 0, .int .u64 0, .slice (some ⟨W.heap.size + 1, 0, none⟩) 1 1] 104)).cell? ⟨W.heap.size + 1, 0, none⟩ = some (.int .u32 0) := by
    rw [oldc (by simp only [World.size_alloc]; omega)]
    have := World.cell?_alloc_new (W.alloc (.cells #[.int .u32 0] 39)) #[.int .u32 0] 39 0
    rw [World.size_alloc] at this
    exact this
  have hx := ModAt.setElems ha.m.1 ha.m.2 [⟨65, [0]⟩, ⟨66, [0]⟩] (W.heap.size + 2) 2 (fun i => W.heap.size + i) (by omega) (fun i _ => by omega) (two3 (n 0) (n 4)) (two3 (n 3) (n 7)) (two3 (one3 q1) (one3 q2))
  exact ⟨rfl, rfl, _, ha.set _ _ _ hlt (by rfl) hx, hX⟩

theorem ord8 {bv : Nat} {w : World} {P : Nat} {B : Int} {M : Md} {L : Lay} {W : World} (h : OrdS bv w P B M L W) (hX : XNone L M) :
    OrdRelN bv w P B { M with start := 5 } (0, 15) (.int .i64 0) (.int .i64 15) (W.setCell ⟨P, 9, none⟩ (.int .i64 5)) := by
  have hlt := h.lt
  obtain rfl := h.p
  exact ⟨rfl, rfl, _, h.set _ _ _ hlt (by rfl) (ModAt.setStart h.m.1 h.m.2 5), hX⟩

theorem ord7 {bv : Nat} {w : World} {P : Nat} {B : Int} {M : Md} {L : Lay} {W : World} (h : OrdS bv w P B M L W) :
    OrdRelT bv w P B true { M with exps := [⟨[98], 0, 1⟩, ⟨[98], 2, 0⟩] } (1, 18) (.int .i64 1) (.int .i64 18) ((W.alloc (.cells #[.string ⟨#[98]⟩, .int .u8 0, .int .u32 1, .string ⟨#[98]⟩, .int .u8 2, .int .u32 0] 106)).setCell ⟨P, 8, none⟩ (.slice (some ⟨W.heap.size, 0, none⟩) 2 2)) := by
  have hl := h.ltp
  have hlt := h.lt
  have o7 := h.m.2.o7
  obtain rfl := h.p
  have ha := h.alloc (.cells #[.string ⟨#[98]⟩, .int .u8 0, .int .u32 1, .string ⟨#[98]⟩, .int .u8 2, .int .u32 0] 106)
  have hx := ModAt.setExps ha.m.1 ha.m.2 [⟨[98], 0, 1⟩, ⟨[98], 2, 0⟩] W.heap.size 2 o7 (two3 (World.cell?_alloc_new _ _ _ 0) (World.cell?_alloc_new _ _ _ 3)) (two3 (World.cell?_alloc_new _ _ _ 1) (World.cell?_alloc_new _ _ _ 4)) (two3 (World.cell?_alloc_new _ _ _ 2) (World.cell?_alloc_new _ _ _ 5))
  have nz : ∀ {A : Type} {l : List A}, l ≠ [] → 0 < l.length := fun {A l} e => by cases l with | nil => exact absurd rfl e | cons a l => simp
  refine ⟨rfl, rfl, _, ha.set _ _ _ hlt (by rfl) hx, .inr ⟨rfl, rfl, rfl, rfl, ?_, o7, fun e => ?_, fun i hi j hj => ?_, fun e => ?_⟩⟩
  · rw [World.setCell_alloc_past _ _ _ _ hl]
    exact heap_new_at (by simp)
  · have := World.block_lt_of_cell? _ _ (h.m.1.e0 0 (nz e)).2
    simp only [] at this ⊢; omega
  · have := World.block_lt_of_cell? _ _ (h.m.1.ef i hi j hj)
    simp only [] at this ⊢; omega
  · have := World.block_lt_of_cell? _ _ (h.m.1.d0 0 (nz e)).2
    simp only [] at this ⊢; omega

theorem ord5 {bv : Nat} {w : World} {P : Nat} {B : Int} {M : Md} {L : Lay} {W : World} (h : OrdS bv w P B M L W) :
    OrdRel bv w P B { M with gin := upd M.gin 2 65 } (2, 27) (.int .i64 2) (.int .i64 27) (((W.setCell ⟨L.gb, 12, none⟩ (.int .u8 65)).setCell ⟨L.gb, 13, none⟩ (.int .u32 0)).setCell ⟨L.gb, 14, none⟩ (.int .u64 0)) := by
  have hlt := h.lt
  have hp := h.p
  have o1 := h.m.2.o1
  have o2 := h.m.2.o2
  have o3 := h.m.2.o3
  have o4 := h.m.2.o4
  have h1 := h.set L.gb 12 _ (by omega) rfl (ModAt.setGin h.m.1 h.m.2 2 (by omega) 65)
  have h2 := h1.set L.gb 13 _ (by omega) rfl (ModAt.setGx h1.m.1 h1.m.2 2 (.int .u32 0))
  have h3 := h2.set L.gb 14 _ (by omega) rfl (ModAt.setGy h2.m.1 h2.m.2 2 (.int .u64 0))
  exact ⟨rfl, rfl, _, h3⟩

theorem ord4 {bv : Nat} {w : World} {P : Nat} {B : Int} {M : Md} {L : Lay} {W : World} (h : OrdS bv w P B M L W) :
    OrdRel bv w P B { M with memMin := 7 } (1, 16) (.int .i64 1) (.int .i64 16) (W.setCell ⟨P, 5, none⟩ (.int .i64 7)) := by
  have hlt := h.lt
  obtain rfl := h.p
  exact ⟨rfl, rfl, _, h.set _ _ _ hlt (by rfl) (ModAt.setMemMin h.m.1 h.m.2 7)⟩
theorem ord3 {bv : Nat} {w : World} {P : Nat} {B : Int} {M : Md} {L : Lay} {W : World} (h : OrdS bv w P B M L W) :
    OrdRel bv w P B { M with tabMin := 9 } (0, 16) (.int .i64 0) (.int .i64 16) (W.setCell ⟨P, 3, none⟩ (.int .i64 9)) := by
  have hlt := h.lt
  obtain rfl := h.p
  exact ⟨rfl, rfl, _, h.set _ _ _ hlt (by rfl) (ModAt.setTabMin h.m.1 h.m.2 9)⟩
theorem ord2 {bv : Nat} {w : World} {P : Nat} {B : Int} {M : Md} {L : Lay} {W : World} (h : OrdS bv w P B M L W) :
    OrdRel bv w P B { M with ft := 3 } (1, 14) (.int .i64 1) (.int .i64 14) (W.setCell ⟨L.fb, 0, none⟩ (.int .i64 3)) := by
  have hlt := h.lt
  have hp := h.p
  have o1 := h.m.2.o1
  have o2 := h.m.2.o2
  have o3 := h.m.2.o3
  exact ⟨rfl, rfl, _, h.set _ _ _ (by omega) (by rfl) (ModAt.setFt h.m.1 h.m.2 3)⟩
theorem ord1 {bv : Nat} {w : World} {P : Nat} {B : Int} {M : Md} {L : Lay} {W : World} (h : OrdS bv w P B M L W) :
    OrdRel bv w P B { M with it := 3 } (0, 14) (.int .i64 0) (.int .i64 14) (W.setCell ⟨L.ib, 2, none⟩ (.int .i64 3)) := by
  have hlt := h.lt
  have hp := h.p
  have o1 := h.m.2.o1
  have o2 := h.m.2.o2
  exact ⟨rfl, rfl, _, h.set _ _ _ (by omega) (by rfl) (ModAt.setIt h.m.1 h.m.2 3)⟩

end Go.Proofs.Qxb6500273a
