/-
  Deadly: the ways.
-/
import Derived.Test.Qxb6500273aDd0
set_option linter.unusedVariables false
set_option linter.unusedSimpArgs false
namespace Go.Proofs.Qxb6500273a
open Go.RowKit

section
variable {w W : World} {bv db b5 : Nat} {E : Dv} {vb vt vc : Value} {V : VS} {K A B C : Int} {T : List UInt8} {cS : UInt8}

/-- behind x's alloc: the derivation's operands are the one constant -/
structure DxW (w W : World) (bv db b5 b7 : Nat) (E : Dv) (vb vt vc : Value) (V : VS) (K A B C : Int) (S T : List UInt8) (x : Insn) : Prop where
  d : DdW w W bv db b5 E vb vt vc V K A B C S T
  o2 : b5 < b7
  o5 : b7 < W.heap.size
  x0 : W.cell? ⟨b7, 0, none⟩ = some (.int .u8 x.op)
  x1 : W.cell? ⟨b7, 1, none⟩ = some (.int .u32 x.x)
  x2 : W.cell? ⟨b7, 2, none⟩ = some (.int .u64 x.y)
  xf : ∀ o, W.frozen? ⟨b7, o, none⟩ = false
  kb : vb.ownBlock ≠ some b7
  kt : vt.ownBlock ≠ some b7
  kc : vc.ownBlock ≠ some b7

theorem DxW.next {w W W' : World} {bv db b5 b7 : Nat} {E : Dv} {vb vt vc : Value} {V : VS} {K A B C : Int} {S T : List UInt8} {x : Insn} (hb : Below W.heap.size W W') (h : DxW w W bv db b5 b7 E vb vt vc V K A B C S T x) : DxW w W' bv db b5 b7 E vb vt vc V K A B C S T x := by
  have k : ∀ o, W'.cell? ⟨b7, o, none⟩ = W.cell? ⟨b7, o, none⟩ := fun o => hb.cell (p := ⟨b7, o, none⟩) h.o5
  exact ⟨h.d.next hb, h.o2, Nat.lt_of_lt_of_le h.o5 hb.size, (k _).trans h.x0, (k _).trans h.x1, (k _).trans h.x2, fun o => (hb.frozen (p := ⟨b7, o, none⟩) h.o5).trans (h.xf o), h.kb, h.kt, h.kc⟩

theorem DAt.setOut {w : World} {db : Nat} {D : Dv} {vb vt vc : Value} (h : DAt w db D vb vt vc) {b o : Nat} {v : Value} (hb : db ≠ b) (h1 : vb.ownBlock ≠ some b) (h2 : vt.ownBlock ≠ some b) (h3 : vc.ownBlock ≠ some b) : DAt (w.setCell ⟨b, o, none⟩ v) db D vb vt vc := by
  have n : ∀ i, (w.setCell ⟨b, o, none⟩ v).cell? ⟨db, i, none⟩ = w.cell? ⟨db, i, none⟩ := fun i => apartc (Ne.symm hb)
  have r : ∀ {e size u n xs}, w.ownsRow (db + 1) e size u n xs → u.ownBlock ≠ some b → (w.setCell ⟨b, o, none⟩ v).ownsRow (db + 1) e size u n xs := fun hh hn => ownsRow_same hh fun g hg _ => Below.heap_setCell _ _ _ _ (fun e => hn (by rw [hg]; exact congrArg some e))
  exact ⟨(n 0).trans h.c0, (n 1).trans h.c1, (n 2).trans h.c2, (n 3).trans h.c3, (n 4).trans h.c4, (n 5).trans h.c5, (n 6).trans h.c6, fun i => by simpa using h.fz i, r h.ob h1, r h.ot h2, r h.oc h3⟩

theorem DxW.setX {w W : World} {bv db b5 b7 : Nat} {E : Dv} {vb vt vc : Value} {V : VS} {K A B C : Int} {S T : List UInt8} {x : Insn} (h : DxW w W bv db b5 b7 E vb vt vc V K A B C S T x) (y : Insn) : DxW w (((W.setCell ⟨b7, 0, none⟩ (.int .u8 y.op)).setCell ⟨b7, 1, none⟩ (.int .u32 y.x)).setCell ⟨b7, 2, none⟩ (.int .u64 y.y)) bv db b5 b7 E vb vt vc V K A B C S T y := by
  have o1 := h.d.o1
  have o2 := h.o2
  have o5 := h.o5
  have hdw := h.d.dw
  have x0 := h.x0
  have x1 := h.x1
  have x2 := h.x2
  have n : db ≠ b7 := by omega
  have k : ∀ o, (((W.setCell ⟨b7, 0, none⟩ (.int .u8 y.op)).setCell ⟨b7, 1, none⟩ (.int .u32 y.x)).setCell ⟨b7, 2, none⟩ (.int .u64 y.y)).cell? ⟨b5, o, none⟩ = W.cell? ⟨b5, o, none⟩ := fun o => by rw [apartc (by omega), apartc (by omega), apartc (by omega)]
  have hB : Below db W (((W.setCell ⟨b7, 0, none⟩ (.int .u8 y.op)).setCell ⟨b7, 1, none⟩ (.int .u32 y.x)).setCell ⟨b7, 2, none⟩ (.int .u64 y.y)) := (((Below.refl db W).setCell (p := ⟨b7, 0, none⟩) (by simp only []; omega) _).setCell (p := ⟨b7, 1, none⟩) (by simp only []; omega) _).setCell (p := ⟨b7, 2, none⟩) (by simp only []; omega) _
  exact ⟨⟨h.d.be.trans hB, h.d.dw, ((h.d.at_.setOut n h.kb h.kt h.kc).setOut n h.kb h.kt h.kc).setOut n h.kb h.kt h.kc, vatBelow h.d.v hB h.d.bd, h.d.bd, o1, by simpa using h.d.o4, (k _).trans h.d.e0, (k _).trans h.d.e1, (k _).trans h.d.e2, (k _).trans h.d.e3, (k _).trans h.d.e4, (k _).trans h.d.e5⟩, o2, by simpa using o5, by simp [go_sem, x0], by simp [go_sem, x1], by simp [go_sem, x2], fun o => by simpa using h.xf o, h.kb, h.kt, h.kc⟩

set_option maxRecDepth 100000 in
set_option maxHeartbeats 4000000 in
theorem dd5_0 (h0 : E.ctl.length = 0) (hc6 : E.ctl.length ≤ 6) (hA0 : 0 ≤ A) (hA5 : A ≤ 255) (v7 v8 v9 : Value) (HW : DdW w W bv db b5 E vb vt vc V K A B C [cS] T)
    (hG : ∀ W' b7, DxW w W' bv db b5 b7 { E with st := [cS] } vb vt vc V K A B C [cS] T ⟨A, 0, 0⟩ → DGoal 9 w W' bv db b5 (.pointer (some ⟨b7, 0, none⟩)) (.bool false) (.bool false)) : DGoal 5 w W bv db b5 v7 v8 v9 := by
  intro c a hc hf
  unfold DTail at hc
  simp only [Try.f17, Option.map, dropC, Option.some.injEq] at hc
  obtain ⟨s, rfl⟩ := frame17 a _ _ _ _ _ _ _ hf.d hf.n hf.h0 hf.h1 hf.h5 hf.h6 hf.h7 hf.h8 hf.h9
  clear hf
  subst hc
  unfold DPost
  have HG : Hid (∀ W' b7, DxW w W' bv db b5 b7 { E with st := [cS] } vb vt vc V K A B C [cS] T ⟨A, 0, 0⟩ → DGoal 9 w W' bv db b5 (.pointer (some ⟨b7, 0, none⟩)) (.bool false) (.bool false)) := hG
  have e1 := HW.e1
  have e4 := HW.e4
  have d4 := HW.at_.c4
  have f4 := HW.at_.fz 4
  have hl := HW.at_.lt
  have hdw := HW.dw
  have ho1 := HW.o1
  have ho4 := HW.o4
  have n1 : ¬ b5 = db := by omega
  have n2 : ¬ db = b5 := by omega
  have hm : A % 256 = A := by omega
  have h4s := HW.at_.setSt [cS]
  have hB4 : Below db W (W.setCell ⟨db, 4, none⟩ (.string ⟨[cS].toArray⟩)) := (Below.refl db W).setCell (p := ⟨db, 4, none⟩) (by simp only []; omega) _
  have HX : Hid (DxW w ((W.setCell ⟨db, 4, none⟩ (.string ⟨[cS].toArray⟩)).alloc (.cells #[.int .u8 A, .int .u32 0, .int .u64 0] 42)) bv db b5 W.heap.size { E with st := [cS] } vb vt vc V K A B C [cS] T ⟨A, 0, 0⟩) := by
    have k : ∀ o, ((W.setCell ⟨db, 4, none⟩ (.string ⟨[cS].toArray⟩)).alloc (.cells #[.int .u8 A, .int .u32 0, .int .u64 0] 42)).cell? ⟨b5, o, none⟩ = W.cell? ⟨b5, o, none⟩ := fun o => by rw [oldc (by rw [World.size_setCell]; omega), apartc (by omega)]
    have a2 := World.cell?_alloc_new (W.setCell ⟨db, 4, none⟩ (.string ⟨[cS].toArray⟩)) #[.int .u8 A, .int .u32 0, .int .u64 0] 42
    have z2 := fun o => World.frozen?_alloc_at (w := W.setCell ⟨db, 4, none⟩ (.string ⟨[cS].toArray⟩)) #[.int .u8 A, .int .u32 0, .int .u64 0] 42 _ o rfl
    rw [World.size_setCell] at a2 z2
    have hBB := hB4.alloc (by rw [World.size_setCell]; omega) (.cells #[.int .u8 A, .int .u32 0, .int .u64 0] 42)
    exact ⟨⟨HW.be.trans hBB, HW.dw, h4s.alloc _, vatBelow HW.v hBB HW.bd, HW.bd, ho1, by rw [World.size_alloc, World.size_setCell]; omega, (k _).trans HW.e0, (k _).trans HW.e1, (k _).trans HW.e2, (k _).trans HW.e3, (k _).trans HW.e4, (k _).trans HW.e5⟩, ho4, by rw [World.size_alloc, World.size_setCell]; omega, a2 0, a2 1, a2 2, z2, fun e => by have := own_lt HW.at_.ob e; omega, fun e => by have := own_lt HW.at_.ot e; omega, fun e => by have := own_lt HW.at_.oc e; omega⟩
  obtain ⟨ca, cc, hvc⟩ := HW.at_.ctlV
  have HC5 : Hid (vc = .slice ca 0 cc) := by rw [hvc, h0]; rfl
  clear hvc
  have HWt : Hid (DAt W db E vb vt vc) := HW.at_
  clear HW hG h4s hB4 hc6 h0
  go_upto_region 10 with fail
  have HX2 := HX.out
  have d5 := HX2.d.at_.c5
  rw [HC5.out] at d5
  generalize ((W.setCell ⟨db, 4, none⟩ (.string ⟨[cS].toArray⟩)).alloc (.cells #[.int .u8 A, .int .u32 0, .int .u64 0] 42)) = W6 at *
  generalize W.heap.size = b7 at *
  clear HX d4 f4 e1 e4 HWt
  go_cut [9] from 106 to 127 (fun s9 wc => s9 = .bool false ∧ DxW w wc bv db b5 b7 { E with st := [cS] } vb vt vc V K A B C [cS] T ⟨A, 0, 0⟩)
  case first =>
    have HX3 : Hid (∀ n, DxW w (W6.drewN n) bv db b5 b7 { E with st := [cS] } vb vt vc V K A B C [cS] T ⟨A, 0, 0⟩) := fun n => HX2.next (belowN (Below.refl _ _) n)
    clear HX2 HG
    go_upto_region 10 with fail
    go_quiet (fail)
    go_wp2_with fail
    go_meet
    exact ⟨rfl, HX3.out _⟩
  case rest =>
    obtain ⟨rfl, hX⟩ := hcut
    refine (by assumption : ∀ (a : Act) (w : World), Code.wp Try.prog _ _ a w → _) _ _ ?_
    refine HG.out _ _ hX _ _ rfl ?_
    exact ⟨rfl, rfl, rfl, rfl, rfl, rfl, rfl, rfl, rfl⟩

set_option maxRecDepth 100000 in
set_option maxHeartbeats 4000000 in
theorem dd5_4 (h0 : E.ctl.length ≠ 0) (h4 : (lastB E).op = 4) (hc6 : E.ctl.length ≤ 6) (hA0 : 0 ≤ A) (hA5 : A ≤ 255) (v7 v8 v9 : Value) (HW : DdW w W bv db b5 E vb vt vc V K A B C [cS] T)
    (hG : ∀ W' b7, DxW w W' bv db b5 b7 { E with st := [cS] } vb vt vc V K A B C [cS] T ⟨A, 0, 0⟩ → DGoal 9 w W' bv db b5 (.pointer (some ⟨b7, 0, none⟩)) (.bool false) (.bool true)) : DGoal 5 w W bv db b5 v7 v8 v9 := by
  intro c a hc hf
  unfold DTail at hc
  simp only [Try.f17, Option.map, dropC, Option.some.injEq] at hc
  obtain ⟨s, rfl⟩ := frame17 a _ _ _ _ _ _ _ hf.d hf.n hf.h0 hf.h1 hf.h5 hf.h6 hf.h7 hf.h8 hf.h9
  clear hf
  subst hc
  unfold DPost
  have HG : Hid (∀ W' b7, DxW w W' bv db b5 b7 { E with st := [cS] } vb vt vc V K A B C [cS] T ⟨A, 0, 0⟩ → DGoal 9 w W' bv db b5 (.pointer (some ⟨b7, 0, none⟩)) (.bool false) (.bool true)) := hG
  have e1 := HW.e1
  have e4 := HW.e4
  have d4 := HW.at_.c4
  have f4 := HW.at_.fz 4
  have hl := HW.at_.lt
  have hdw := HW.dw
  have ho1 := HW.o1
  have ho4 := HW.o4
  have n1 : ¬ b5 = db := by omega
  have n2 : ¬ db = b5 := by omega
  have hm : A % 256 = A := by omega
  have h4s := HW.at_.setSt [cS]
  have hB4 : Below db W (W.setCell ⟨db, 4, none⟩ (.string ⟨[cS].toArray⟩)) := (Below.refl db W).setCell (p := ⟨db, 4, none⟩) (by simp only []; omega) _
  have HX : Hid (DxW w ((W.setCell ⟨db, 4, none⟩ (.string ⟨[cS].toArray⟩)).alloc (.cells #[.int .u8 A, .int .u32 0, .int .u64 0] 42)) bv db b5 W.heap.size { E with st := [cS] } vb vt vc V K A B C [cS] T ⟨A, 0, 0⟩) := by
    have k : ∀ o, ((W.setCell ⟨db, 4, none⟩ (.string ⟨[cS].toArray⟩)).alloc (.cells #[.int .u8 A, .int .u32 0, .int .u64 0] 42)).cell? ⟨b5, o, none⟩ = W.cell? ⟨b5, o, none⟩ := fun o => by rw [oldc (by rw [World.size_setCell]; omega), apartc (by omega)]
    have a2 := World.cell?_alloc_new (W.setCell ⟨db, 4, none⟩ (.string ⟨[cS].toArray⟩)) #[.int .u8 A, .int .u32 0, .int .u64 0] 42
    have z2 := fun o => World.frozen?_alloc_at (w := W.setCell ⟨db, 4, none⟩ (.string ⟨[cS].toArray⟩)) #[.int .u8 A, .int .u32 0, .int .u64 0] 42 _ o rfl
    rw [World.size_setCell] at a2 z2
    have hBB := hB4.alloc (by rw [World.size_setCell]; omega) (.cells #[.int .u8 A, .int .u32 0, .int .u64 0] 42)
    exact ⟨⟨HW.be.trans hBB, HW.dw, h4s.alloc _, vatBelow HW.v hBB HW.bd, HW.bd, ho1, by rw [World.size_alloc, World.size_setCell]; omega, (k _).trans HW.e0, (k _).trans HW.e1, (k _).trans HW.e2, (k _).trans HW.e3, (k _).trans HW.e4, (k _).trans HW.e5⟩, ho4, by rw [World.size_alloc, World.size_setCell]; omega, a2 0, a2 1, a2 2, z2, fun e => by have := own_lt HW.at_.ob e; omega, fun e => by have := own_lt HW.at_.ot e; omega, fun e => by have := own_lt HW.at_.oc e; omega⟩
  have HCt := HW.at_.ctlAt (E.ctl.length - 1) (by omega)
  obtain ⟨g, cap, hv, hg, k0, k1, k2⟩ := HCt
  have hlb : E.ctl.getD (E.ctl.length - 1) blk0 = lastB E := rfl
  rw [hlb] at k0
  obtain ⟨j, hj⟩ : ∃ j : Nat, E.ctl.length = j + 1 := ⟨E.ctl.length - 1, by omega⟩
  rw [show E.ctl.length - 1 = j by omega] at k0
  have HC5 : Hid (vc = .slice (some ⟨g, 0, none⟩) (j + 1) cap) := by rw [hv, hj]; rfl
  have hi1 : (j : Int) + 1 - 1 = j := by omega
  have hk7 : (j : Int) < 1000 := by omega
  have b1 : decide ((0 : Int) < (j : Int) + 1) = true := decide_eq_true (by omega)
  have hgl : g < W.heap.size := World.block_lt_of_cell? _ _ k0
  have K0 : Hid (W.cell? ⟨g, j * 3, none⟩ = some (.int .u8 (lastB E).op)) := k0
  have B4 : Hid (((lastB E).op == 4) = true) := by refine show _ = _ from ?_; rw [h4]; rfl
  clear k0 k1 k2 hv hlb hj
  have HWt : Hid (DAt W db E vb vt vc) := HW.at_
  clear HW hG h4s hB4 hc6 h0 h4
  go_upto_region 10 with fail
  have HX2 := HX.out
  have d5 := HX2.d.at_.c5
  rw [HC5.out] at d5
  have k0 : ((W.setCell ⟨db, 4, none⟩ (.string ⟨[cS].toArray⟩)).alloc (.cells #[.int .u8 A, .int .u32 0, .int .u64 0] 42)).cell? ⟨g, j * 3, none⟩ = some (.int .u8 (lastB E).op) := by
    rw [oldc (by rw [World.size_setCell]; exact hgl), apartc (by omega)]
    exact K0.out
  have b4 := B4.out
  generalize lastB E = b at *
  generalize ((W.setCell ⟨db, 4, none⟩ (.string ⟨[cS].toArray⟩)).alloc (.cells #[.int .u8 A, .int .u32 0, .int .u64 0] 42)) = W6 at *
  generalize W.heap.size = b7 at *
  clear HX d4 f4 e1 e4 HWt
  go_cut [9] from 106 to 127 (fun s9 wc => s9 = .bool true ∧ DxW w wc bv db b5 b7 { E with st := [cS] } vb vt vc V K A B C [cS] T ⟨A, 0, 0⟩)
  case first =>
    have HX3 : Hid (∀ n, DxW w (W6.drewN n) bv db b5 b7 { E with st := [cS] } vb vt vc V K A B C [cS] T ⟨A, 0, 0⟩) := fun n => HX2.next (belowN (Below.refl _ _) n)
    clear HX2 HG
    go_upto_region 10 with fail
    go_quiet (fail)
    go_wp2_with fail
    go_meet
    exact ⟨rfl, HX3.out _⟩
  case rest =>
    obtain ⟨rfl, hX⟩ := hcut
    refine (by assumption : ∀ (a : Act) (w : World), Code.wp Try.prog _ _ a w → _) _ _ ?_
    refine HG.out _ _ hX _ _ rfl ?_
    exact ⟨rfl, rfl, rfl, rfl, rfl, rfl, rfl, rfl, rfl⟩

set_option maxRecDepth 100000 in
set_option maxHeartbeats 4000000 in
theorem dd5_x (h0 : E.ctl.length ≠ 0) (h4 : (lastB E).op ≠ 4) (hc6 : E.ctl.length ≤ 6) (hA0 : 0 ≤ A) (hA5 : A ≤ 255) (v7 v8 v9 : Value) (HW : DdW w W bv db b5 E vb vt vc V K A B C [cS] T)
    (hG : ∀ W' b7, DxW w W' bv db b5 b7 { E with st := [cS] } vb vt vc V K A B C [cS] T ⟨A, 0, 0⟩ → DGoal 9 w W' bv db b5 (.pointer (some ⟨b7, 0, none⟩)) (.bool false) (.bool false)) : DGoal 5 w W bv db b5 v7 v8 v9 := by
  intro c a hc hf
  unfold DTail at hc
  simp only [Try.f17, Option.map, dropC, Option.some.injEq] at hc
  obtain ⟨s, rfl⟩ := frame17 a _ _ _ _ _ _ _ hf.d hf.n hf.h0 hf.h1 hf.h5 hf.h6 hf.h7 hf.h8 hf.h9
  clear hf
  subst hc
  unfold DPost
  have HG : Hid (∀ W' b7, DxW w W' bv db b5 b7 { E with st := [cS] } vb vt vc V K A B C [cS] T ⟨A, 0, 0⟩ → DGoal 9 w W' bv db b5 (.pointer (some ⟨b7, 0, none⟩)) (.bool false) (.bool false)) := hG
  have e1 := HW.e1
  have e4 := HW.e4
  have d4 := HW.at_.c4
  have f4 := HW.at_.fz 4
  have hl := HW.at_.lt
  have hdw := HW.dw
  have ho1 := HW.o1
  have ho4 := HW.o4
  have n1 : ¬ b5 = db := by omega
  have n2 : ¬ db = b5 := by omega
  have hm : A % 256 = A := by omega
  have h4s := HW.at_.setSt [cS]
  have hB4 : Below db W (W.setCell ⟨db, 4, none⟩ (.string ⟨[cS].toArray⟩)) := (Below.refl db W).setCell (p := ⟨db, 4, none⟩) (by simp only []; omega) _
  have HX : Hid (DxW w ((W.setCell ⟨db, 4, none⟩ (.string ⟨[cS].toArray⟩)).alloc (.cells #[.int .u8 A, .int .u32 0, .int .u64 0] 42)) bv db b5 W.heap.size { E with st := [cS] } vb vt vc V K A B C [cS] T ⟨A, 0, 0⟩) := by
    have k : ∀ o, ((W.setCell ⟨db, 4, none⟩ (.string ⟨[cS].toArray⟩)).alloc (.cells #[.int .u8 A, .int .u32 0, .int .u64 0] 42)).cell? ⟨b5, o, none⟩ = W.cell? ⟨b5, o, none⟩ := fun o => by rw [oldc (by rw [World.size_setCell]; omega), apartc (by omega)]
    have a2 := World.cell?_alloc_new (W.setCell ⟨db, 4, none⟩ (.string ⟨[cS].toArray⟩)) #[.int .u8 A, .int .u32 0, .int .u64 0] 42
    have z2 := fun o => World.frozen?_alloc_at (w := W.setCell ⟨db, 4, none⟩ (.string ⟨[cS].toArray⟩)) #[.int .u8 A, .int .u32 0, .int .u64 0] 42 _ o rfl
    rw [World.size_setCell] at a2 z2
    have hBB := hB4.alloc (by rw [World.size_setCell]; omega) (.cells #[.int .u8 A, .int .u32 0, .int .u64 0] 42)
    exact ⟨⟨HW.be.trans hBB, HW.dw, h4s.alloc _, vatBelow HW.v hBB HW.bd, HW.bd, ho1, by rw [World.size_alloc, World.size_setCell]; omega, (k _).trans HW.e0, (k _).trans HW.e1, (k _).trans HW.e2, (k _).trans HW.e3, (k _).trans HW.e4, (k _).trans HW.e5⟩, ho4, by rw [World.size_alloc, World.size_setCell]; omega, a2 0, a2 1, a2 2, z2, fun e => by have := own_lt HW.at_.ob e; omega, fun e => by have := own_lt HW.at_.ot e; omega, fun e => by have := own_lt HW.at_.oc e; omega⟩
  have HCt := HW.at_.ctlAt (E.ctl.length - 1) (by omega)
  obtain ⟨g, cap, hv, hg, k0, k1, k2⟩ := HCt
  have hlb : E.ctl.getD (E.ctl.length - 1) blk0 = lastB E := rfl
  rw [hlb] at k0
  obtain ⟨j, hj⟩ : ∃ j : Nat, E.ctl.length = j + 1 := ⟨E.ctl.length - 1, by omega⟩
  rw [show E.ctl.length - 1 = j by omega] at k0
  have HC5 : Hid (vc = .slice (some ⟨g, 0, none⟩) (j + 1) cap) := by rw [hv, hj]; rfl
  have hi1 : (j : Int) + 1 - 1 = j := by omega
  have hk7 : (j : Int) < 1000 := by omega
  have b1 : decide ((0 : Int) < (j : Int) + 1) = true := decide_eq_true (by omega)
  have hgl : g < W.heap.size := World.block_lt_of_cell? _ _ k0
  have K0 : Hid (W.cell? ⟨g, j * 3, none⟩ = some (.int .u8 (lastB E).op)) := k0
  have B4 : Hid (((lastB E).op == 4) = false) := by refine show _ = _ from ?_; rw [beq_eq_false_iff_ne]; exact h4
  clear k0 k1 k2 hv hlb hj
  have HWt : Hid (DAt W db E vb vt vc) := HW.at_
  clear HW hG h4s hB4 hc6 h0 h4
  go_upto_region 10 with fail
  have HX2 := HX.out
  have d5 := HX2.d.at_.c5
  rw [HC5.out] at d5
  have k0 : ((W.setCell ⟨db, 4, none⟩ (.string ⟨[cS].toArray⟩)).alloc (.cells #[.int .u8 A, .int .u32 0, .int .u64 0] 42)).cell? ⟨g, j * 3, none⟩ = some (.int .u8 (lastB E).op) := by
    rw [oldc (by rw [World.size_setCell]; exact hgl), apartc (by omega)]
    exact K0.out
  have b4 := B4.out
  generalize lastB E = b at *
  generalize ((W.setCell ⟨db, 4, none⟩ (.string ⟨[cS].toArray⟩)).alloc (.cells #[.int .u8 A, .int .u32 0, .int .u64 0] 42)) = W6 at *
  generalize W.heap.size = b7 at *
  clear HX d4 f4 e1 e4 HWt
  go_cut [9] from 106 to 127 (fun s9 wc => s9 = .bool false ∧ DxW w wc bv db b5 b7 { E with st := [cS] } vb vt vc V K A B C [cS] T ⟨A, 0, 0⟩)
  case first =>
    have HX3 : Hid (∀ n, DxW w (W6.drewN n) bv db b5 b7 { E with st := [cS] } vb vt vc V K A B C [cS] T ⟨A, 0, 0⟩) := fun n => HX2.next (belowN (Below.refl _ _) n)
    clear HX2 HG
    go_upto_region 10 with fail
    go_quiet (fail)
    go_wp2_with fail
    go_meet
    exact ⟨rfl, HX3.out _⟩
  case rest =>
    obtain ⟨rfl, hX⟩ := hcut
    refine (by assumption : ∀ (a : Act) (w : World), Code.wp Try.prog _ _ a w → _) _ _ ?_
    refine HG.out _ _ hX _ _ rfl ?_
    exact ⟨rfl, rfl, rfl, rfl, rfl, rfl, rfl, rfl, rfl⟩

end
end Go.Proofs.Qxb6500273a
