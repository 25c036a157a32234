/-
  WALKS: Ordered, a part's step.
-/
import Derived.Test.Qxb6500273aOrdA
set_option linter.unusedVariables false
set_option linter.unusedSimpArgs false
namespace Go.Proofs.Qxb6500273a
open Go.RowKit

set_option maxRecDepth 100000 in
set_option maxHeartbeats 2000000 in
theorem otail9 (bv : Nat) (w : World) (P : Nat) (wb : Nat) (B : Int) (M : Md) (L : Lay) (W : World) (r : Int × Int) (c c' : Code) (Q : Exit → Act → World → Prop) (hc : OTail 6 c) (hc' : OTail 7 c') (a : Act) (hf : OFr bv w.heap.size P r (.pointer (some ⟨wb, 0, none⟩)) a)
    (HS : OrdS bv w P B M L W) (HX : XNone L M) (HWd : WideAt W wb) (hwb : P < wb)
    (hn : ∀ a' L' W', OFr bv w.heap.size P (rw_ (inF B 9) 1 27 r) (.pointer (some ⟨wb, 0, none⟩)) a' → OrdS bv w P B (o9 (inF B 9) M) L' W' → XNone L' (o9 (inF B 9) M) → c'.wp Try.prog Q a' W') : c.wp Try.prog Q a W := by
  unfold OTail at hc hc'
  simp only [Try.f21, Option.map, dropSt, Option.some.injEq] at hc hc'
  obtain ⟨s, rfl⟩ := frame21 a _ _ _ _ _ _ hf.d hf.n hf.h0 hf.h3 hf.h5 hf.h6 hf.h7 hf.h8
  clear hf
  subst hc
  have HN : Hid (∀ a' L' W', OFr bv w.heap.size P (rw_ (inF B 9) 1 27 r) (.pointer (some ⟨wb, 0, none⟩)) a' → OrdS bv w P B (o9 (inF B 9) M) L' W' → XNone L' (o9 (inF B 9) M) → c'.wp Try.prog Q a' W') := hn
  clear hn
  have HI : ∀ p : Int, 0 ≤ p → p ≤ 12 → ∀ wx, _ := fun p h1 h2 wx => in_any B p h1 h2 wx
  have bx := HS.bx
  go_upto_if 28 with (go_at_call 41; refine (HI _ (by omega) (by omega) _).mono ?_; rintro e w1 ⟨rfl, h41⟩; have h42 := h41.symm; clear h41; subst h42)
  clear bx
  go_cut [6, 7] from 9 (fun s6 s7 wc => OrdRelN bv w P B (o9 (inF B 9) M) (rw_ (inF B 9) 1 27 r) s6 s7 wc)
  case first =>
    clear HN hc'
    have bx := HS.bx
    have hlt := HS.lt
    have hltp := HS.ltp
    have np : ¬ P = W.heap.size := by omega
    have hwl : wb < W.heap.size := World.block_lt_of_cell? _ _ HWd.1
    obtain ⟨wd0, wd1, wd2⟩ := HWd
    have we0 : ∀ a, (W.alloc a).cell? ⟨wb, 0, none⟩ = some (.int .u8 66) := fun a => (oldc hwl).trans wd0
    have we1 : ∀ a, (W.alloc a).cell? ⟨wb, 1, none⟩ = some (.int .u32 0) := fun a => (oldc hwl).trans wd1
    have we2 : ∀ a, (W.alloc a).cell? ⟨wb, 2, none⟩ = some (.int .u64 0) := fun a => (oldc hwl).trans wd2
    have c10 : ∀ a0 a1 a2, (((W.alloc a0).alloc a1).alloc a2).cell? ⟨P, 10, none⟩ = some (.slice L.ea M.elems.length L.ec) := fun a0 a1 a2 => (((HS.alloc a0).alloc a1).alloc a2).p ▸ (((HS.alloc a0).alloc a1).alloc a2).m.1.m10
    have z10 : ∀ a0 a1 a2, (((W.alloc a0).alloc a1).alloc a2).frozen? ⟨P, 10, none⟩ = false := fun a0 a1 a2 => (((HS.alloc a0).alloc a1).alloc a2).p ▸ (((HS.alloc a0).alloc a1).alloc a2).m.2.fp 10
    clear HI
    cases hb : inF B 9
    · go_wp2_with fail
      go_meet
      rw [hb]
      exact ⟨rfl, rfl, L, HS, HX⟩
    · go_wp2_with fail
      go_meet
      rw [hb]
      exact ord9 HS HX
  case rest =>
    subst hc'
    obtain ⟨hs6, hs7, L2, HS2, HX2⟩ := hcut
    subst hs6
    subst hs7
    refine (by assumption : ∀ (a : Act) (w : World), Code.wp Try.prog _ _ a w → _) _ _ ?_
    exact HN.out _ L2 wc ⟨rfl, rfl, rfl, rfl, rfl, rfl, rfl, rfl⟩ HS2 HX2

end Go.Proofs.Qxb6500273a
