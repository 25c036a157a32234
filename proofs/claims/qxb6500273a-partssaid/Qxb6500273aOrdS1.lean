/-
  WALKS: Ordered, a part's step.
-/
import Derived.Test.Qxb6500273aOrdA
set_option linter.unusedVariables false
set_option linter.unusedSimpArgs false
namespace Go.Proofs.Qxb6500273a
open Go.RowKit

set_option maxRecDepth 100000 in
set_option maxHeartbeats 2000000 in
theorem otail1 (bv : Nat) (w : World) (P : Nat) (v8 : Value) (B : Int) (M : Md) (L : Lay) (W : World) (r : Int × Int) (c c' : Code) (Q : Exit → Act → World → Prop) (hc : OTail 14 c) (hc' : OTail 15 c') (a : Act) (hf : OFr bv w.heap.size P r (v8) a)
    (HS : OrdS bv w P B M L W)
    (hn : ∀ a' L' W', OFr bv w.heap.size P (rw_ (inF B 1) 0 14 r) v8 a' → OrdS bv w P B (o1 (inF B 1) M) L' W' → c'.wp Try.prog Q a' W') : c.wp Try.prog Q a W := by
  unfold OTail at hc hc'
  simp only [Try.f21, Option.map, dropSt, Option.some.injEq] at hc hc'
  obtain ⟨s, rfl⟩ := frame21 a _ _ _ _ _ _ hf.d hf.n hf.h0 hf.h3 hf.h5 hf.h6 hf.h7 hf.h8
  clear hf
  subst hc
  have HN : Hid (∀ a' L' W', OFr bv w.heap.size P (rw_ (inF B 1) 0 14 r) v8 a' → OrdS bv w P B (o1 (inF B 1) M) L' W' → c'.wp Try.prog Q a' W') := hn
  clear hn
  have HI : ∀ p : Int, 0 ≤ p → p ≤ 12 → ∀ wx, _ := fun p h1 h2 wx => in_any B p h1 h2 wx
  have bx := HS.bx
  go_upto_if 109 with (go_at_call 41; refine (HI _ (by omega) (by omega) _).mono ?_; rintro e w1 ⟨rfl, h41⟩; have h42 := h41.symm; clear h41; subst h42)
  clear bx
  go_cut [6, 7] from 9 (fun s6 s7 wc => OrdRel bv w P B (o1 (inF B 1) M) (rw_ (inF B 1) 0 14 r) s6 s7 wc)
  case first =>
    clear HN hc'
    have bx := HS.bx
    have hlt := HS.lt
    have hltp := HS.ltp
    have np : ¬ P = W.heap.size := by omega
    have c1 : W.cell? ⟨P, 1, none⟩ = some (.slice (some ⟨L.ib, 0, none⟩) 1 1) := HS.p ▸ HS.m.1.m1
    have z1 : W.frozen? ⟨P, 1, none⟩ = false := HS.p ▸ HS.m.2.fp 1
    have ci := HS.m.1.im
    have zi := HS.m.2.fi 2
    clear HI
    cases hb : inF B 1
    · go_wp2_with fail
      go_meet
      rw [hb]
      exact ⟨rfl, rfl, L, HS⟩
    · go_wp2_with fail
      go_meet
      rw [hb]
      exact ord1 HS
  case rest =>
    subst hc'
    obtain ⟨hs6, hs7, L2, HS2⟩ := hcut
    subst hs6
    subst hs7
    refine (by assumption : ∀ (a : Act) (w : World), Code.wp Try.prog _ _ a w → _) _ _ ?_
    exact HN.out _ L2 wc ⟨rfl, rfl, rfl, rfl, rfl, rfl, rfl, rfl⟩ HS2

end Go.Proofs.Qxb6500273a
