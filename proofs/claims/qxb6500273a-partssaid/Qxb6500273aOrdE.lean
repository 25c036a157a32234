/-
  WALKS: Ordered's end.
-/
import Derived.Test.Qxb6500273aOrdA
set_option linter.unusedVariables false
namespace Go.Proofs.Qxb6500273a
open Go.RowKit

set_option maxRecDepth 100000 in
set_option maxHeartbeats 2000000 in
theorem otail0 (bv : Nat) (V : VS) (w : World) (P : Nat) (v8 : Value) (B : Int) (M : Md) (L : Lay) (W : World) (r : Int × Int) (c : Code) (hc : OTail 15 c) (a : Act) (hf : OFr bv w.heap.size P r v8 a)
    (HS : OrdS bv w P B M L W) (ow : Owes M r.1 r.2) (hV : VAt w bv V) : c.wp Try.prog (OPost bv w) a W := by
  unfold OTail at hc
  simp only [Try.f21, Option.map, dropSt, Option.some.injEq] at hc
  obtain ⟨s, rfl⟩ := frame21 a _ _ _ _ _ _ hf.d hf.n hf.h0 hf.h3 hf.h5 hf.h6 hf.h7 hf.h8
  clear hf
  subst hc
  unfold OPost
  have HV := validate_any bv L M V W HS.m.1 (hV.below HS.be hV.lt) ow.mo ow.po
  rw [HS.p] at HV
  have hb5 := HS.be
  have ho := owed_ok r.1 r.2 _ (ow.said V)
  generalize validateF M V = X at *
  obtain ⟨⟨X1, X2, X3⟩, XV⟩ := X
  obtain ⟨r1, r2⟩ := r
  simp only [Prod.mk.injEq] at ho HV ⊢
  clear HS ow
  rcases ho with ⟨rfl, rfl, rfl, rfl⟩ | ⟨h0, rfl, rfl, rfl⟩
  · go_wp2_with (go_at_call 14; refine HV.mono ?_; rintro e w3 ⟨rfl, hv3, hex3⟩)
    go_ret
    exact ⟨rfl, ⟨_, hv3⟩, (Ex.ofBelow hb5 (Nat.le_refl _)).trans hex3⟩
  · have b0 : (X3 == 0) = false := by rw [beq_eq_false_iff_ne]; exact h0
    clear h0
    go_wp2_with (go_at_call 14; refine HV.mono ?_; rintro e w3 ⟨rfl, hv3, hex3⟩)
    go_ret
    exact ⟨rfl, ⟨_, hv3⟩, (Ex.ofBelow hb5 (Nat.le_refl _)).trans hex3⟩

end Go.Proofs.Qxb6500273a
