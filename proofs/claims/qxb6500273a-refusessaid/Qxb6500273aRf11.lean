/-
  Refused: the ways.
-/
import Derived.Test.Qxb6500273aRf0
import Derived.BigQuiet
set_option linter.unusedVariables false
set_option linter.unusedSimpArgs false
namespace Go.Proofs.Qxb6500273a
open Go.RowKit

section
variable {w W : World} {bv db b5 b8 : Nat} {D : Dv} {vb vt vc : Value} {V : VS} {K A B C : Int} {S T : List UInt8}

set_option maxRecDepth 100000 in
set_option maxHeartbeats 4000000 in
theorem ref_11 (E : Dv) (ub ut uc : Value) (x : Insn) (pl want : Int) (c : Code) (hc : RTail 11 c) (a : Act) (hf : RFr bv db b5 b8 pl want true a)
    (hD : DAt W db E ub ut uc) (hV : VAt W bv V) (hbv : bv < db) (hbe : Below db w W) (hdw : db ≤ w.heap.size) (x0 : W.cell? ⟨b8, 0, none⟩ = some (.int .u8 x.op)) (x1 : W.cell? ⟨b8, 1, none⟩ = some (.int .u32 x.x)) (x2 : W.cell? ⟨b8, 2, none⟩ = some (.int .u64 x.y)) (hm : Doom E x pl want) : c.wp Try.prog (RPost bv db w) a W := by
  unfold RTail at hc
  simp only [Try.f16, Option.map, dropC, Option.some.injEq] at hc
  obtain ⟨s, rfl⟩ := frame16 a _ _ _ _ _ _ _ _ hf.d hf.n hf.h0 hf.h1 hf.h5 hf.h6 hf.h7 hf.h8 hf.h9 hf.h10
  clear hf
  subst hc
  have HH : Hid (DAt W db E ub ut uc ∧ VAt W bv V ∧ Below db w W ∧ W.cell? ⟨b8, 0, none⟩ = some (.int .u8 x.op) ∧ W.cell? ⟨b8, 1, none⟩ = some (.int .u32 x.x) ∧ W.cell? ⟨b8, 2, none⟩ = some (.int .u64 x.y)) := ⟨hD, hV, hbe, x0, x1, x2⟩
  clear hD hV hbe x0 x1 x2
  go_upto_if 209 with fail
  go_cut [6] from 208 to 209 (fun s6 wc => s6 = .bool false ∧ wc = W)
  case first =>
    go_wp2_with fail
    go_meet
    exact ⟨rfl, rfl⟩
  case rest =>
    obtain ⟨rfl, rfl⟩ := hcut
    refine (by assumption : ∀ (a : Act) (w : World), Code.wp Try.prog _ _ a w → _) _ _ ?_
    exact ref_end bv db b5 b8 w E ub ut uc V _ x pl want _ rfl _ ⟨rfl, rfl, rfl, rfl, rfl, rfl, rfl, rfl, rfl, rfl⟩ HH.out.1 HH.out.2.1 hbv HH.out.2.2.1 hdw HH.out.2.2.2.1 HH.out.2.2.2.2.1 HH.out.2.2.2.2.2 hm

end
end Go.Proofs.Qxb6500273a
