/-
  WALKS: in.
-/
import Derived.Test.Qxb6500273aBase
namespace Go.Proofs.Qxb6500273a
open Go.RowKit

/-- part p is of the set -/
def inF (B p : Int) : Bool := bits BinOp.and IntKind.i64 (B / 2 ^ p.toNat) 1 == 1

set_option maxHeartbeats 400000 in
theorem in_any (B p : Int) (hp : 0 ≤ p) (hp2 : p ≤ 12) (w : World) : Calls Try.prog 41 #[.int .i64 B, .int .i64 p] w fun e w' => e = .returned (.bool (inF B p)) ∧ w' = w := by
  obtain ⟨b, hb⟩ : ∃ b, inF B p = b := ⟨_, rfl⟩
  rw [hb]
  unfold inF at hb
  go_enter Try.func41, Try.ntmps41
  go_wp2
  go_ret
  exact ⟨rfl, rfl⟩

end Go.Proofs.Qxb6500273a
