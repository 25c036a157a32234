/-
  What turned answers, said.
-/
import Derived.Test.Qxb6500273aTurn
import Derived.Deep.Cut
set_option linter.unusedVariables false
set_option linter.unusedSimpArgs false
namespace Go.Proofs.Qxb6500273a
open Go.RowKit

/-- the constant instruction of off, as the text reckons it -/
def offOp (C : Int) : Int := wrap64 (65 + bits BinOp.and IntKind.i64 C 3) % 256

/-- an answer that claims nothing -/
def NotRes (e : Ending) : Prop := ∃ row want : Int, e = .returned (.tuple #[.int .i64 row, .int .i64 want, .bool false])

theorem one3 {P : Nat → Prop} (h : P 0) : ∀ i, i < 1 → P i := fun i hi => by
  have : i = 0 := by omega
  subst this; exact h
theorem two3 {P : Nat → Prop} (h : P 0) (h1 : P 1) : ∀ i, i < 2 → P i := fun i hi => by
  match i, hi with
  | 0, _ => exact h
  | 1, _ => exact h1
theorem drewNB {B : Nat} {a w : World} (h : Below B a w) (n : Nat) : Below B a (w.drewN n) := ⟨h.os, h.tape, h.output, h.size, h.block⟩

/-- turned, where nothing is played -/
def TurnedNot (L : Lay) (K A B C : Int) (S T : List UInt8) (w : World) : Prop :=
  Calls Try.prog 39 #[.pointer (some ⟨L.p, 0, none⟩), .agg #[.int .i64 K, .int .i64 A, .int .i64 B, .int .i64 C, .string ⟨S.toArray⟩, .string ⟨T.toArray⟩]] w fun e w' => NotRes e ∧ Below L.p w w'

/-- turned: the module M' lies there now -/
def TurnedTo (bv : Nat) (L : Lay) (K A B C : Int) (S T : List UInt8) (w : World) (row want : Int) (M' : Md) : Prop :=
  Calls Try.prog 39 #[.pointer (some ⟨L.p, 0, none⟩), .agg #[.int .i64 K, .int .i64 A, .int .i64 B, .int .i64 C, .string ⟨S.toArray⟩, .string ⟨T.toArray⟩]] w fun e w' => e = .returned (.tuple #[.int .i64 row, .int .i64 want, .bool true]) ∧ (∃ L' : Lay, L'.p = L.p ∧ ModAt w' bv L' M' ∧ ModW w' L' M') ∧ Below L.p w w'

end Go.Proofs.Qxb6500273a
