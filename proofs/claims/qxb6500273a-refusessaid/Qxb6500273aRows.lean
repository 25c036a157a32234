/-
  No cell of these rows narrows 'for every input' (looked for: loops, veiled, ifaces, maps, wideKeys, modest, calm, conditions, laid).
  DERIVED. THE GIVEN ROWS OF THIS SEAT. 3 by the template 'for every input the law returns true; each argument reads behind the call as it read before'; 0 by the template 'total and deterministic' (their statements: Qxb6500273aTotals.lean).
  GIVEN WITH THE SEED: the statements are not yours to turn. If you find one false, say at which input.
  Laid BY PROGRAM, IN A SANDBOX (cutbox-rows.mjs): the forced cells as the released guide's own fill.sh prints them over the translation 38008e9545700d89… (all of the seat's roots in one cut). By AI agents, Wed Nov 11 2026. No macro, syntax, notation, axiom, sorry.
-/
import Derived.Test.Qxb6500273aChecked
import GoSem.Claim
import GoSem.ClaimJoined
import GoSem.ClaimMapViews
import Derived.JoinedTies
import Derived.KernelRfl
namespace Go.Proofs.Qxb6500273a
/- THE CELL 'sum', in the pinned program and in every row, IS THE sha256 OF THE DUMP (.gsa) THAT Qxb6500273aProg.lean LOADS. Nothing in Lean hashes anything: it is a label: what it is worth is what the hold of that sum in a sandbox is worth. -/
noncomputable def Try.pinned : Pinned := { name := "qxb6500273a", sum := "38008e9545700d89020d324b037ee9d0d6047ae9fddb4260b3a60a9cf43456ac", checked := Try.checked }
namespace Rows
def none {H : Type} : Left H := { results := [], args := [] }

/-- 'validlaw.Takes': WHATEVER THE INPUT: true; the input reads as it did. -/
def takesSpec : ChangeSpec := { name := "takes", fn := fun _ => fun
  | [d] => { results := [.lit (.bool true)], args := [d] }
  | _ => none }
def takesRow : OpenClaim := { program := "qxb6500273a", sum := "38008e9545700d89020d324b037ee9d0d6047ae9fddb4260b3a60a9cf43456ac", func := "e2e/validlaw.Takes", spec := "takes", apart := false }
def TakesSaid : Prop := takesRow.holds Try.pinned (OpenSpec.ofChange takesSpec)

/-- ITS FALSE NEIGHBOUR: 'it returns false'. Refute it at one input. -/
def takesWrong : ChangeSpec := { name := "takes", fn := fun _ => fun
  | [d] => { results := [.lit (.bool false)], args := [d] }
  | _ => none }
def TakesWrongFalsely : Prop := takesRow.holds Try.pinned (OpenSpec.ofChange takesWrong)

/-- 'validlaw.Refuses': WHATEVER THE INPUT: true; the input reads as it did. -/
def refusesSpec : ChangeSpec := { name := "refuses", fn := fun _ => fun
  | [d] => { results := [.lit (.bool true)], args := [d] }
  | _ => none }
def refusesRow : OpenClaim := { program := "qxb6500273a", sum := "38008e9545700d89020d324b037ee9d0d6047ae9fddb4260b3a60a9cf43456ac", func := "e2e/validlaw.Refuses", spec := "refuses", apart := false }
def RefusesSaid : Prop := refusesRow.holds Try.pinned (OpenSpec.ofChange refusesSpec)

/-- ITS FALSE NEIGHBOUR: 'it returns false'. Refute it at one input. -/
def refusesWrong : ChangeSpec := { name := "refuses", fn := fun _ => fun
  | [d] => { results := [.lit (.bool false)], args := [d] }
  | _ => none }
def RefusesWrongFalsely : Prop := refusesRow.holds Try.pinned (OpenSpec.ofChange refusesWrong)

/-- 'validlaw.Parts': WHATEVER THE INPUT: true; the input reads as it did. -/
def partsSpec : ChangeSpec := { name := "parts", fn := fun _ => fun
  | [d] => { results := [.lit (.bool true)], args := [d] }
  | _ => none }
def partsRow : OpenClaim := { program := "qxb6500273a", sum := "38008e9545700d89020d324b037ee9d0d6047ae9fddb4260b3a60a9cf43456ac", func := "e2e/validlaw.Parts", spec := "parts", apart := false }
def PartsSaid : Prop := partsRow.holds Try.pinned (OpenSpec.ofChange partsSpec)

/-- ITS FALSE NEIGHBOUR: 'it returns false'. Refute it at one input. -/
def partsWrong : ChangeSpec := { name := "parts", fn := fun _ => fun
  | [d] => { results := [.lit (.bool false)], args := [d] }
  | _ => none }
def PartsWrongFalsely : Prop := partsRow.holds Try.pinned (OpenSpec.ofChange partsWrong)

end Rows
end Go.Proofs.Qxb6500273a
