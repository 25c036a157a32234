/-
  Ordered: its tails.
-/
import Derived.Test.Qxb6500273aOrdBase
import Derived.Test.Qxb6500273aParted
import Derived.Test.Qxb6500273aBodyA
set_option linter.unusedVariables false
namespace Go.Proofs.Qxb6500273a
open Go.RowKit

/-- a sequence without its first n statements -/
def dropSt : Nat → Code → Code
  | 0, c => c
  | n + 1, .seq _ b => dropSt n b
  | _ + 1, c => c

def OTail (n : Nat) (c : Code) : Prop := Try.f21.body.map (dropSt n) = some c

set_option maxRecDepth 100000 in
theorem frame21 (a : Act) (v0 v3 v5 v6 v7 v8 : Value) (hd : a.defers = []) (hs : a.tmps.size = 147) (h0 : a.tmps.getD 0 undef = v0) (h3 : a.tmps.getD 3 undef = v3) (h5 : a.tmps.getD 5 undef = v5) (h6 : a.tmps.getD 6 undef = v6) (h7 : a.tmps.getD 7 undef = v7) (h8 : a.tmps.getD 8 undef = v8) :
    ∃ s : Nat → Value, a = ⟨#[v0, s 1, s 2, v3, s 4, v5, v6, v7, v8, s 9, s 10, s 11, s 12, s 13, s 14, s 15, s 16, s 17, s 18, s 19, s 20, s 21, s 22, s 23, s 24, s 25, s 26, s 27, s 28, s 29, s 30, s 31, s 32, s 33, s 34, s 35, s 36, s 37, s 38, s 39, s 40, s 41, s 42, s 43, s 44, s 45, s 46, s 47, s 48, s 49, s 50, s 51, s 52, s 53, s 54, s 55, s 56, s 57, s 58, s 59, s 60, s 61, s 62, s 63, s 64, s 65, s 66, s 67, s 68, s 69, s 70, s 71, s 72, s 73, s 74, s 75, s 76, s 77, s 78, s 79, s 80, s 81, s 82, s 83, s 84, s 85, s 86, s 87, s 88, s 89, s 90, s 91, s 92, s 93, s 94, s 95, s 96, s 97, s 98, s 99, s 100, s 101, s 102, s 103, s 104, s 105, s 106, s 107, s 108, s 109, s 110, s 111, s 112, s 113, s 114, s 115, s 116, s 117, s 118, s 119, s 120, s 121, s 122, s 123, s 124, s 125, s 126, s 127, s 128, s 129, s 130, s 131, s 132, s 133, s 134, s 135, s 136, s 137, s 138, s 139, s 140, s 141, s 142, s 143, s 144, s 145, s 146], []⟩ := by
  have h := act_slots 147 a hd hs
  subst h0 h3 h5 h6 h7 h8
  exact ⟨fun i => a.tmps.getD i undef, h⟩

/-- a frame of Ordered's, between two parts -/
structure OFr (bv nb P : Nat) (r : Int × Int) (v8 : Value) (a : Act) : Prop where
  d : a.defers = []
  n : a.tmps.size = 147
  h0 : a.tmps.getD 0 undef = .pointer (some ⟨bv, 0, none⟩)
  h3 : a.tmps.getD 3 undef = .pointer (some ⟨nb, 0, none⟩)
  h5 : a.tmps.getD 5 undef = .pointer (some ⟨P, 0, none⟩)
  h6 : a.tmps.getD 6 undef = .int .i64 r.1
  h7 : a.tmps.getD 7 undef = .int .i64 r.2
  h8 : a.tmps.getD 8 undef = v8

/-- what Ordered owes -/
def OPost (bv : Nat) (w : World) : Exit → Act → World → Prop := bodyPost Try.prog Try.f21 (fun e w' => e = .returned (.bool true) ∧ Kept bv w w')

/-- the module as far as the parts below k are not yet turned; its row and error -/
def OwedAt (B : Int) : Nat → Md → Int × Int → Prop
  | 0, M, r => Owes M r.1 r.2
  | _, _, _ => True

end Go.Proofs.Qxb6500273a
