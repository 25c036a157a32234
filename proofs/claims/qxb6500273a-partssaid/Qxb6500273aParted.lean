/-
  WALKS: Parted, in.
-/
import Derived.Test.Qxb6500273aTurned
import Derived.Test.Qxb6500273aValid
import Derived.Deep.Cut
namespace Go.Proofs.Qxb6500273a
open Go.RowKit

theorem Ex.ofBelow {b B : Nat} {w w' : World} (h : Below B w w') (hB : w.heap.size ≤ B) : Ex b w w' :=
  ⟨h.os, h.tape, h.output, h.size, fun i hi _ => h.block i (Nat.lt_of_lt_of_le hi hB)⟩
theorem VAt.below {b B : Nat} {w w' : World} {V : VS} (hV : VAt w b V) (h : Below B w w') (hB : b < B) : VAt w' b V := hV.same (h.block b hB)

/-- a validator still lies there, and nothing older is turned but its block -/
structure Kept (bv : Nat) (w w' : World) : Prop where
  v : ∃ V, VAt w' bv V
  ex : Ex bv w w'

/-- the step o as it is handed -/
def opV (K A B C : Int) (S T : List UInt8) : Value := .agg #[.int .i64 K, .int .i64 A, .int .i64 B, .int .i64 C, .string ⟨S.toArray⟩, .string ⟨T.toArray⟩]

theorem owed_ok (r e : Int) (x : Int × Int × Int) (h : x = owed r e) : (e = 0 ∧ x = (1, 0, 0)) ∨ (e ≠ 0 ∧ x = (-1, r, e)) := by
  unfold owed at h
  split at h
  · exact .inl ⟨by assumption, h⟩
  · exact .inr ⟨by assumption, h⟩

set_option maxHeartbeats 1000000 in
theorem parted_any (bv : Nat) (V : VS) (K A B C : Int) (S T : List UInt8) (w : World) (hV : VAt w bv V) (hs : S.length ≤ maxLen) (ht : T.length ≤ maxLen) (hB : B ≤ 9223372036854775807) :
    Calls Try.prog 19 #[.pointer (some ⟨bv, 0, none⟩), opV K A B C S T] w fun e w' => e = .returned (.bool true) ∧ Kept bv w w' := by
  unfold opV
  have hbv := hV.lt
  have HU := user_any A (w.alloc (.cells #[.int .i64 K, .int .i64 A, .int .i64 B, .int .i64 C, .string ⟨S.toArray⟩, .string ⟨T.toArray⟩] 34))
  have HBA : BodyAt ((w.alloc (.cells #[.int .i64 K, .int .i64 A, .int .i64 B, .int .i64 C, .string ⟨S.toArray⟩, .string ⟨T.toArray⟩] 34)).alloc (.cells (insCells (userF A)).toArray 42)) (w.heap.size + 1) (userF A) := by
    refine bodyAt_of fun j u hj => ?_
    have := World.cell?_alloc_new (w.alloc (.cells #[.int .i64 K, .int .i64 A, .int .i64 B, .int .i64 C, .string ⟨S.toArray⟩, .string ⟨T.toArray⟩] 34)) (insCells (userF A)).toArray 42 j
    rw [World.size_alloc] at this
    rw [this]; simpa using hj
  have HBR := bare_any bv (w.heap.size + 1) (userF A).length (userF A) ((w.alloc (.cells #[.int .i64 K, .int .i64 A, .int .i64 B, .int .i64 C, .string ⟨S.toArray⟩, .string ⟨T.toArray⟩] 34)).alloc (.cells (insCells (userF A)).toArray 42)) (by simp; omega) (by omega) (by simp) HBA
  have hb2 : Below w.heap.size w ((w.alloc (.cells #[.int .i64 K, .int .i64 A, .int .i64 B, .int .i64 C, .string ⟨S.toArray⟩, .string ⟨T.toArray⟩] 34)).alloc (.cells (insCells (userF A)).toArray 42)) := ((Below.refl _ _).alloc (Nat.le_refl _) _).alloc (by simp) _
  have hsz : w.heap.size + 2 = ((w.alloc (.cells #[.int .i64 K, .int .i64 A, .int .i64 B, .int .i64 C, .string ⟨S.toArray⟩, .string ⟨T.toArray⟩] 34)).alloc (.cells (insCells (userF A)).toArray 42)).heap.size := by simp
  have hx : ∀ j, ((w.alloc (.cells #[.int .i64 K, .int .i64 A, .int .i64 B, .int .i64 C, .string ⟨S.toArray⟩, .string ⟨T.toArray⟩] 34)).alloc (.cells (insCells (userF A)).toArray 42)).cell? ⟨w.heap.size, j, none⟩ = (#[.int .i64 K, .int .i64 A, .int .i64 B, .int .i64 C, .string ⟨S.toArray⟩, .string ⟨T.toArray⟩] : Array Value)[j]? := fun j => by
    rw [oldc (by simp)]; exact World.cell?_alloc_new _ _ _ _
  go_enter Try.func19, Try.ntmps19
  go_upto_region 2 with (go_at_call 37; refine HU.mono ?_; rintro e w1 ⟨rfl, rfl⟩)
  clear HU HBA
  generalize ((w.alloc (.cells #[.int .i64 K, .int .i64 A, .int .i64 B, .int .i64 C, .string ⟨S.toArray⟩, .string ⟨T.toArray⟩] 34)).alloc (.cells (insCells (userF A)).toArray 42)) = W2 at *
  go_upto_region 3 with (go_at_call 38; refine HBR.mono ?_; rintro e w1 ⟨L, rfl, hM, hW, hbe, hbp, hxn⟩)
  have x0 : w1.cell? ⟨w.heap.size, 0, none⟩ = some (.int .i64 K) := (hbe.cell (by simp only []; omega)).trans (hx 0)
  have x1 : w1.cell? ⟨w.heap.size, 1, none⟩ = some (.int .i64 A) := (hbe.cell (by simp only []; omega)).trans (hx 1)
  have x2 : w1.cell? ⟨w.heap.size, 2, none⟩ = some (.int .i64 B) := (hbe.cell (by simp only []; omega)).trans (hx 2)
  have x3 : w1.cell? ⟨w.heap.size, 3, none⟩ = some (.int .i64 C) := (hbe.cell (by simp only []; omega)).trans (hx 3)
  have x4 : w1.cell? ⟨w.heap.size, 4, none⟩ = some (.string ⟨S.toArray⟩) := (hbe.cell (by simp only []; omega)).trans (hx 4)
  have x5 : w1.cell? ⟨w.heap.size, 5, none⟩ = some (.string ⟨T.toArray⟩) := (hbe.cell (by simp only []; omega)).trans (hx 5)
  have HT := turned_any bv L K A B C S T w1 hM hW hs ht hB
  unfold TurnedSome at HT
  clear hx HBR hxn hM hW
  go_wp2_with (go_at_call 39; refine HT.mono ?_; rintro e w2 (⟨⟨row, want, rfl⟩, hb4⟩ | ⟨row, want, M', L', rfl, hp, hM', hW', hb4, ow⟩))
  · go_ret
    have hb5 : Below w.heap.size w w2 := hb2.trans ((hbe.mono (by omega)).trans (hb4.mono (by omega)))
    exact ⟨rfl, ⟨V, hV.below hb5 hbv⟩, Ex.ofBelow hb5 (Nat.le_refl _)⟩
  · have hb5 : Below w.heap.size w w2 := hb2.trans ((hbe.mono (by omega)).trans (hb4.mono (by omega)))
    have HV := validate_any bv L' M' V w2 hM' (hV.below hb5 hbv) ow.mo ow.po
    rw [hp] at HV
    have ho := owed_ok row want _ (ow.said V)
    generalize validateF M' V = X at *
    obtain ⟨⟨X1, X2, X3⟩, XV⟩ := X
    simp only [Prod.mk.injEq] at ho HV
    clear hp hM' hW' HT x0 x1 x2 x3 x4 x5
    rcases ho with ⟨rfl, rfl, rfl, rfl⟩ | ⟨h0, rfl, rfl, rfl⟩
    · go_wp2_with (go_at_call 14; refine HV.mono ?_; rintro e w3 ⟨rfl, hv3, hex3⟩)
      go_ret
      exact ⟨rfl, ⟨_, hv3⟩, (Ex.ofBelow hb5 (Nat.le_refl _)).trans hex3⟩
    · have b0 : (X3 == 0) = false := by rw [beq_eq_false_iff_ne]; exact h0
      clear h0
      go_wp2_with (go_at_call 14; refine HV.mono ?_; rintro e w3 ⟨rfl, hv3, hex3⟩)
      go_ret
      exact ⟨rfl, ⟨_, hv3⟩, (Ex.ofBelow hb5 (Nat.le_refl _)).trans hex3⟩

end Go.Proofs.Qxb6500273a
