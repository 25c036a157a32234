/-
  WALKS: label, owed.
-/
import Derived.Test.Qxb6500273aDv
import Derived.Deep.Cut
set_option linter.unusedVariables false
namespace Go.Proofs.Qxb6500273a
open Go.RowKit

/-- the types that a branch to label l carries -/
def labelL (D : Dv) (l : Int) : List UInt8 × Bool :=
  if l < 0 ∨ (D.ctl.length : Int) < l then ([], false)
  else if l = D.ctl.length then ((sidesF D.t).2, true)
  else if (D.ctl.getD (D.ctl.length - 1 - l.toNat) blk0).op = 3 then ([], true)
  else ((D.ctl.getD (D.ctl.length - 1 - l.toNat) blk0).res, true)

set_option maxRecDepth 100000 in
set_option maxHeartbeats 1000000 in
theorem label_any2 (db : Nat) (D : Dv) (vb vt vc : Value) (l : Int) (w : World) (hD : DAt w db D vb vt vc) (ht0 : 0 ≤ D.t) (ht2 : D.t ≤ 2) (hc : D.ctl.length ≤ 1000) :
    Calls Try.prog 12 #[.pointer (some ⟨db, 0, none⟩), .int .i64 l] w fun e w' => e = .returned (.tuple #[.string ⟨(labelL D l).1.toArray⟩, .bool (labelL D l).2]) ∧ Below w.heap.size w w' := by
  obtain ⟨ca, cc, hvc⟩ := hD.ctlV
  have c5 := hD.c5
  have c1 := hD.c1
  rw [hvc] at c5
  by_cases h0 : l < 0
  · rw [show labelL D l = ([], false) from if_pos (.inl h0)]
    clear hvc
    go_enter Try.func12, Try.ntmps12
    go_wp2
    go_ret2
    exact ⟨rfl, Below.refl _ _⟩
  by_cases h1 : (D.ctl.length : Int) < l
  · rw [show labelL D l = ([], false) from if_pos (.inr h1)]
    clear hvc
    go_enter Try.func12, Try.ntmps12
    go_wp2
    go_ret2
    exact ⟨rfl, Below.refl _ _⟩
  by_cases h2 : l = D.ctl.length
  · have HS := sides_any D.t ht0 ht2 w
    rw [show labelL D l = ((sidesF D.t).2, true) from by unfold labelL; rw [if_neg (by omega), if_pos h2]]
    subst h2
    clear hvc
    go_enter Try.func12, Try.ntmps12
    go_wp2_with (go_at_call 27; refine HS.mono ?_; rintro e w1 ⟨rfl, hb1⟩)
    go_ret2
    exact ⟨rfl, hb1⟩
  obtain ⟨i, hi⟩ : ∃ i : Nat, l = i := ⟨l.toNat, by omega⟩
  subst hi
  have hlt : i < D.ctl.length := by omega
  obtain ⟨g, cap, hv, hg, d0, d1, d2⟩ := hD.ctlAt (D.ctl.length - 1 - i) (by omega)
  have hL : labelL D i = if (D.ctl.getD (D.ctl.length - 1 - i) blk0).op = 3 then ([], true) else ((D.ctl.getD (D.ctl.length - 1 - i) blk0).res, true) := by
    unfold labelL
    rw [if_neg (by omega), if_neg h2]
    simp
  rw [hL]
  generalize D.ctl.getD (D.ctl.length - 1 - i) blk0 = b at *
  rw [hvc] at hv
  simp only [Value.slice.injEq] at hv
  obtain ⟨rfl, _, rfl⟩ := hv
  obtain ⟨j, hj⟩ : ∃ j : Nat, D.ctl.length = j + i + 1 := ⟨D.ctl.length - 1 - i, by omega⟩
  have hjj : D.ctl.length - 1 - i = j := by omega
  rw [hj] at c5
  rw [hjj] at d0 d1 d2
  have hi1 : (j : Int) + i + 1 - 1 - i = j := by omega
  have hk7 : (j : Int) + i < 1000 := by omega
  have b1 : ((i : Int) == (j : Int) + i + 1) = false := by rw [beq_eq_false_iff_ne]; omega
  have hbe : Below w.heap.size w ((w.alloc (.cells #[.int .u8 b.op, .string ⟨b.res.toArray⟩, .string ⟨b.outer.toArray⟩] 62)).drew) := ((Below.refl _ _).alloc (Nat.le_refl _) _).drew
  have hdl := hD.lt
  have hgl : g < w.heap.size := World.block_lt_of_cell? _ _ d0
  clear h2 hL hvc hD hj hjj hlt h0 h1 hc
  by_cases h3 : b.op = 3
  · have b3 : (b.op == 3) = true := by rw [h3]; rfl
    rw [if_pos h3]
    clear h3
    go_enter Try.func12, Try.ntmps12
    go_upto_region 6 with fail
    go_region
    go_wp2
    go_ret2
    exact ⟨rfl, hbe⟩
  · have b3 : (b.op == 3) = false := by rw [beq_eq_false_iff_ne]; exact h3
    rw [if_neg h3]
    clear h3
    go_enter Try.func12, Try.ntmps12
    go_upto_region 6 with fail
    go_region
    go_wp2
    go_ret2
    exact ⟨rfl, hbe⟩

end Go.Proofs.Qxb6500273a
