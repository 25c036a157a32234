/-
  WALKS: owed.
-/
import Derived.Test.Qxb6500273aLabel
import Derived.BigQuiet
set_option linter.unusedVariables false
namespace Go.Proofs.Qxb6500273a
open Go.RowKit

theorem belowN {n : Nat} {w w' : World} (h : Below n w w') (k : Nat) : Below n w (w'.drewN k) := ⟨h.os, h.tape, h.output, h.size, h.block⟩

def lastB (D : Dv) : Blk := D.ctl.getD (D.ctl.length - 1) blk0

/-- what the innermost block must leave at its end; an if with a result that lacks its else -/
def owedL (D : Dv) : List UInt8 × Bool :=
  if D.ctl.length = 0 then ((sidesF D.t).2, false)
  else ((lastB D).res, decide ((lastB D).op = 4) && !(lastB D).res.isEmpty)

set_option maxRecDepth 100000 in
set_option maxHeartbeats 1000000 in
theorem owed_any (db : Nat) (D : Dv) (vb vt vc : Value) (w : World) (hD : DAt w db D vb vt vc) (ht0 : 0 ≤ D.t) (ht2 : D.t ≤ 2) (hc : D.ctl.length ≤ 1000) :
    Calls Try.prog 36 #[.pointer (some ⟨db, 0, none⟩)] w fun e w' => e = .returned (.tuple #[.string ⟨(owedL D).1.toArray⟩, .bool (owedL D).2]) ∧ Below w.heap.size w w' := by
  obtain ⟨ca, cc, hvc⟩ := hD.ctlV
  have c5 := hD.c5
  have c1 := hD.c1
  rw [hvc] at c5
  by_cases h0 : D.ctl.length = 0
  · have HS := sides_any D.t ht0 ht2 w
    rw [show owedL D = ((sidesF D.t).2, false) from by unfold owedL; rw [if_pos h0]]
    rw [h0] at c5
    clear hvc hD h0 hc
    go_enter Try.func36, Try.ntmps36
    go_wp2_with (go_at_call 27; refine HS.mono ?_; rintro e w1 ⟨rfl, hb1⟩)
    go_ret2
    exact ⟨rfl, hb1⟩
  obtain ⟨g, cap, hv, hg, d0, d1, d2⟩ := hD.ctlAt (D.ctl.length - 1) (by omega)
  have hL : owedL D = ((lastB D).res, decide ((lastB D).op = 4) && !(lastB D).res.isEmpty) := by
    unfold owedL
    rw [if_neg h0]
  rw [hL]
  unfold lastB at *
  generalize D.ctl.getD (D.ctl.length - 1) blk0 = b at *
  rw [hvc] at hv
  simp only [Value.slice.injEq] at hv
  obtain ⟨rfl, _, rfl⟩ := hv
  obtain ⟨j, hj⟩ : ∃ j : Nat, D.ctl.length = j + 1 := ⟨D.ctl.length - 1, by omega⟩
  have hjj : D.ctl.length - 1 = j := by omega
  rw [hj] at c5
  rw [hjj] at d0 d1 d2
  have hi1 : (j : Int) + 1 - 1 = j := by omega
  have hk7 : (j : Int) < 1000 := by omega
  have b1 : ((j : Int) + 1 == 0) = false := by rw [beq_eq_false_iff_ne]; omega
  have hbe : ∀ n, Below w.heap.size w ((w.alloc (.cells #[.int .u8 b.op, .string ⟨b.res.toArray⟩, .string ⟨b.outer.toArray⟩] 62)).drewN n) := fun n => belowN ((Below.refl _ _).alloc (Nat.le_refl _) _) n
  have hbe2 : ∀ n, Below w.heap.size w ((w.alloc (.cells #[.int .u8 b.op, .string ⟨b.res.toArray⟩, .string ⟨b.outer.toArray⟩] 62)).drew.drewN n) := fun n => belowN ((Below.refl _ _).alloc (Nat.le_refl _) _).drew n
  have hdl := hD.lt
  have hgl : g < w.heap.size := World.block_lt_of_cell? _ _ d0
  clear hL hvc hD hj hjj h0 hc
  by_cases h3 : b.op = 4
  · rw [show (decide (b.op = 4) && !b.res.isEmpty) = !b.res.isEmpty by simp [h3]]
    have b3 : (b.op == 4) = true := by rw [h3]; rfl
    clear h3
    go_enter Try.func36, Try.ntmps36
    go_upto_region 4 with fail
    go_region
    go_upto_region 5 with fail
    go_quiet (fail)
    go_wp2
    go_ret2
    first | exact ⟨rfl, hbe _⟩ | exact ⟨rfl, hbe2 _⟩
  · have b3 : (b.op == 4) = false := by rw [beq_eq_false_iff_ne]; exact h3
    rw [show (decide (b.op = 4) && !b.res.isEmpty) = false by simp [h3]]
    clear h3
    go_enter Try.func36, Try.ntmps36
    go_upto_region 4 with fail
    go_region
    go_upto_region 5 with fail
    go_quiet (fail)
    go_wp2
    go_ret2
    first | exact ⟨rfl, hbe _⟩ | exact ⟨rfl, hbe2 _⟩

end Go.Proofs.Qxb6500273a
