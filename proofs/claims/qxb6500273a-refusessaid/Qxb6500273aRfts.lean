/-
  Refused: the ways.
-/
import Derived.Test.Qxb6500273aRf0
import Derived.BigQuiet
set_option linter.unusedVariables false
set_option linter.unusedSimpArgs false
namespace Go.Proofs.Qxb6500273a
open Go.RowKit

section
variable {w W : World} {bv db b5 b8 : Nat} {D : Dv} {vb vt vc : Value} {V : VS} {K A B C : Int} {S T : List UInt8}

set_option maxRecDepth 100000 in
set_option maxHeartbeats 4000000 in
theorem rf_tab_s (hb : DBnd D) (hbl : D.below ≤ 10) (X0_ : Int) (want : Int) (bad : Bool) (htb : D.tabs = []) (hT : T.length < 1)  (HW : RfW w W bv db b5 b8 D vb vt vc V K 14 B C S T ⟨14, X0_, 0⟩) : RGoal 5 w W bv db b5 b8 D.body.length want bad := by
  intro c a hc hf
  unfold RTail at hc
  simp only [Try.f16, Option.map, dropC, Option.some.injEq] at hc
  obtain ⟨s, rfl⟩ := frame16 a _ _ _ _ _ _ _ _ hf.d hf.n hf.h0 hf.h1 hf.h5 hf.h6 hf.h7 hf.h8 hf.h9 hf.h10
  clear hf
  subst hc
  unfold RPost
  have e0 := HW.e0
  have e1 := HW.e1
  have e2 := HW.e2
  have e3 := HW.e3
  have e4 := HW.e4
  have e5 := HW.e5
  have d4 := HW.now.c4
  have d5 := HW.now.c5
  have d6 := HW.now.c6
  have x0 := HW.x0
  have x1 := HW.x1
  have x2 := HW.x2
  have xf := HW.xf
  have n1 : ¬ b5 = b8 := by have := HW.o2; omega
  have n2 : ¬ b8 = b5 := by have := HW.o2; omega
  have n3 : ¬ db = b8 := by have := HW.o1; have := HW.o2; have := HW.at_.lt; omega
  have n4 : ¬ b8 = db := by have := HW.o1; have := HW.o2; have := HW.at_.lt; omega
  have d3 : ∃ ta tc, W.cell? ⟨db, 3, none⟩ = some (.slice ta 0 tc) := by
    have q := HW.now.c3
    rcases HW.now.ot.2 with ⟨h0, h1⟩ | ⟨g, cap, cur, h0, _⟩
    · exact ⟨none, 0, by rw [q, h0]⟩
    · exact ⟨_, cap, by rw [q, h0, htb]; rfl⟩
  obtain ⟨ta, tc, d3⟩ := d3
  have hK : Hid (∀ n, KeptD bv db w (W.drewN n)) := fun n => KeptD.below (belowN HW.bed n) (V := V) (HW.vnow.same rfl)
  have g1 : decide ((T.length : Int) < 1) = true := decide_eq_true (by omega)
  clear HW hb hbl htb
  go_upto_region 7 with fail
  go_quiet (fail)
  go_wp2
  go_ret
  exact ⟨rfl, hK.out _⟩

set_option maxRecDepth 100000 in
set_option maxHeartbeats 4000000 in
theorem rf_tab_l (hb : DBnd D) (hbl : D.below ≤ 10) (X0_ : Int) (want : Int) (bad : Bool) (htb : D.tabs = []) (hT1 : ¬ T.length < 1) (hT : 4 < T.length)  (HW : RfW w W bv db b5 b8 D vb vt vc V K 14 B C S T ⟨14, X0_, 0⟩) : RGoal 5 w W bv db b5 b8 D.body.length want bad := by
  intro c a hc hf
  unfold RTail at hc
  simp only [Try.f16, Option.map, dropC, Option.some.injEq] at hc
  obtain ⟨s, rfl⟩ := frame16 a _ _ _ _ _ _ _ _ hf.d hf.n hf.h0 hf.h1 hf.h5 hf.h6 hf.h7 hf.h8 hf.h9 hf.h10
  clear hf
  subst hc
  unfold RPost
  have e0 := HW.e0
  have e1 := HW.e1
  have e2 := HW.e2
  have e3 := HW.e3
  have e4 := HW.e4
  have e5 := HW.e5
  have d4 := HW.now.c4
  have d5 := HW.now.c5
  have d6 := HW.now.c6
  have x0 := HW.x0
  have x1 := HW.x1
  have x2 := HW.x2
  have xf := HW.xf
  have n1 : ¬ b5 = b8 := by have := HW.o2; omega
  have n2 : ¬ b8 = b5 := by have := HW.o2; omega
  have n3 : ¬ db = b8 := by have := HW.o1; have := HW.o2; have := HW.at_.lt; omega
  have n4 : ¬ b8 = db := by have := HW.o1; have := HW.o2; have := HW.at_.lt; omega
  have d3 : ∃ ta tc, W.cell? ⟨db, 3, none⟩ = some (.slice ta 0 tc) := by
    have q := HW.now.c3
    rcases HW.now.ot.2 with ⟨h0, h1⟩ | ⟨g, cap, cur, h0, _⟩
    · exact ⟨none, 0, by rw [q, h0]⟩
    · exact ⟨_, cap, by rw [q, h0, htb]; rfl⟩
  obtain ⟨ta, tc, d3⟩ := d3
  have hK : Hid (∀ n, KeptD bv db w (W.drewN n)) := fun n => KeptD.below (belowN HW.bed n) (V := V) (HW.vnow.same rfl)
  have g1 : decide ((T.length : Int) < 1) = false := decide_eq_false (by omega)
  have g2 : decide ((4 : Int) < (T.length : Int)) = true := decide_eq_true (by omega)
  clear HW hb hbl htb hT1
  go_upto_region 7 with fail
  go_quiet (fail)
  go_wp2
  go_ret
  exact ⟨rfl, hK.out _⟩

end
end Go.Proofs.Qxb6500273a
