/-
  Refused: the ways.
-/
import Derived.Test.Qxb6500273aRf0
import Derived.BigQuiet
set_option linter.unusedVariables false
set_option linter.unusedSimpArgs false
namespace Go.Proofs.Qxb6500273a
open Go.RowKit

section
variable {w W : World} {bv db b5 b8 : Nat} {D : Dv} {vb vt vc : Value} {V : VS} {K A B C : Int} {S T : List UInt8}

set_option maxRecDepth 100000 in
set_option maxHeartbeats 4000000 in
theorem rf_name6 (hb : DBnd D) (hbl : D.below ≤ 10) (X E : Int) (hE : E ≠ 0) (h14 : A ≠ 14) (h36 : A ≠ 36 ∨ B ≠ 3) (h6 : D.ctl.length = 6) (hm : Doom D ⟨A, X, 0⟩ D.body.length E) (HW : RfW w W bv db b5 b8 D vb vt vc V K A B C S T ⟨A, X, 0⟩) : RGoal 5 w W bv db b5 b8 D.body.length E true := by
  intro c a hc hf
  unfold RTail at hc
  simp only [Try.f16, Option.map, dropC, Option.some.injEq] at hc
  obtain ⟨s, rfl⟩ := frame16 a _ _ _ _ _ _ _ _ hf.d hf.n hf.h0 hf.h1 hf.h5 hf.h6 hf.h7 hf.h8 hf.h9 hf.h10
  clear hf
  subst hc
  unfold RPost
  have e0 := HW.e0
  have e1 := HW.e1
  have e2 := HW.e2
  have e3 := HW.e3
  have e4 := HW.e4
  have e5 := HW.e5
  have d4 := HW.now.c4
  have d5 := HW.now.c5
  have d6 := HW.now.c6
  have x0 := HW.x0
  have x1 := HW.x1
  have x2 := HW.x2
  have xf := HW.xf
  have n1 : ¬ b5 = b8 := by have := HW.o2; omega
  have n2 : ¬ b8 = b5 := by have := HW.o2; omega
  have n3 : ¬ db = b8 := by have := HW.o1; have := HW.o2; have := HW.at_.lt; omega
  have n4 : ¬ b8 = db := by have := HW.o1; have := HW.o2; have := HW.at_.lt; omega
  obtain ⟨ca, cc, hvc⟩ := HW.now.ctlV
  rw [hvc, h6] at d5
  have HN : Hid (∀ n, DAt (W.drewN n) db D vb vt vc) := fun n => HW.now.drewN n
  have HV : Hid (∀ n, VAt (W.drewN n) bv V) := fun n => HW.vnow.same rfl
  have HB : Hid (∀ n, Below db w (W.drewN n)) := fun n => belowN HW.bed n
  have hbd : Hid (bv < db) := HW.bd
  have hdw : Hid (db ≤ w.heap.size) := Nat.le_of_lt HW.at_.lt
  have X0 : Hid (∀ n, (W.drewN n).cell? ⟨b8, 0, none⟩ = some (.int .u8 A)) := fun n => by simpa using HW.x0
  have X1 : Hid (∀ n, (W.drewN n).cell? ⟨b8, 1, none⟩ = some (.int .u32 X)) := fun n => by simpa using HW.x1
  have X2 : Hid (∀ n, (W.drewN n).cell? ⟨b8, 2, none⟩ = some (.int .u64 0)) := fun n => by simpa using HW.x2
  have HM : Hid (Doom D ⟨A, X, 0⟩ D.body.length E) := hm
  have g1 : (A == 14) = false := by rw [beq_eq_false_iff_ne]; exact h14
  have hst1 : (D.st.length : Int) ≤ 10 := by have := hb.st; omega
  have hbl1 : (D.below : Int) ≤ 10 := by omega
  rcases h36 with h36 | h36
  · have g2 : (A == 36) = false := by rw [beq_eq_false_iff_ne]; exact h36
    clear hb hbl hm HW hvc h14 h36 h6 hE
    go_upto_region 25 with fail
    go_quiet (fail)
    go_upto_if 209 with fail
    go_cut [6] from 208 to 209 (fun s6 wc => s6 = .bool false ∧ wc = W.drewN nq)
    case first =>
      go_wp2_with fail
      go_meet
      exact ⟨rfl, rfl⟩
    case rest =>
      obtain ⟨rfl, rfl⟩ := hcut
      refine (by assumption : ∀ (a : Act) (w : World), Code.wp Try.prog _ _ a w → _) _ _ ?_
      exact ref_end bv db b5 b8 w D vb vt vc V _ ⟨A, X, 0⟩ D.body.length E _ rfl _ ⟨rfl, rfl, rfl, rfl, rfl, rfl, rfl, rfl, rfl, rfl⟩ (HN.out _) (HV.out _) hbd.out (HB.out _) hdw.out (X0.out _) (X1.out _) (X2.out _) HM.out
  
  · have g2 : (B == 3) = false := by rw [beq_eq_false_iff_ne]; exact h36
    by_cases hA36 : A = 36
    · have g3 : (A == 36) = true := by rw [hA36]; rfl
      clear hb hbl hm HW hvc h14 h36 h6 hA36 hE
      go_upto_region 25 with fail
      go_quiet (fail)
      go_upto_if 209 with fail
      go_cut [6] from 208 to 209 (fun s6 wc => s6 = .bool false ∧ wc = W.drewN nq)
      case first =>
        go_wp2_with fail
        go_meet
        exact ⟨rfl, rfl⟩
      case rest =>
        obtain ⟨rfl, rfl⟩ := hcut
        refine (by assumption : ∀ (a : Act) (w : World), Code.wp Try.prog _ _ a w → _) _ _ ?_
        exact ref_end bv db b5 b8 w D vb vt vc V _ ⟨A, X, 0⟩ D.body.length E _ rfl _ ⟨rfl, rfl, rfl, rfl, rfl, rfl, rfl, rfl, rfl, rfl⟩ (HN.out _) (HV.out _) hbd.out (HB.out _) hdw.out (X0.out _) (X1.out _) (X2.out _) HM.out
    
    have g3 : (A == 36) = false := by rw [beq_eq_false_iff_ne]; exact hA36
    clear hA36
    clear hb hbl hm HW hvc h14 h36 h6 hE
    go_upto_region 25 with fail
    go_quiet (fail)
    go_upto_if 209 with fail
    go_cut [6] from 208 to 209 (fun s6 wc => s6 = .bool false ∧ wc = W.drewN nq)
    case first =>
      go_wp2_with fail
      go_meet
      exact ⟨rfl, rfl⟩
    case rest =>
      obtain ⟨rfl, rfl⟩ := hcut
      refine (by assumption : ∀ (a : Act) (w : World), Code.wp Try.prog _ _ a w → _) _ _ ?_
      exact ref_end bv db b5 b8 w D vb vt vc V _ ⟨A, X, 0⟩ D.body.length E _ rfl _ ⟨rfl, rfl, rfl, rfl, rfl, rfl, rfl, rfl, rfl, rfl⟩ (HN.out _) (HV.out _) hbd.out (HB.out _) hdw.out (X0.out _) (X1.out _) (X2.out _) HM.out
  

end
end Go.Proofs.Qxb6500273a
