/-
  lay: the ways.
-/
import Derived.Test.Qxb6500273aLy0
import Derived.Test.Qxb6500273aTall
import Derived.BigQuiet
set_option linter.unusedVariables false
set_option linter.unusedSimpArgs false
namespace Go.Proofs.Qxb6500273a
open Go.RowKit

section
variable {w W : World} {db b3 b5 : Nat} {D : Dv} {vb vt vc : Value} {K A B C : Int} {S T : List UInt8}

set_option maxRecDepth 100000 in
set_option maxHeartbeats 4000000 in
theorem ly_pl_high (hon : D.on = true) (h95 : D.body.length < 95) (hb : DBnd D) (hbl : D.below ≤ 10) (hA : 0 ≤ A) (hA2 : A ≤ 255) (hn : A ≠ 2 ∧ A ≠ 3 ∧ A ≠ 4 ∧ A ≠ 5 ∧ A ≠ 11 ∧ A ≠ 0 ∧ A ≠ 15 ∧ A ≠ 12 ∧ A ≠ 13 ∧ A ≠ 14) (hk : (plainL D.t D.st A B).2.2.2 = true) (sp : List UInt8) (hsp : D.st = sp ++ (plainL D.t D.st A B).1) (hh : (10 : Int) < (D.below : Int) + D.st.length - (plainL D.t D.st A B).1.length + (plainL D.t D.st A B).2.1.length)  (HW : LyW w W db b3 b5 D vb vt vc K A B C S T) : LGoal w W db b3 b5 D A B := by
  intro c a hc hf
  unfold LTail at hc
  simp only [Try.f10, Option.map, dropC, Option.some.injEq] at hc
  obtain ⟨s, rfl⟩ := frame10 a _ _ _ _ _ hf.d hf.n hf.h0 hf.h3 hf.h4 hf.h5 hf.h6
  clear hf
  subst hc
  unfold LPost
  have he : endsF D.st (plainL D.t D.st A B).1 = true := by rw [endsF_iff]; exact ⟨sp, hsp.symm⟩
  have HL : Hid (layL D A B 0 = D) := by
    refine show layL D A B 0 = D from ?_
    unfold layL
    rw [if_neg (by rw [hon]; simp; omega), if_neg (by omega), if_neg (by omega), if_neg (by omega), if_neg (by omega), if_pos (.inr (.inr hh))]
  have hst : D.st.length ≤ 1000 := Nat.le_trans hb.st (by omega)
  have hl := plain_len hb A B
  have hgl := plain_glen hb A B
  have HC := plain_any2 db D vb vt vc K A B C S T W HW.now hb.t0 hb.t2 hst hA hA2
  have HE : ∀ wx, _ := fun wx => ends_any D.st (plainL D.t D.st A B).1 hst hl wx
  rw [he] at HE
  have g2 : (A == 2) = false := by rw [beq_eq_false_iff_ne]; omega
  have g3 : (A == 3) = false := by rw [beq_eq_false_iff_ne]; omega
  have g4 : (A == 4) = false := by rw [beq_eq_false_iff_ne]; omega
  have g5 : (A == 5) = false := by rw [beq_eq_false_iff_ne]; omega
  have g11 : (A == 11) = false := by rw [beq_eq_false_iff_ne]; omega
  have g0 : (A == 0) = false := by rw [beq_eq_false_iff_ne]; omega
  have g15 : (A == 15) = false := by rw [beq_eq_false_iff_ne]; omega
  have g12 : (A == 12) = false := by rw [beq_eq_false_iff_ne]; omega
  have g13 : (A == 13) = false := by rw [beq_eq_false_iff_ne]; omega
  have g14 : (A == 14) = false := by rw [beq_eq_false_iff_ne]; omega
  have e0 := HW.e0
  have e1 := HW.e1
  have e2 := HW.e2
  have e3 := HW.e3
  have e4 := HW.e4
  have e5 := HW.e5
  unfold opD at HC
  unfold PlainRes at HC
  rw [hk] at HC
  have hlen : D.st.length = sp.length + (plainL D.t D.st A B).1.length := by have := congrArg List.length hsp; simpa using this
  generalize plainL D.t D.st A B = p at *
  obtain ⟨tk, gv, X, ok⟩ := p
  simp only [] at *
  have hst1 : (D.st.length : Int) ≤ 1000 := by omega
  have hl1 : (tk.length : Int) ≤ 1000 := by omega
  have hg1 : (gv.length : Int) ≤ 1 := by omega
  have hb1' : (D.below : Int) ≤ 10 := by omega
  have hsp1 : (sp.length : Int) ≤ 1000 := by omega
  have hh1 : decide ((10 : Int) < (D.below : Int) + ((sp.length : Int) + tk.length) - tk.length + gv.length) = true := decide_eq_true (by omega)
  have hidx : (sp.length : Int) + tk.length - tk.length = sp.length := by omega
  have hx : (ByteArray.mk (sp ++ tk).toArray).extract 0 sp.length = ByteArray.mk sp.toArray := by rw [ext_list]; simp
  clear hk hl hgl hn hst hon hb hbl h95 hh hlen he
  go_upto_region 10 with (go_at_call 26; refine HC.mono ?_; rintro e w1 ⟨⟨z, rfl⟩, hb1⟩; have HW1 := HW.next hb1; clear hb1)
  have h1 := HW1.o1
  have h2 := HW1.o2
  have h5 := HW1.o4
  have hdw := HW1.at_.lt
  have pd : db < w1.heap.size := HW1.now.lt
  have n7 : ¬ db = b5 := by omega
  have n8 : ¬ b5 = db := by omega
  have n10 : ¬ b5 = w1.heap.size := by omega
  have d4a : ∀ o, (w1.alloc o).cell? ⟨db, 4, none⟩ = some (.string ⟨D.st.toArray⟩) := fun o => (HW1.now.alloc o).c4
  have d6a : ∀ o, (w1.alloc o).cell? ⟨db, 6, none⟩ = some (.int .i64 D.below) := fun o => (HW1.now.alloc o).c6
  rw [hsp] at d4a HE
  have HA : Hid (∀ o n, DAt ((w1.alloc o).drewN n) db D vb vt vc) := fun o n => (HW1.now.alloc o).drewN n
  have HB : Hid (∀ o n, Below db w ((w1.alloc o).drewN n)) := fun o n => belowN (HW1.bed.alloc (by omega) o) n
  clear HW HW1 HC hA hA2
  go_quiet ((go_at_call 25; exact Calls.quiet_of_same (HE _)))
  go_wp2
  all_goals (try simp only [Exit.inBlock, Exit.then])
  all_goals refine bodyPost_ret (results_none rfl _ _ _) rfl ⟨rfl, ⟨0, vb, vt, vc, ?_⟩, HB.out _ _⟩
  all_goals rw [HL.out]
  all_goals exact HA.out _ _

end
end Go.Proofs.Qxb6500273a
