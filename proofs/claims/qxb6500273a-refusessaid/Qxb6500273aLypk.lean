/-
  lay: the ways.
-/
import Derived.Test.Qxb6500273aLy0
import Derived.Test.Qxb6500273aTall
import Derived.BigQuiet
set_option linter.unusedVariables false
set_option linter.unusedSimpArgs false
namespace Go.Proofs.Qxb6500273a
open Go.RowKit

section
variable {w W : World} {db b3 b5 : Nat} {D : Dv} {vb vt vc : Value} {K A B C : Int} {S T : List UInt8}

set_option maxRecDepth 100000 in
set_option maxHeartbeats 4000000 in
theorem ly_pl_ok (hon : D.on = true) (h95 : D.body.length < 95) (hb : DBnd D) (hbl : D.below ≤ 10) (hA : 0 ≤ A) (hA2 : A ≤ 255) (hn : A ≠ 2 ∧ A ≠ 3 ∧ A ≠ 4 ∧ A ≠ 5 ∧ A ≠ 11 ∧ A ≠ 0 ∧ A ≠ 15 ∧ A ≠ 12 ∧ A ≠ 13 ∧ A ≠ 14) (hk : (plainL D.t D.st A B).2.2.2 = true) (sp : List UInt8) (hsp : D.st = sp ++ (plainL D.t D.st A B).1) (hh : ¬ (10 : Int) < (D.below : Int) + D.st.length - (plainL D.t D.st A B).1.length + (plainL D.t D.st A B).2.1.length)  (HW : LyW w W db b3 b5 D vb vt vc K A B C S T) : LGoal w W db b3 b5 D A B := by
  intro c a hc hf
  unfold LTail at hc
  simp only [Try.f10, Option.map, dropC, Option.some.injEq] at hc
  obtain ⟨s, rfl⟩ := frame10 a _ _ _ _ _ hf.d hf.n hf.h0 hf.h3 hf.h4 hf.h5 hf.h6
  clear hf
  subst hc
  unfold LPost
  have he : endsF D.st (plainL D.t D.st A B).1 = true := by rw [endsF_iff]; exact ⟨sp, hsp.symm⟩
  have hsl0 : D.st.take (D.st.length - (plainL D.t D.st A B).1.length) = sp := by
    have e : D.st.length - (plainL D.t D.st A B).1.length = sp.length := by have := congrArg List.length hsp; simp at this; omega
    rw [e]
    have := congrArg (List.take sp.length) hsp
    simpa using this
  have HL : Hid (∀ z, layL D A B z = { D with body := D.body ++ [⟨A, (plainL D.t D.st A B).2.2.1, z⟩], st := sp ++ (plainL D.t D.st A B).2.1 }) := fun z => by
    refine show layL D A B z = _ from ?_
    unfold layL
    rw [if_neg (by rw [hon]; simp; omega), if_neg (by omega), if_neg (by omega), if_neg (by omega), if_neg (by omega), if_neg (by rw [hk, he]; simp; omega), hsl0]
  have hst : D.st.length ≤ 1000 := Nat.le_trans hb.st (by omega)
  have hl := plain_len hb A B
  have hgl := plain_glen hb A B
  have HC := plain_any2 db D vb vt vc K A B C S T W HW.now hb.t0 hb.t2 hst hA hA2
  have HE : ∀ wx, _ := fun wx => ends_any D.st (plainL D.t D.st A B).1 hst hl wx
  rw [he] at HE
  have g2 : (A == 2) = false := by rw [beq_eq_false_iff_ne]; omega
  have g3 : (A == 3) = false := by rw [beq_eq_false_iff_ne]; omega
  have g4 : (A == 4) = false := by rw [beq_eq_false_iff_ne]; omega
  have g5 : (A == 5) = false := by rw [beq_eq_false_iff_ne]; omega
  have g11 : (A == 11) = false := by rw [beq_eq_false_iff_ne]; omega
  have g0 : (A == 0) = false := by rw [beq_eq_false_iff_ne]; omega
  have g15 : (A == 15) = false := by rw [beq_eq_false_iff_ne]; omega
  have g12 : (A == 12) = false := by rw [beq_eq_false_iff_ne]; omega
  have g13 : (A == 13) = false := by rw [beq_eq_false_iff_ne]; omega
  have g14 : (A == 14) = false := by rw [beq_eq_false_iff_ne]; omega
  have e0 := HW.e0
  have e1 := HW.e1
  have e2 := HW.e2
  have e3 := HW.e3
  have e4 := HW.e4
  have e5 := HW.e5
  unfold opD at HC
  unfold PlainRes at HC
  rw [hk] at HC
  have hlen : D.st.length = sp.length + (plainL D.t D.st A B).1.length := by have := congrArg List.length hsp; simpa using this
  generalize plainL D.t D.st A B = p at *
  obtain ⟨tk, gv, X, ok⟩ := p
  simp only [] at *
  have hst1 : (D.st.length : Int) ≤ 1000 := by omega
  have hl1 : (tk.length : Int) ≤ 1000 := by omega
  have hg1 : (gv.length : Int) ≤ 1 := by omega
  have hb1' : (D.below : Int) ≤ 10 := by omega
  have hsp1 : (sp.length : Int) ≤ 1000 := by omega
  have hh1 : decide ((10 : Int) < (D.below : Int) + ((sp.length : Int) + tk.length) - tk.length + gv.length) = false := decide_eq_false (by omega)
  have hidx : (sp.length : Int) + tk.length - tk.length = sp.length := by omega
  have hx : (ByteArray.mk (sp ++ tk).toArray).extract 0 sp.length = ByteArray.mk sp.toArray := by rw [ext_list]; simp
  clear hk hl hgl hn hst hon hb hbl hh hlen he hsl0
  go_upto_region 10 with (go_at_call 26; refine HC.mono ?_; rintro e w1 ⟨⟨z, rfl⟩, hb1⟩; have HW1 := HW.next hb1; clear hb1)
  have h1 := HW1.o1
  have h2 := HW1.o2
  have h5 := HW1.o4
  have hdw := HW1.at_.lt
  have pd : db < w1.heap.size := HW1.now.lt
  have n7 : ¬ db = b5 := by omega
  have n8 : ¬ b5 = db := by omega
  have n10 : ¬ b5 = w1.heap.size := by omega
  have d4a : ∀ o, (w1.alloc o).cell? ⟨db, 4, none⟩ = some (.string ⟨D.st.toArray⟩) := fun o => (HW1.now.alloc o).c4
  have d6a : ∀ o, (w1.alloc o).cell? ⟨db, 6, none⟩ = some (.int .i64 D.below) := fun o => (HW1.now.alloc o).c6
  rw [hsp] at d4a HE
  have HLW : Hid (LyW w w1 db b3 b5 D vb vt vc K A B C S T) := HW1
  have y0a : ∀ o, (w1.alloc o).cell? ⟨b5, 0, none⟩ = some (.int .u8 A) := fun o => (oldc h5).trans HW1.x0
  have y1a : ∀ o, (w1.alloc o).cell? ⟨b5, 1, none⟩ = some (.int .u32 0) := fun o => (oldc h5).trans HW1.x1
  have y2a : ∀ o, (w1.alloc o).cell? ⟨b5, 2, none⟩ = some (.int .u64 0) := fun o => (oldc h5).trans HW1.x2
  have yfa : ∀ o i, (w1.alloc o).frozen? ⟨b5, i, none⟩ = false := fun o i => (((Below.refl _ w1).alloc (Nat.le_refl _) o).frozen (p := ⟨b5, i, none⟩) h5).trans (HW1.xf i)
  have fza : ∀ o i, (w1.alloc o).frozen? ⟨db, i, none⟩ = false := fun o i => (HW1.now.alloc o).fz i
  clear HW HW1 HC hA hA2
  go_quiet ((go_at_call 25; exact Calls.quiet_of_same (HE _)))
  go_upto_region 12 with fail
  go_region
  go_upto_region 74 with fail
  have hU : ∀ n, Below w.heap.size w (((((w1.alloc (.cells #[.int .u8 A, .int .u32 X, .int .u64 z] 42)).drewN n).setCell ⟨b5, 0, none⟩ (.int .u8 A)).setCell ⟨b5, 1, none⟩ (.int .u32 X)).setCell ⟨b5, 2, none⟩ (.int .u64 z)) := fun n => (((belowN (HLW.out.be.alloc HLW.out.be.size _) n).setCell (p := ⟨b5, 0, none⟩) (by simp only []; omega) _).setCell (p := ⟨b5, 1, none⟩) (by simp only []; omega) _).setCell (p := ⟨b5, 2, none⟩) (by simp only []; omega) _
  have hDU := fun n => HLW.out.at_.below (hU n)
  refine lay_end db b5 w D _ A B z A X z vb vt vc _ _ rfl _ rfl rfl rfl rfl ((hDU _).setSt (sp ++ gv)).drew ?_ ?_ ?_ ?_ ?_ ?_
  · exact (((hU _).mono (by omega)).setCell (p := ⟨db, 4, none⟩) (by simp only []; omega) _).drew
  · rw [World.cell?_drew, apartc (by omega)]; simp [go_sem, y0a, y1a, y2a]
  · rw [World.cell?_drew, apartc (by omega)]; simp [go_sem, y0a, y1a, y2a]
  · rw [World.cell?_drew, apartc (by omega)]; simp [go_sem, y0a, y1a, y2a]
  · simp only []; omega
  · rw [HL.out]

end
end Go.Proofs.Qxb6500273a
