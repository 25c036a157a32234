/-
  plain: its head.
-/
import Derived.Test.Qxb6500273aPl0
set_option linter.unusedVariables false
namespace Go.Proofs.Qxb6500273a
open Go.RowKit

set_option maxRecDepth 100000 in
set_option maxHeartbeats 2000000 in
theorem plain_head (db : Nat) (D : Dv) (vb vt vc : Value) (K A B C : Int) (S T : List UInt8) (w : World) (hD : DAt w db D vb vt vc) (ht0 : 0 ≤ D.t) (ht2 : D.t ≤ 2) (hA : 0 ≤ A) (hA2 : A ≤ 255)
    (hG : ∀ W b3 b6 b9, PlW w W db b3 b6 b9 D A B C → PGoal w W db b3 b6 b9 D A B C) :
    Calls Try.prog 26 #[.pointer (some ⟨db, 0, none⟩), opD K A B C S T] w fun e w' => PlainRes D.t D.st A B e ∧ Below w.heap.size w w' := by
  have c1 : ∀ o1 o2 o3, (((w.alloc o1).alloc o2).alloc o3).cell? ⟨db, 1, none⟩ = some (.int .i64 D.t) := fun o1 o2 o3 => (((hD.alloc o1).alloc o2).alloc o3).c1
  have c4 : ∀ o1 o2 o3, (((w.alloc o1).alloc o2).alloc o3).cell? ⟨db, 4, none⟩ = some (.string ⟨D.st.toArray⟩) := fun o1 o2 o3 => (((hD.alloc o1).alloc o2).alloc o3).c4
  have HS : ∀ wx, _ := fun wx => sides_any D.t ht0 ht2 wx
  have HN : ∀ wx, _ := fun wx => numSig_any A wx hA hA2
  have HM : ∀ wx, _ := fun wx => memSig_any A wx
  have hnb := numSig_byte A
  have HT : ∀ n : Int, 0 ≤ n → n ≤ 255 → ∀ wx, _ := fun n h0 h1 wx => str_any n h0 h1 wx
  have hdl := hD.lt
  have n0 : ¬ db = w.heap.size := by omega
  have n1 : ¬ db = w.heap.size + 1 := by omega
  have n2 : ¬ db = w.heap.size + 1 + 1 := by omega
  clear hD
  have hp : (sidesF D.t).1.length ≤ 4 := by
    have : D.t = 0 ∨ D.t = 1 ∨ D.t = 2 := by omega
    rcases this with h | h | h <;> rw [h] <;> decide
  have HG : Hid (∀ W b3 b6 b9, PlW w W db b3 b6 b9 D A B C → PGoal w W db b3 b6 b9 D A B C) := hG
  clear hG
  have hps : Hid ((sidesF D.t).1 = (sidesF D.t).1) := rfl
  generalize hsd : sidesF D.t = sd at HS hp
  have HE : Hid (sidesF D.t = sd) := hsd
  clear hsd
  obtain ⟨p, r⟩ := sd
  simp only [] at HS hp
  have hP : Hid (∀ e w', PlainRes D.t D.st A B e ∧ Below w.heap.size w w' → PlainRes D.t D.st A B e ∧ Below w.heap.size w w') := fun e w' h => h
  unfold opD
  go_enter Try.func26, Try.ntmps26
  go_upto_region 9 with (first | (go_at_call 27; refine (HS _).mono ?_; rintro e w1 ⟨rfl, hb1⟩) | (go_at_call 42; refine (HN _).mono ?_; rintro e w2 ⟨rfl, h41⟩; have h42 := h41.symm; clear h41; subst h42) | (go_at_call 43; refine (HM _).mono ?_; rintro e w3 ⟨rfl, h41⟩; have h42 := h41.symm; clear h41; subst h42) | (go_at_call 22; refine (HT _ (by omega) (by omega) _).mono ?_; rintro e w4 ⟨rfl, rfl⟩))
  have HW : ∀ oa ob oc, PlW w (((w1.alloc oa).alloc ob).alloc oc) db w.heap.size (w.heap.size + 1) (w.heap.size + 1 + 1) D A B C := fun oa ob oc => by
    refine PlW.alloc (PlW.alloc (PlW.alloc (PlW.next hb1 ?_) _) _) _
    exact plw0 K A B C S T hdl (c1 _ _ _) (c4 _ _ _)
  clear c1 c4 HN HM HS hb1 n0 n1 n2
  go_cut [21] from 22 (fun s21 wc => s21 = .string ⟨(strF (numSigF A).2.2).toArray⟩ ∧ PlW w wc db w.heap.size (w.heap.size + 1) (w.heap.size + 1 + 1) D A B C)
  case first =>
    go_wp2_with (go_at_call 22; refine (HT _ (by omega) (by omega) _).mono ?_; rintro e w4 ⟨rfl, rfl⟩)
    go_meet
    exact ⟨rfl, HW _ _ _⟩
  case rest =>
    obtain ⟨rfl, HW2⟩ := hcut
    refine (by assumption : ∀ (a : Act) (w : World), Code.wp Try.prog _ _ a w → _) _ _ ?_
    refine HG.out _ _ _ _ HW2 _ _ rfl ⟨rfl, rfl, rfl, rfl, rfl, rfl, rfl, rfl, rfl, rfl, ?_, rfl, rfl, rfl, rfl, rfl, rfl⟩
    rw [HE.out]

    rfl

end Go.Proofs.Qxb6500273a
