/-
  lay: its head.
-/
import Derived.Test.Qxb6500273aLy2
import Derived.Deep.CutRange
set_option linter.unusedVariables false
set_option linter.unusedSimpArgs false
namespace Go.Proofs.Qxb6500273a
open Go.RowKit

set_option maxRecDepth 100000 in
set_option maxHeartbeats 4000000 in
theorem lay_in2 (db : Nat) (D : Dv) (vb vt vc : Value) (K A B C : Int) (S T : List UInt8) (w W0 : World) (b3 b5 : Nat) (hbl : D.below ≤ 10) (HW0 : LyW w W0 db b3 b5 D vb vt vc K A B C S T)
    (hG : ∀ W, LyW w W db b3 b5 D vb vt vc K A B C S T → LGoal w W db b3 b5 D A B) : LGoal4 w W0 db b3 b5 D A B := by
  intro c a hc ⟨hd, hn, h0, h3, h4, h5⟩
  unfold LTail at hc
  simp only [Try.f10, Option.map, dropC, Option.some.injEq] at hc
  obtain ⟨v6, h6⟩ : ∃ v, a.tmps.getD 6 undef = v := ⟨_, rfl⟩
  obtain ⟨s, rfl⟩ := frame10 a _ _ _ _ v6 hd hn h0 h3 h4 h5 h6
  clear hd hn h0 h5 h3 h4 h6
  subst hc
  have HG : Hid (∀ W, LyW w W db b3 b5 D vb vt vc K A B C S T → LGoal w W db b3 b5 D A B) := hG
  have h9 : (D.below : Int) ≤ 10 := by omega
  have HT : ∀ wx, _ := fun wx => str_any 127 (by omega) (by omega) wx
  have HTy : ∀ wx, _ := fun wx => types_any S wx
  have e4 : ∀ o, (W0.alloc o).cell? ⟨b3, 4, none⟩ = some (.string ⟨S.toArray⟩) := fun o => (LyW.next ((Below.refl _ _).alloc (Nat.le_refl _) o) HW0).e4
  have HW : Hid (∀ o, LyW w (W0.alloc o) db b3 b5 D vb vt vc K A B C S T) := fun o => LyW.next ((Below.refl _ _).alloc (Nat.le_refl _) o) HW0
  clear hG HW0
  go_upto_region 6 with (first | (go_at_call 22; refine (HT _).mono ?_; rintro e w1 ⟨rfl, rfl⟩) | (go_at_call 23; refine (HTy _).mono ?_; rintro e w2 ⟨⟨F, hF, rfl⟩, h41⟩; have h42 := h41.symm; clear h41; subst h42))
  have hF2 : (F.length : Int) ≤ 10 := by omega
  have HW2 := HW.out (.cells #[.int .u8 127] 5)
  clear HW HT HTy e4
  generalize (W0.alloc (.cells #[.int .u8 127] 5)) = W at *
  have c6W := HW2.now.c6
  go_upto_if 65 with fail
  go_cut [7] from 66 to 66 (fun s7 wc => wc = W)
  case first =>
    go_wp2_with fail
    all_goals go_meet
    all_goals rfl
  case rest =>
    subst hcut
    refine (by assumption : ∀ (a : Act) (w : World), Code.wp Try.prog _ _ a w → _) _ _ ?_
    refine HG.out _ HW2 _ _ rfl ?_
    exact ⟨rfl, rfl, rfl, rfl, rfl, rfl, rfl⟩

end Go.Proofs.Qxb6500273a
