/-
  WALKS: Validate.
-/
import Derived.Test.Qxb6500273aParts
import Derived.Test.Qxb6500273aBody
namespace Go.Proofs.Qxb6500273a
open Go.RowKit

theorem ft_of_parts (M : Md) (h : (partsF M).2 = 0) : ∃ n : Nat, M.ft = n ∧ n < 3 := by
  rw [partsF_eq] at h
  have h2 : (firstBad (typeBad M) 0 2).2 = 0 := by
    by_cases e : (firstBad (typeBad M) 0 2).2 = 0
    · exact e
    · rw [if_pos e] at h; exact absurd h e
  have hno : typeBad M 1 = none := by
    by_cases e0 : typeBad M 0 = none
    · rw [firstBad_none _ _ _ e0] at h2
      by_cases e1 : typeBad M 1 = none
      · exact e1
      · obtain ⟨e, he⟩ := Option.ne_none_iff_exists'.1 e1
        rw [firstBad_some _ _ _ _ he] at h2
        have h3 : e = 0 := h2
        subst h3
        have : typeBad M 1 = if (typeOfF M 1).2 = true then none else some 14 := rfl
        rw [this] at he
        split at he
        · cases he
        · cases he
    · obtain ⟨e, he⟩ := Option.ne_none_iff_exists'.1 e0
      rw [firstBad_some _ _ _ _ he] at h2
      have h3 : e = 0 := h2
      subst h3
      have : typeBad M 0 = if (typeOfF M 0).2 = true then none else some 14 := rfl
      rw [this] at he
      split at he
      · cases he
      · cases he
  have ht : (typeOfF M 1).2 = true := by
    have : typeBad M 1 = if (typeOfF M 1).2 = true then none else some 14 := rfl
    rw [this] at hno
    split at hno
    · assumption
    · cases hno
  by_cases hr : 0 ≤ M.ft ∧ M.ft < 3
  · exact ⟨M.ft.toNat, by omega, by omega⟩
  · rw [typeOfF_no M 1 M.ft (by omega) (.inr ⟨rfl, rfl⟩)] at ht
    cases ht

set_option maxRecDepth 100000 in
set_option maxHeartbeats 2000000 in
theorem validate_any (bv : Nat) (L : Lay) (M : Md) (V : VS) (w : World) (hM : ModAt w bv L M) (hV : VAt w bv V) (mo : MdOk M) (po : PartOk M) :
    Calls Try.prog 14 #[.pointer (some ⟨bv, 0, none⟩), .pointer (some ⟨L.p, 0, none⟩)] w fun e w' => e = .returned (.tuple #[.int .i64 (validateF M V).1.1, .int .i64 (validateF M V).1.2.1, .int .i64 (validateF M V).1.2.2]) ∧ VAt w' bv (validateF M V).2 ∧ Ex bv w w' := by
  have HP := parts_any bv L M w hM po
  have hft := ft_of_parts M
  have hF : validateF M V = if (partsF M).2 ≠ 0 then ((-1, (partsF M).1, (partsF M).2), V)
    else if (bodyF M V).1.2 ≠ 0 then ((0, (bodyF M V).1.1, (bodyF M V).1.2), (bodyF M V).2)
    else ((1, 0, 0), (bodyF M V).2) := rfl
  rw [hF]
  generalize partsF M = p at *
  clear hF
  have m2 := hM.m2
  by_cases hp : p.2 = 0
  · obtain ⟨n, hn, hn3⟩ := hft hp
    have bp : (p.2 != 0) = false := by rw [bne_eq_false_iff_eq]; exact hp
    rw [if_neg (by simp [hp])]
    have HB : ∀ m, _ := fun m => body_any bv L M V (w.drewN m) (hM.drewN m) (hV.drewN m) mo n hn hn3
    generalize bodyF M V = B at *
    clear hft hp hn
    by_cases hb : B.1.2 = 0
    · have bb : (B.1.2 != 0) = false := by rw [bne_eq_false_iff_eq]; exact hb
      rw [if_neg (by simp [hb])]
      clear hb
      go_enter Try.func14, Try.ntmps14
      go_wp2_with (go_at_call 29; refine HP.mono ?_; rintro e w1 ⟨rfl, n1, rfl⟩)
      refine wp_loop_rounds 2 ?_
      rw [rounds_succ]
      go_wp2_with (go_at_call 30; refine (HB _).mono ?_; rintro e w2 ⟨rfl, hV2, hE2⟩; have m2' := (hM.ex (((Ex.refl bv w).drewN _).trans hE2)).m2)
      rw [rounds_succ]
      go_wp2
      go_ret3
      exact ⟨rfl, hV2, ((Ex.refl bv w).drewN _).trans hE2⟩
    · have bb : (B.1.2 != 0) = true := by rw [bne_iff_ne]; exact hb
      rw [if_pos hb]
      clear hb
      go_enter Try.func14, Try.ntmps14
      go_wp2_with (go_at_call 29; refine HP.mono ?_; rintro e w1 ⟨rfl, n1, rfl⟩)
      refine wp_loop_rounds 1 ?_
      rw [rounds_succ]
      go_wp2_with (go_at_call 30; refine (HB _).mono ?_; rintro e w2 ⟨rfl, hV2, hE2⟩)
      go_ret3
      exact ⟨rfl, hV2, ((Ex.refl bv w).drewN _).trans hE2⟩
  · have bp : (p.2 != 0) = true := by rw [bne_iff_ne]; exact hp
    rw [if_pos hp]
    clear hft hp
    go_enter Try.func14, Try.ntmps14
    go_wp2_with (go_at_call 29; refine HP.mono ?_; rintro e w1 ⟨rfl, n, rfl⟩)
    go_ret3
    exact ⟨rfl, hV.drewN _, (Ex.refl bv w).drewN _⟩

end Go.Proofs.Qxb6500273a
