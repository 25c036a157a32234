/-
  WALKS: TypeOf.
-/
import Derived.Test.Qxb6500273aMod
namespace Go.Proofs.Qxb6500273a
open Go.RowKit

theorem typeOfF_yes (M : Md) (f : Int) (n : Nat) (hn : n < 3) (h : (f = 0 ∧ M.it = n) ∨ (f = 1 ∧ M.ft = n)) : typeOfF M f = (typeText M n, true) := by
  have h3 : (0 : Int) ≤ (n : Int) ∧ (n : Int) < 3 := by omega
  rcases h with ⟨h1, h2⟩ | ⟨h1, h2⟩
  · simp [typeOfF, h1, h2, h3.2]
  · simp [typeOfF, h1, h2, h3.2]

theorem typeOfF_no (M : Md) (f t : Int) (ht : t < 0 ∨ 3 ≤ t) (h : (f = 0 ∧ M.it = t) ∨ (f = 1 ∧ M.ft = t)) : typeOfF M f = ([], false) := by
  rcases h with ⟨h1, h2⟩ | ⟨h1, h2⟩
  · simp [typeOfF, h1, h2]; omega
  · simp [typeOfF, h1, h2]; omega

theorem typeOfF_out (M : Md) (f : Int) (h0 : ¬ f = 0) (h1 : ¬ f = 1) : typeOfF M f = ([], false) := by
  simp [typeOfF, h0, h1]

set_option maxHeartbeats 400000 in
theorem typeOf_zero (bv : Nat) (L : Lay) (M : Md) (w : World) (hM : ModAt w bv L M) :
    Calls Try.prog 46 #[.pointer (some ⟨L.p, 0, none⟩), .int .i64 0] w fun e w' => e = .returned (.tuple #[.string ⟨(typeOfF M 0).1.toArray⟩, .bool (typeOfF M 0).2]) ∧ ∃ n, w' = w.drewN n := by
  have c0 := hM.m0
  have c1 := hM.m1
  have ci := hM.im
  by_cases hlt : M.it < 0
  · rw [typeOfF_no M 0 M.it (.inl hlt) (.inl ⟨rfl, rfl⟩)]
    go_enter Try.func46, Try.ntmps46
    go_wp2
    go_ret2
    exact ⟨rfl, 0, rfl⟩
  · by_cases hge : 3 ≤ M.it
    · rw [typeOfF_no M 0 M.it (.inr hge) (.inl ⟨rfl, rfl⟩)]
      go_enter Try.func46, Try.ntmps46
      go_wp2
      go_ret2
      exact ⟨rfl, 0, rfl⟩
    · obtain ⟨n, hn⟩ := Int.eq_ofNat_of_zero_le (show 0 ≤ M.it by omega)
      rw [typeOfF_yes M 0 n (by omega) (.inl ⟨rfl, hn⟩)]
      rw [hn] at ci hge
      have ct := hM.ty n (by omega)
      have hn3 : (n : Int) < 3 := by omega
      clear hn hlt hge
      go_enter Try.func46, Try.ntmps46
      go_wp2
      go_ret2
      exact ⟨rfl, 0, rfl⟩

set_option maxHeartbeats 400000 in
theorem typeOf_one (bv : Nat) (L : Lay) (M : Md) (w : World) (hM : ModAt w bv L M) :
    Calls Try.prog 46 #[.pointer (some ⟨L.p, 0, none⟩), .int .i64 1] w fun e w' => e = .returned (.tuple #[.string ⟨(typeOfF M 1).1.toArray⟩, .bool (typeOfF M 1).2]) ∧ ∃ n, w' = w.drewN n := by
  have c0 := hM.m0
  have c1 := hM.m1
  have c2 := hM.m2
  have ci := hM.f0
  by_cases hlt : M.ft < 0
  · rw [typeOfF_no M 1 M.ft (.inl hlt) (.inr ⟨rfl, rfl⟩)]
    go_enter Try.func46, Try.ntmps46
    go_wp2
    go_quiet (fail)
    go_wp2
    go_quiet (fail)
    go_wp2
    go_ret2
    exact ⟨rfl, _, rfl⟩
  · by_cases hge : 3 ≤ M.ft
    · rw [typeOfF_no M 1 M.ft (.inr hge) (.inr ⟨rfl, rfl⟩)]
      go_enter Try.func46, Try.ntmps46
      go_wp2
      go_quiet (fail)
      go_wp2
      go_quiet (fail)
      go_wp2
      go_ret2
      exact ⟨rfl, _, rfl⟩
    · obtain ⟨n, hn⟩ := Int.eq_ofNat_of_zero_le (show 0 ≤ M.ft by omega)
      rw [typeOfF_yes M 1 n (by omega) (.inr ⟨rfl, hn⟩)]
      rw [hn] at ci hge
      have ct := hM.ty n (by omega)
      have hn3 : (n : Int) < 3 := by omega
      clear hn hlt hge
      go_enter Try.func46, Try.ntmps46
      go_wp2
      go_quiet (fail)
      go_wp2
      go_quiet (fail)
      go_wp2
      go_ret2
      exact ⟨rfl, _, rfl⟩

set_option maxHeartbeats 400000 in
theorem typeOf_out (bv : Nat) (L : Lay) (M : Md) (f : Int) (w : World) (hM : ModAt w bv L M) (h : f < 0 ∨ 2 ≤ f) (hhi : f ≤ 9223372036854775807) :
    Calls Try.prog 46 #[.pointer (some ⟨L.p, 0, none⟩), .int .i64 f] w fun e w' => e = .returned (.tuple #[.string ⟨(typeOfF M f).1.toArray⟩, .bool (typeOfF M f).2]) ∧ ∃ n, w' = w.drewN n := by
  have c0 := hM.m0
  have c1 := hM.m1
  have c2 := hM.m2
  rw [typeOfF_out M f (by omega) (by omega)]
  rcases h with h | h
  · have hd : decide ((1 : Int) ≤ f) = false := by simp; omega
    go_enter Try.func46, Try.ntmps46
    go_wp2
    go_quiet (fail)
    go_wp2
    go_ret2
    exact ⟨rfl, _, rfl⟩
  · have hd : decide ((1 : Int) ≤ f) = true := by simp; omega
    have hb : ¬ f - 1 < 1 := by omega
    go_enter Try.func46, Try.ntmps46
    go_wp2
    go_quiet (fail)
    go_wp2
    go_ret2
    exact ⟨rfl, _, rfl⟩

theorem typeOf_any (bv : Nat) (L : Lay) (M : Md) (f : Int) (w : World) (hM : ModAt w bv L M) (hhi : f ≤ 9223372036854775807) :
    Calls Try.prog 46 #[.pointer (some ⟨L.p, 0, none⟩), .int .i64 f] w fun e w' => e = .returned (.tuple #[.string ⟨(typeOfF M f).1.toArray⟩, .bool (typeOfF M f).2]) ∧ ∃ n, w' = w.drewN n := by
  by_cases h0 : f = 0
  · subst h0; exact typeOf_zero bv L M w hM
  · by_cases h1 : f = 1
    · subst h1; exact typeOf_one bv L M w hM
    · exact typeOf_out bv L M f w hM (by omega) hhi

end Go.Proofs.Qxb6500273a
