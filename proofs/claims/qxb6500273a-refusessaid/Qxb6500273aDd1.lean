/-
  Deadly: its head.
-/
import Derived.Test.Qxb6500273aDd0
set_option linter.unusedVariables false
set_option linter.unusedSimpArgs false
namespace Go.Proofs.Qxb6500273a
open Go.RowKit

set_option maxRecDepth 100000 in
set_option maxHeartbeats 4000000 in
theorem dd_off (bv db : Nat) (D : Dv) (vb vt vc : Value) (V : VS) (K A B C : Int) (S T : List UInt8) (w : World) (hD : DAt w db D vb vt vc) (hV : VAt w bv V) (hbv : bv < db) (hon : D.on = false) :
    Calls Try.prog 17 #[.pointer (some ⟨bv, 0, none⟩), .pointer (some ⟨db, 0, none⟩), opD K A B C S T] w fun e w' => RRes bv db w e w' := by
  obtain ⟨va, vcap, hvb⟩ : ∃ a cap, vb = .slice a D.body.length cap := by
    rcases hD.ob.2 with ⟨h0, h1⟩ | ⟨g, cap, cur, h0, _⟩
    · exact ⟨none, 0, by rw [h0, h1]⟩
    · exact ⟨_, cap, h0⟩
  have HD : Hid (DAt w db D vb vt vc) := hD
  have hdl := hD.lt
  have c0 : ∀ o, (w.alloc o).cell? ⟨db, 0, none⟩ = some (.bool D.on) := fun o => (hD.alloc o).c0
  have c2 : ∀ o, (w.alloc o).cell? ⟨db, 2, none⟩ = some (.slice va D.body.length vcap) := fun o => hvb ▸ (hD.alloc o).c2
  have c6 : ∀ o, (w.alloc o).cell? ⟨db, 6, none⟩ = some (.int .i64 D.below) := fun o => (hD.alloc o).c6
  have hk : Hid (∀ o, KeptD bv db w (w.alloc o)) := fun o => KeptD.below ((Below.refl _ _).alloc (Nat.le_of_lt hdl) o) (vatBelow hV ((Below.refl _ _).alloc (Nat.le_refl _) o) hV.lt)
  have HV : Hid (VAt w bv V) := hV
  clear hD hV
  unfold opD
  rw [hon] at c0
  clear hvb
  go_enter Try.func17, Try.ntmps17
  go_wp2_with fail
  go_ret
  exact ⟨rfl, hk.out _⟩

set_option maxRecDepth 100000 in
set_option maxHeartbeats 4000000 in
theorem dd_neg (bv db : Nat) (D : Dv) (vb vt vc : Value) (V : VS) (K A B C : Int) (S T : List UInt8) (w : World) (hD : DAt w db D vb vt vc) (hV : VAt w bv V) (hbv : bv < db) (hon : D.on = true) (hA0 : A < 0) :
    Calls Try.prog 17 #[.pointer (some ⟨bv, 0, none⟩), .pointer (some ⟨db, 0, none⟩), opD K A B C S T] w fun e w' => RRes bv db w e w' := by
  obtain ⟨va, vcap, hvb⟩ : ∃ a cap, vb = .slice a D.body.length cap := by
    rcases hD.ob.2 with ⟨h0, h1⟩ | ⟨g, cap, cur, h0, _⟩
    · exact ⟨none, 0, by rw [h0, h1]⟩
    · exact ⟨_, cap, h0⟩
  have HD : Hid (DAt w db D vb vt vc) := hD
  have hdl := hD.lt
  have c0 : ∀ o, (w.alloc o).cell? ⟨db, 0, none⟩ = some (.bool D.on) := fun o => (hD.alloc o).c0
  have c2 : ∀ o, (w.alloc o).cell? ⟨db, 2, none⟩ = some (.slice va D.body.length vcap) := fun o => hvb ▸ (hD.alloc o).c2
  have c6 : ∀ o, (w.alloc o).cell? ⟨db, 6, none⟩ = some (.int .i64 D.below) := fun o => (hD.alloc o).c6
  have hk : Hid (∀ o, KeptD bv db w (w.alloc o)) := fun o => KeptD.below ((Below.refl _ _).alloc (Nat.le_of_lt hdl) o) (vatBelow hV ((Below.refl _ _).alloc (Nat.le_refl _) o) hV.lt)
  have HV : Hid (VAt w bv V) := hV
  clear hD hV
  unfold opD
  rw [hon] at c0
  have hA1 : decide (A < 0) = true := decide_eq_true hA0
  clear hvb
  go_enter Try.func17, Try.ntmps17
  go_wp2_with fail
  go_ret
  exact ⟨rfl, hk.out _⟩

set_option maxRecDepth 100000 in
set_option maxHeartbeats 4000000 in
theorem dd_big (bv db : Nat) (D : Dv) (vb vt vc : Value) (V : VS) (K A B C : Int) (S T : List UInt8) (w : World) (hD : DAt w db D vb vt vc) (hV : VAt w bv V) (hbv : bv < db) (hon : D.on = true) (hA0 : 0 ≤ A) (hA5 : 255 < A) :
    Calls Try.prog 17 #[.pointer (some ⟨bv, 0, none⟩), .pointer (some ⟨db, 0, none⟩), opD K A B C S T] w fun e w' => RRes bv db w e w' := by
  obtain ⟨va, vcap, hvb⟩ : ∃ a cap, vb = .slice a D.body.length cap := by
    rcases hD.ob.2 with ⟨h0, h1⟩ | ⟨g, cap, cur, h0, _⟩
    · exact ⟨none, 0, by rw [h0, h1]⟩
    · exact ⟨_, cap, h0⟩
  have HD : Hid (DAt w db D vb vt vc) := hD
  have hdl := hD.lt
  have c0 : ∀ o, (w.alloc o).cell? ⟨db, 0, none⟩ = some (.bool D.on) := fun o => (hD.alloc o).c0
  have c2 : ∀ o, (w.alloc o).cell? ⟨db, 2, none⟩ = some (.slice va D.body.length vcap) := fun o => hvb ▸ (hD.alloc o).c2
  have c6 : ∀ o, (w.alloc o).cell? ⟨db, 6, none⟩ = some (.int .i64 D.below) := fun o => (hD.alloc o).c6
  have hk : Hid (∀ o, KeptD bv db w (w.alloc o)) := fun o => KeptD.below ((Below.refl _ _).alloc (Nat.le_of_lt hdl) o) (vatBelow hV ((Below.refl _ _).alloc (Nat.le_refl _) o) hV.lt)
  have HV : Hid (VAt w bv V) := hV
  clear hD hV
  unfold opD
  rw [hon] at c0
  have hA1 : decide (A < 0) = false := decide_eq_false (by omega)
  have hA2 : decide (255 < A) = true := decide_eq_true hA5
  clear hvb
  go_enter Try.func17, Try.ntmps17
  go_wp2_with fail
  go_ret
  exact ⟨rfl, hk.out _⟩

set_option maxRecDepth 100000 in
set_option maxHeartbeats 4000000 in
theorem dd_full (bv db : Nat) (D : Dv) (vb vt vc : Value) (V : VS) (K A B C : Int) (S T : List UInt8) (w : World) (hD : DAt w db D vb vt vc) (hV : VAt w bv V) (hbv : bv < db) (hon : D.on = true) (hA0 : 0 ≤ A) (hA5 : A ≤ 255) (h93 : 93 ≤ D.body.length) :
    Calls Try.prog 17 #[.pointer (some ⟨bv, 0, none⟩), .pointer (some ⟨db, 0, none⟩), opD K A B C S T] w fun e w' => RRes bv db w e w' := by
  obtain ⟨va, vcap, hvb⟩ : ∃ a cap, vb = .slice a D.body.length cap := by
    rcases hD.ob.2 with ⟨h0, h1⟩ | ⟨g, cap, cur, h0, _⟩
    · exact ⟨none, 0, by rw [h0, h1]⟩
    · exact ⟨_, cap, h0⟩
  have HD : Hid (DAt w db D vb vt vc) := hD
  have hdl := hD.lt
  have c0 : ∀ o, (w.alloc o).cell? ⟨db, 0, none⟩ = some (.bool D.on) := fun o => (hD.alloc o).c0
  have c2 : ∀ o, (w.alloc o).cell? ⟨db, 2, none⟩ = some (.slice va D.body.length vcap) := fun o => hvb ▸ (hD.alloc o).c2
  have c6 : ∀ o, (w.alloc o).cell? ⟨db, 6, none⟩ = some (.int .i64 D.below) := fun o => (hD.alloc o).c6
  have hk : Hid (∀ o, KeptD bv db w (w.alloc o)) := fun o => KeptD.below ((Below.refl _ _).alloc (Nat.le_of_lt hdl) o) (vatBelow hV ((Below.refl _ _).alloc (Nat.le_refl _) o) hV.lt)
  have HV : Hid (VAt w bv V) := hV
  clear hD hV
  unfold opD
  rw [hon] at c0
  have hA1 : decide (A < 0) = false := decide_eq_false (by omega)
  have hA2 : decide (255 < A) = false := decide_eq_false (by omega)
  have h93i : (93 : Int) ≤ D.body.length := by omega
  clear hvb
  go_enter Try.func17, Try.ntmps17
  go_wp2_with fail
  go_ret
  exact ⟨rfl, hk.out _⟩

set_option maxRecDepth 100000 in
set_option maxHeartbeats 4000000 in
theorem dd_high (bv db : Nat) (D : Dv) (vb vt vc : Value) (V : VS) (K A B C : Int) (S T : List UInt8) (w : World) (hD : DAt w db D vb vt vc) (hV : VAt w bv V) (hbv : bv < db) (hon : D.on = true) (hA0 : 0 ≤ A) (hA5 : A ≤ 255) (h93 : D.body.length < 93) (h10 : 10 ≤ D.below) :
    Calls Try.prog 17 #[.pointer (some ⟨bv, 0, none⟩), .pointer (some ⟨db, 0, none⟩), opD K A B C S T] w fun e w' => RRes bv db w e w' := by
  obtain ⟨va, vcap, hvb⟩ : ∃ a cap, vb = .slice a D.body.length cap := by
    rcases hD.ob.2 with ⟨h0, h1⟩ | ⟨g, cap, cur, h0, _⟩
    · exact ⟨none, 0, by rw [h0, h1]⟩
    · exact ⟨_, cap, h0⟩
  have HD : Hid (DAt w db D vb vt vc) := hD
  have hdl := hD.lt
  have c0 : ∀ o, (w.alloc o).cell? ⟨db, 0, none⟩ = some (.bool D.on) := fun o => (hD.alloc o).c0
  have c2 : ∀ o, (w.alloc o).cell? ⟨db, 2, none⟩ = some (.slice va D.body.length vcap) := fun o => hvb ▸ (hD.alloc o).c2
  have c6 : ∀ o, (w.alloc o).cell? ⟨db, 6, none⟩ = some (.int .i64 D.below) := fun o => (hD.alloc o).c6
  have hk : Hid (∀ o, KeptD bv db w (w.alloc o)) := fun o => KeptD.below ((Below.refl _ _).alloc (Nat.le_of_lt hdl) o) (vatBelow hV ((Below.refl _ _).alloc (Nat.le_refl _) o) hV.lt)
  have HV : Hid (VAt w bv V) := hV
  clear hD hV
  unfold opD
  rw [hon] at c0
  have hA1 : decide (A < 0) = false := decide_eq_false (by omega)
  have hA2 : decide (255 < A) = false := decide_eq_false (by omega)
  have h93i : (D.body.length : Int) < 93 := by omega
  have h10i : (10 : Int) ≤ D.below := by omega
  clear hvb
  go_enter Try.func17, Try.ntmps17
  go_wp2_with fail
  go_ret
  exact ⟨rfl, hk.out _⟩

set_option maxRecDepth 100000 in
set_option maxHeartbeats 4000000 in
theorem dd_len (bv db : Nat) (D : Dv) (vb vt vc : Value) (V : VS) (K A B C : Int) (S T : List UInt8) (w : World) (hD : DAt w db D vb vt vc) (hV : VAt w bv V) (hbv : bv < db) (hon : D.on = true) (hA0 : 0 ≤ A) (hA5 : A ≤ 255) (h93 : D.body.length < 93) (h10 : D.below < 10) (hS : S.length ≠ 1) :
    Calls Try.prog 17 #[.pointer (some ⟨bv, 0, none⟩), .pointer (some ⟨db, 0, none⟩), opD K A B C S T] w fun e w' => RRes bv db w e w' := by
  obtain ⟨va, vcap, hvb⟩ : ∃ a cap, vb = .slice a D.body.length cap := by
    rcases hD.ob.2 with ⟨h0, h1⟩ | ⟨g, cap, cur, h0, _⟩
    · exact ⟨none, 0, by rw [h0, h1]⟩
    · exact ⟨_, cap, h0⟩
  have HD : Hid (DAt w db D vb vt vc) := hD
  have hdl := hD.lt
  have c0 : ∀ o, (w.alloc o).cell? ⟨db, 0, none⟩ = some (.bool D.on) := fun o => (hD.alloc o).c0
  have c2 : ∀ o, (w.alloc o).cell? ⟨db, 2, none⟩ = some (.slice va D.body.length vcap) := fun o => hvb ▸ (hD.alloc o).c2
  have c6 : ∀ o, (w.alloc o).cell? ⟨db, 6, none⟩ = some (.int .i64 D.below) := fun o => (hD.alloc o).c6
  have hk : Hid (∀ o, KeptD bv db w (w.alloc o)) := fun o => KeptD.below ((Below.refl _ _).alloc (Nat.le_of_lt hdl) o) (vatBelow hV ((Below.refl _ _).alloc (Nat.le_refl _) o) hV.lt)
  have HV : Hid (VAt w bv V) := hV
  clear hD hV
  unfold opD
  rw [hon] at c0
  have hA1 : decide (A < 0) = false := decide_eq_false (by omega)
  have hA2 : decide (255 < A) = false := decide_eq_false (by omega)
  have h93i : (D.body.length : Int) < 93 := by omega
  have h10i : (D.below : Int) < 10 := by omega
  have g1 : ((S.length : Int) != 1) = true := by rw [bne_iff_ne]; omega
  clear hS
  clear hvb
  go_enter Try.func17, Try.ntmps17
  go_wp2_with fail
  go_ret
  exact ⟨rfl, hk.out _⟩

set_option maxRecDepth 100000 in
set_option maxHeartbeats 4000000 in
theorem dd_val (bv db : Nat) (D : Dv) (vb vt vc : Value) (V : VS) (K A B C : Int) (S T : List UInt8) (w : World) (hD : DAt w db D vb vt vc) (hV : VAt w bv V) (hbv : bv < db) (hon : D.on = true) (hA0 : 0 ≤ A) (hA5 : A ≤ 255) (h93 : D.body.length < 93) (h10 : D.below < 10) (hS : S.length = 1) (hv : isValF ((S.getD 0 0).toNat : Int) = false) :
    Calls Try.prog 17 #[.pointer (some ⟨bv, 0, none⟩), .pointer (some ⟨db, 0, none⟩), opD K A B C S T] w fun e w' => RRes bv db w e w' := by
  obtain ⟨va, vcap, hvb⟩ : ∃ a cap, vb = .slice a D.body.length cap := by
    rcases hD.ob.2 with ⟨h0, h1⟩ | ⟨g, cap, cur, h0, _⟩
    · exact ⟨none, 0, by rw [h0, h1]⟩
    · exact ⟨_, cap, h0⟩
  have HD : Hid (DAt w db D vb vt vc) := hD
  have hdl := hD.lt
  have c0 : ∀ o, (w.alloc o).cell? ⟨db, 0, none⟩ = some (.bool D.on) := fun o => (hD.alloc o).c0
  have c2 : ∀ o, (w.alloc o).cell? ⟨db, 2, none⟩ = some (.slice va D.body.length vcap) := fun o => hvb ▸ (hD.alloc o).c2
  have c6 : ∀ o, (w.alloc o).cell? ⟨db, 6, none⟩ = some (.int .i64 D.below) := fun o => (hD.alloc o).c6
  have hk : Hid (∀ o, KeptD bv db w (w.alloc o)) := fun o => KeptD.below ((Below.refl _ _).alloc (Nat.le_of_lt hdl) o) (vatBelow hV ((Below.refl _ _).alloc (Nat.le_refl _) o) hV.lt)
  have HV : Hid (VAt w bv V) := hV
  clear hD hV
  unfold opD
  rw [hon] at c0
  have hA1 : decide (A < 0) = false := decide_eq_false (by omega)
  have hA2 : decide (255 < A) = false := decide_eq_false (by omega)
  have h93i : (D.body.length : Int) < 93 := by omega
  have h10i : (D.below : Int) < 10 := by omega
  obtain ⟨cS, rfl⟩ : ∃ cS, S = [cS] := by
    match S, hS with
    | [cS], _ => exact ⟨cS, rfl⟩
  have HVl : ∀ wx, Calls Try.prog 24 #[.int .u8 (cS.toNat : Int)] wx _ := fun wx => isVal_any (cS.toNat : Int) wx
  simp only [List.getD_cons_zero] at hv
  rw [hv] at HVl
  clear hS hv
  clear hvb
  go_enter Try.func17, Try.ntmps17
  go_wp2_with (go_at_call 24; refine (HVl _).mono ?_; rintro e w5 ⟨rfl, h51⟩; have h52 := h51.symm; clear h51; subst h52)
  go_ret
  exact ⟨rfl, hk.out _⟩

set_option maxRecDepth 100000 in
set_option maxHeartbeats 4000000 in
theorem dd_imm (bv db : Nat) (D : Dv) (vb vt vc : Value) (V : VS) (K A B C : Int) (S T : List UInt8) (w : World) (hD : DAt w db D vb vt vc) (hV : VAt w bv V) (hbv : bv < db) (hon : D.on = true) (hA0 : 0 ≤ A) (hA5 : A ≤ 255) (h93 : D.body.length < 93) (h10 : D.below < 10) (hS : S.length = 1) (hv : isValF ((S.getD 0 0).toNat : Int) = true) (hA36 : A = 36) (hB3 : B = 3) :
    Calls Try.prog 17 #[.pointer (some ⟨bv, 0, none⟩), .pointer (some ⟨db, 0, none⟩), opD K A B C S T] w fun e w' => RRes bv db w e w' := by
  obtain ⟨va, vcap, hvb⟩ : ∃ a cap, vb = .slice a D.body.length cap := by
    rcases hD.ob.2 with ⟨h0, h1⟩ | ⟨g, cap, cur, h0, _⟩
    · exact ⟨none, 0, by rw [h0, h1]⟩
    · exact ⟨_, cap, h0⟩
  have HD : Hid (DAt w db D vb vt vc) := hD
  have hdl := hD.lt
  have c0 : ∀ o, (w.alloc o).cell? ⟨db, 0, none⟩ = some (.bool D.on) := fun o => (hD.alloc o).c0
  have c2 : ∀ o, (w.alloc o).cell? ⟨db, 2, none⟩ = some (.slice va D.body.length vcap) := fun o => hvb ▸ (hD.alloc o).c2
  have c6 : ∀ o, (w.alloc o).cell? ⟨db, 6, none⟩ = some (.int .i64 D.below) := fun o => (hD.alloc o).c6
  have hk : Hid (∀ o, KeptD bv db w (w.alloc o)) := fun o => KeptD.below ((Below.refl _ _).alloc (Nat.le_of_lt hdl) o) (vatBelow hV ((Below.refl _ _).alloc (Nat.le_refl _) o) hV.lt)
  have HV : Hid (VAt w bv V) := hV
  clear hD hV
  unfold opD
  rw [hon] at c0
  have hA1 : decide (A < 0) = false := decide_eq_false (by omega)
  have hA2 : decide (255 < A) = false := decide_eq_false (by omega)
  have h93i : (D.body.length : Int) < 93 := by omega
  have h10i : (D.below : Int) < 10 := by omega
  obtain ⟨cS, rfl⟩ : ∃ cS, S = [cS] := by
    match S, hS with
    | [cS], _ => exact ⟨cS, rfl⟩
  have HVl : ∀ wx, Calls Try.prog 24 #[.int .u8 (cS.toNat : Int)] wx _ := fun wx => isVal_any (cS.toNat : Int) wx
  simp only [List.getD_cons_zero] at hv
  rw [hv] at HVl
  subst hA36
  subst hB3
  clear hS hv hA1 hA2 hA0 hA5
  clear hvb
  go_enter Try.func17, Try.ntmps17
  go_wp2_with (go_at_call 24; refine (HVl _).mono ?_; rintro e w5 ⟨rfl, h51⟩; have h52 := h51.symm; clear h51; subst h52)
  go_ret
  exact ⟨rfl, hk.out _⟩

end Go.Proofs.Qxb6500273a
