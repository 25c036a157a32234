/-
  lay: its head.
-/
import Derived.Test.Qxb6500273aLy0
import Derived.Deep.CutRange
set_option linter.unusedVariables false
set_option linter.unusedSimpArgs false
namespace Go.Proofs.Qxb6500273a
open Go.RowKit

set_option maxRecDepth 100000 in
set_option maxHeartbeats 4000000 in
theorem lay_off (db : Nat) (D : Dv) (vb vt vc : Value) (K A B C : Int) (S T : List UInt8) (w : World) (hD : DAt w db D vb vt vc) (hon : D.on = false) :
    Calls Try.prog 10 #[.pointer (some ⟨db, 0, none⟩), opD K A B C S T] w fun e w' => LayRes db w D A B e w' := by
  obtain ⟨va, vcap, hvb⟩ : ∃ a cap, vb = .slice a D.body.length cap := by
    rcases hD.ob.2 with ⟨h0, h1⟩ | ⟨g, cap, cur, h0, _⟩
    · exact ⟨none, 0, by rw [h0, h1]⟩
    · exact ⟨_, cap, h0⟩
  have HD : Hid (DAt w db D vb vt vc) := hD
  have hdl := hD.lt
  have c0 : ∀ o, (w.alloc o).cell? ⟨db, 0, none⟩ = some (.bool D.on) := fun o => (hD.alloc o).c0
  have c2 : ∀ o, (w.alloc o).cell? ⟨db, 2, none⟩ = some (.slice va D.body.length vcap) := fun o => hvb ▸ (hD.alloc o).c2
  have hbo : Hid (∀ o, Below db w (w.alloc o)) := fun o => (Below.refl _ _).alloc (Nat.le_of_lt hdl) o
  have hao : Hid (∀ o, DAt (w.alloc o) db D vb vt vc) := fun o => hD.alloc o
  clear hD hvb
  unfold opD
  rw [hon] at c0
  have hL : Hid (layL D A B 0 = D) := show layL D A B 0 = D from if_pos (.inl hon)
  clear hon
  go_enter Try.func10, Try.ntmps10
  go_wp2
  try simp only [Exit.inBlock, Exit.then]
  refine bodyPost_ret (results_none rfl _ _ _) rfl ⟨rfl, ⟨0, vb, vt, vc, ?_⟩, hbo.out _⟩
  rw [hL.out]; exact hao.out _

set_option maxRecDepth 100000 in
set_option maxHeartbeats 4000000 in
theorem lay_full (db : Nat) (D : Dv) (vb vt vc : Value) (K A B C : Int) (S T : List UInt8) (w : World) (hD : DAt w db D vb vt vc) (hon : D.on = true) (h95 : 95 ≤ D.body.length) :
    Calls Try.prog 10 #[.pointer (some ⟨db, 0, none⟩), opD K A B C S T] w fun e w' => LayRes db w D A B e w' := by
  obtain ⟨va, vcap, hvb⟩ : ∃ a cap, vb = .slice a D.body.length cap := by
    rcases hD.ob.2 with ⟨h0, h1⟩ | ⟨g, cap, cur, h0, _⟩
    · exact ⟨none, 0, by rw [h0, h1]⟩
    · exact ⟨_, cap, h0⟩
  have HD : Hid (DAt w db D vb vt vc) := hD
  have hdl := hD.lt
  have c0 : ∀ o, (w.alloc o).cell? ⟨db, 0, none⟩ = some (.bool D.on) := fun o => (hD.alloc o).c0
  have c2 : ∀ o, (w.alloc o).cell? ⟨db, 2, none⟩ = some (.slice va D.body.length vcap) := fun o => hvb ▸ (hD.alloc o).c2
  have hbo : Hid (∀ o, Below db w (w.alloc o)) := fun o => (Below.refl _ _).alloc (Nat.le_of_lt hdl) o
  have hao : Hid (∀ o, DAt (w.alloc o) db D vb vt vc) := fun o => hD.alloc o
  clear hD hvb
  unfold opD
  rw [hon] at c0
  have hL : Hid (layL D A B 0 = D) := show layL D A B 0 = D from if_pos (.inr (.inl h95))
  have h95i : (95 : Int) ≤ D.body.length := by omega
  clear hon h95
  go_enter Try.func10, Try.ntmps10
  go_wp2
  try simp only [Exit.inBlock, Exit.then]
  refine bodyPost_ret (results_none rfl _ _ _) rfl ⟨rfl, ⟨0, vb, vt, vc, ?_⟩, hbo.out _⟩
  rw [hL.out]; exact hao.out _

set_option maxRecDepth 100000 in
set_option maxHeartbeats 4000000 in
theorem lay_neg (db : Nat) (D : Dv) (vb vt vc : Value) (K A B C : Int) (S T : List UInt8) (w : World) (hD : DAt w db D vb vt vc) (hon : D.on = true) (h95 : D.body.length < 95) (hA0 : A < 0) :
    Calls Try.prog 10 #[.pointer (some ⟨db, 0, none⟩), opD K A B C S T] w fun e w' => LayRes db w D A B e w' := by
  obtain ⟨va, vcap, hvb⟩ : ∃ a cap, vb = .slice a D.body.length cap := by
    rcases hD.ob.2 with ⟨h0, h1⟩ | ⟨g, cap, cur, h0, _⟩
    · exact ⟨none, 0, by rw [h0, h1]⟩
    · exact ⟨_, cap, h0⟩
  have HD : Hid (DAt w db D vb vt vc) := hD
  have hdl := hD.lt
  have c0 : ∀ o, (w.alloc o).cell? ⟨db, 0, none⟩ = some (.bool D.on) := fun o => (hD.alloc o).c0
  have c2 : ∀ o, (w.alloc o).cell? ⟨db, 2, none⟩ = some (.slice va D.body.length vcap) := fun o => hvb ▸ (hD.alloc o).c2
  have hbo : Hid (∀ o, Below db w (w.alloc o)) := fun o => (Below.refl _ _).alloc (Nat.le_of_lt hdl) o
  have hao : Hid (∀ o, DAt (w.alloc o) db D vb vt vc) := fun o => hD.alloc o
  clear hD hvb
  unfold opD
  rw [hon] at c0
  have hL : Hid (layL D A B 0 = D) := show layL D A B 0 = D from if_pos (.inr (.inr (.inl hA0)))
  have h95i : (D.body.length : Int) < 95 := by omega
  have hA1 : decide (A < 0) = true := decide_eq_true hA0
  clear hon h95
  go_enter Try.func10, Try.ntmps10
  go_wp2
  try simp only [Exit.inBlock, Exit.then]
  refine bodyPost_ret (results_none rfl _ _ _) rfl ⟨rfl, ⟨0, vb, vt, vc, ?_⟩, hbo.out _⟩
  rw [hL.out]; exact hao.out _

set_option maxRecDepth 100000 in
set_option maxHeartbeats 4000000 in
theorem lay_big (db : Nat) (D : Dv) (vb vt vc : Value) (K A B C : Int) (S T : List UInt8) (w : World) (hD : DAt w db D vb vt vc) (hon : D.on = true) (h95 : D.body.length < 95) (hA0 : 0 ≤ A) (hA5 : 255 < A) :
    Calls Try.prog 10 #[.pointer (some ⟨db, 0, none⟩), opD K A B C S T] w fun e w' => LayRes db w D A B e w' := by
  obtain ⟨va, vcap, hvb⟩ : ∃ a cap, vb = .slice a D.body.length cap := by
    rcases hD.ob.2 with ⟨h0, h1⟩ | ⟨g, cap, cur, h0, _⟩
    · exact ⟨none, 0, by rw [h0, h1]⟩
    · exact ⟨_, cap, h0⟩
  have HD : Hid (DAt w db D vb vt vc) := hD
  have hdl := hD.lt
  have c0 : ∀ o, (w.alloc o).cell? ⟨db, 0, none⟩ = some (.bool D.on) := fun o => (hD.alloc o).c0
  have c2 : ∀ o, (w.alloc o).cell? ⟨db, 2, none⟩ = some (.slice va D.body.length vcap) := fun o => hvb ▸ (hD.alloc o).c2
  have hbo : Hid (∀ o, Below db w (w.alloc o)) := fun o => (Below.refl _ _).alloc (Nat.le_of_lt hdl) o
  have hao : Hid (∀ o, DAt (w.alloc o) db D vb vt vc) := fun o => hD.alloc o
  clear hD hvb
  unfold opD
  rw [hon] at c0
  have hL : Hid (layL D A B 0 = D) := show layL D A B 0 = D from if_pos (.inr (.inr (.inr hA5)))
  have h95i : (D.body.length : Int) < 95 := by omega
  have hA1 : decide (A < 0) = false := decide_eq_false (by omega)
  have hA2 : decide (255 < A) = true := decide_eq_true hA5
  clear hon h95
  go_enter Try.func10, Try.ntmps10
  go_wp2
  try simp only [Exit.inBlock, Exit.then]
  refine bodyPost_ret (results_none rfl _ _ _) rfl ⟨rfl, ⟨0, vb, vt, vc, ?_⟩, hbo.out _⟩
  rw [hL.out]; exact hao.out _

end Go.Proofs.Qxb6500273a
