/-
  Refused: its head.
-/
import Derived.Test.Qxb6500273aRf0
import Derived.BigQuiet
set_option linter.unusedVariables false
set_option linter.unusedSimpArgs false
namespace Go.Proofs.Qxb6500273a
open Go.RowKit

set_option maxRecDepth 100000 in
set_option maxHeartbeats 4000000 in
theorem ref_off (bv db : Nat) (D : Dv) (vb vt vc : Value) (V : VS) (K A B C : Int) (S T : List UInt8) (w : World) (hD : DAt w db D vb vt vc) (hV : VAt w bv V) (hbv : bv < db) (hon : D.on = false) :
    Calls Try.prog 16 #[.pointer (some ⟨bv, 0, none⟩), .pointer (some ⟨db, 0, none⟩), opD K A B C S T] w fun e w' => RRes bv db w e w' := by
  obtain ⟨va, vcap, hvb⟩ : ∃ a cap, vb = .slice a D.body.length cap := by
    rcases hD.ob.2 with ⟨h0, h1⟩ | ⟨g, cap, cur, h0, _⟩
    · exact ⟨none, 0, by rw [h0, h1]⟩
    · exact ⟨_, cap, h0⟩
  have HD : Hid (DAt w db D vb vt vc) := hD
  have hdl := hD.lt
  have c0 : ∀ o, (w.alloc o).cell? ⟨db, 0, none⟩ = some (.bool D.on) := fun o => (hD.alloc o).c0
  have c2 : ∀ o, (w.alloc o).cell? ⟨db, 2, none⟩ = some (.slice va D.body.length vcap) := fun o => hvb ▸ (hD.alloc o).c2
  have hk : Hid (∀ o, KeptD bv db w (w.alloc o)) := fun o => KeptD.below ((Below.refl _ _).alloc (Nat.le_of_lt hdl) o) (vatBelow hV ((Below.refl _ _).alloc (Nat.le_refl _) o) hV.lt)
  have HV : Hid (VAt w bv V) := hV
  clear hD hvb hV
  unfold opD
  rw [hon] at c0
  clear hon
  go_enter Try.func16, Try.ntmps16
  go_wp2
  go_ret
  exact ⟨rfl, hk.out _⟩

set_option maxRecDepth 100000 in
set_option maxHeartbeats 4000000 in
theorem ref_neg (bv db : Nat) (D : Dv) (vb vt vc : Value) (V : VS) (K A B C : Int) (S T : List UInt8) (w : World) (hD : DAt w db D vb vt vc) (hV : VAt w bv V) (hbv : bv < db) (hon : D.on = true) (hA0 : A < 0) :
    Calls Try.prog 16 #[.pointer (some ⟨bv, 0, none⟩), .pointer (some ⟨db, 0, none⟩), opD K A B C S T] w fun e w' => RRes bv db w e w' := by
  obtain ⟨va, vcap, hvb⟩ : ∃ a cap, vb = .slice a D.body.length cap := by
    rcases hD.ob.2 with ⟨h0, h1⟩ | ⟨g, cap, cur, h0, _⟩
    · exact ⟨none, 0, by rw [h0, h1]⟩
    · exact ⟨_, cap, h0⟩
  have HD : Hid (DAt w db D vb vt vc) := hD
  have hdl := hD.lt
  have c0 : ∀ o, (w.alloc o).cell? ⟨db, 0, none⟩ = some (.bool D.on) := fun o => (hD.alloc o).c0
  have c2 : ∀ o, (w.alloc o).cell? ⟨db, 2, none⟩ = some (.slice va D.body.length vcap) := fun o => hvb ▸ (hD.alloc o).c2
  have hk : Hid (∀ o, KeptD bv db w (w.alloc o)) := fun o => KeptD.below ((Below.refl _ _).alloc (Nat.le_of_lt hdl) o) (vatBelow hV ((Below.refl _ _).alloc (Nat.le_refl _) o) hV.lt)
  have HV : Hid (VAt w bv V) := hV
  clear hD hvb hV
  unfold opD
  rw [hon] at c0
  have hA1 : decide (A < 0) = true := decide_eq_true hA0
  clear hon
  go_enter Try.func16, Try.ntmps16
  go_wp2
  go_ret
  exact ⟨rfl, hk.out _⟩

set_option maxRecDepth 100000 in
set_option maxHeartbeats 4000000 in
theorem ref_big (bv db : Nat) (D : Dv) (vb vt vc : Value) (V : VS) (K A B C : Int) (S T : List UInt8) (w : World) (hD : DAt w db D vb vt vc) (hV : VAt w bv V) (hbv : bv < db) (hon : D.on = true) (hA0 : 0 ≤ A) (hA5 : 255 < A) :
    Calls Try.prog 16 #[.pointer (some ⟨bv, 0, none⟩), .pointer (some ⟨db, 0, none⟩), opD K A B C S T] w fun e w' => RRes bv db w e w' := by
  obtain ⟨va, vcap, hvb⟩ : ∃ a cap, vb = .slice a D.body.length cap := by
    rcases hD.ob.2 with ⟨h0, h1⟩ | ⟨g, cap, cur, h0, _⟩
    · exact ⟨none, 0, by rw [h0, h1]⟩
    · exact ⟨_, cap, h0⟩
  have HD : Hid (DAt w db D vb vt vc) := hD
  have hdl := hD.lt
  have c0 : ∀ o, (w.alloc o).cell? ⟨db, 0, none⟩ = some (.bool D.on) := fun o => (hD.alloc o).c0
  have c2 : ∀ o, (w.alloc o).cell? ⟨db, 2, none⟩ = some (.slice va D.body.length vcap) := fun o => hvb ▸ (hD.alloc o).c2
  have hk : Hid (∀ o, KeptD bv db w (w.alloc o)) := fun o => KeptD.below ((Below.refl _ _).alloc (Nat.le_of_lt hdl) o) (vatBelow hV ((Below.refl _ _).alloc (Nat.le_refl _) o) hV.lt)
  have HV : Hid (VAt w bv V) := hV
  clear hD hvb hV
  unfold opD
  rw [hon] at c0
  have hA1 : decide (A < 0) = false := decide_eq_false (by omega)
  have hA2 : decide (255 < A) = true := decide_eq_true hA5
  clear hon
  go_enter Try.func16, Try.ntmps16
  go_wp2
  go_ret
  exact ⟨rfl, hk.out _⟩

set_option maxRecDepth 100000 in
set_option maxHeartbeats 4000000 in
theorem ref_full (bv db : Nat) (D : Dv) (vb vt vc : Value) (V : VS) (K A B C : Int) (S T : List UInt8) (w : World) (hD : DAt w db D vb vt vc) (hV : VAt w bv V) (hbv : bv < db) (hon : D.on = true) (hA0 : 0 ≤ A) (hA5 : A ≤ 255) (h95 : 95 ≤ D.body.length) :
    Calls Try.prog 16 #[.pointer (some ⟨bv, 0, none⟩), .pointer (some ⟨db, 0, none⟩), opD K A B C S T] w fun e w' => RRes bv db w e w' := by
  obtain ⟨va, vcap, hvb⟩ : ∃ a cap, vb = .slice a D.body.length cap := by
    rcases hD.ob.2 with ⟨h0, h1⟩ | ⟨g, cap, cur, h0, _⟩
    · exact ⟨none, 0, by rw [h0, h1]⟩
    · exact ⟨_, cap, h0⟩
  have HD : Hid (DAt w db D vb vt vc) := hD
  have hdl := hD.lt
  have c0 : ∀ o, (w.alloc o).cell? ⟨db, 0, none⟩ = some (.bool D.on) := fun o => (hD.alloc o).c0
  have c2 : ∀ o, (w.alloc o).cell? ⟨db, 2, none⟩ = some (.slice va D.body.length vcap) := fun o => hvb ▸ (hD.alloc o).c2
  have hk : Hid (∀ o, KeptD bv db w (w.alloc o)) := fun o => KeptD.below ((Below.refl _ _).alloc (Nat.le_of_lt hdl) o) (vatBelow hV ((Below.refl _ _).alloc (Nat.le_refl _) o) hV.lt)
  have HV : Hid (VAt w bv V) := hV
  clear hD hvb hV
  unfold opD
  rw [hon] at c0
  have hA1 : decide (A < 0) = false := decide_eq_false (by omega)
  have hA2 : decide (255 < A) = false := decide_eq_false (by omega)
  have h95i : (95 : Int) ≤ D.body.length := by omega
  clear hon h95
  go_enter Try.func16, Try.ntmps16
  go_wp2
  go_ret
  exact ⟨rfl, hk.out _⟩

set_option maxRecDepth 100000 in
set_option maxHeartbeats 4000000 in
theorem ref_in (bv db : Nat) (D : Dv) (vb vt vc : Value) (V : VS) (K A B C : Int) (S T : List UInt8) (w : World) (hD : DAt w db D vb vt vc) (hV : VAt w bv V) (hbv : bv < db) (hb : DBnd D) (hon : D.on = true) (hA0 : 0 ≤ A) (hA5 : A ≤ 255) (h95 : D.body.length < 95)
    (hG : ∀ W b5 b8, RfW w W bv db b5 b8 D vb vt vc V K A B C S T ⟨A, (namelessL D A B).1, 0⟩ → RGoal 5 w W bv db b5 b8 D.body.length (namelessL D A B).2 (!(namelessL D A B).2 == 0)) :
    Calls Try.prog 16 #[.pointer (some ⟨bv, 0, none⟩), .pointer (some ⟨db, 0, none⟩), opD K A B C S T] w fun e w' => RRes bv db w e w' := by
  obtain ⟨va, vcap, hvb⟩ : ∃ a cap, vb = .slice a D.body.length cap := by
    rcases hD.ob.2 with ⟨h0, h1⟩ | ⟨g, cap, cur, h0, _⟩
    · exact ⟨none, 0, by rw [h0, h1]⟩
    · exact ⟨_, cap, h0⟩
  have HD : Hid (DAt w db D vb vt vc) := hD
  have hdl := hD.lt
  have c0 : ∀ o, (w.alloc o).cell? ⟨db, 0, none⟩ = some (.bool D.on) := fun o => (hD.alloc o).c0
  have c2 : ∀ o, (w.alloc o).cell? ⟨db, 2, none⟩ = some (.slice va D.body.length vcap) := fun o => hvb ▸ (hD.alloc o).c2
  have hk : Hid (∀ o, KeptD bv db w (w.alloc o)) := fun o => KeptD.below ((Below.refl _ _).alloc (Nat.le_of_lt hdl) o) (vatBelow hV ((Below.refl _ _).alloc (Nat.le_refl _) o) hV.lt)
  have HV : Hid (VAt w bv V) := hV
  clear hD hvb hV
  unfold opD
  rw [hon] at c0
  have hA1 : decide (A < 0) = false := decide_eq_false (by omega)
  have hA2 : decide (255 < A) = false := decide_eq_false (by omega)
  have h95i : (D.body.length : Int) < 95 := by omega
  have HG : Hid (∀ W b5 b8, RfW w W bv db b5 b8 D vb vt vc V K A B C S T ⟨A, (namelessL D A B).1, 0⟩ → RGoal 5 w W bv db b5 b8 D.body.length (namelessL D A B).2 (!(namelessL D A B).2 == 0)) := hG
  have HN : ∀ o, _ := fun o => nameless_any db D vb vt vc K A B C S T (w.alloc o) (HD.out.alloc o) hb hA0 hA5
  unfold opD at HN
  generalize hnn : namelessL D A B = nn at *
  obtain ⟨nX, nE⟩ := nn
  simp only [] at HN HG
  clear hnn hG hon h95 hb hk
  go_enter Try.func16, Try.ntmps16
  go_upto_region 5 with (go_at_call 31; refine (HN _).mono ?_; rintro e w1 ⟨rfl, hb1⟩)
  have a1 := World.cell?_alloc_new w #[.int .i64 K, .int .i64 A, .int .i64 B, .int .i64 C, .string ⟨S.toArray⟩, .string ⟨T.toArray⟩] 34
  have kl : w.heap.size < (w.alloc (.cells #[.int .i64 K, .int .i64 A, .int .i64 B, .int .i64 C, .string ⟨S.toArray⟩, .string ⟨T.toArray⟩] 34)).heap.size := by simp
  have hw1 : Below w.heap.size w w1 := ((Below.refl _ _).alloc (Nat.le_refl _) _).trans (hb1.mono (by simp))
  have kc : ∀ j, w1.cell? ⟨w.heap.size, j, none⟩ = (#[.int .i64 K, .int .i64 A, .int .i64 B, .int .i64 C, .string ⟨S.toArray⟩, .string ⟨T.toArray⟩] : Array Value)[j]? := fun j => (hb1.cell (p := ⟨w.heap.size, j, none⟩) kl).trans (a1 j)
  have hsz : w.heap.size < w1.heap.size := Nat.lt_of_lt_of_le kl hb1.size
  have HW : Hid (RfW w (w1.alloc (.cells #[.int .u8 A, .int .u32 nX, .int .u64 0] 42)) bv db w.heap.size w1.heap.size D vb vt vc V K A B C S T ⟨A, nX, 0⟩) := by
    have a2 := World.cell?_alloc_new w1 #[.int .u8 A, .int .u32 nX, .int .u64 0] 42
    have z2 := fun o => World.frozen?_alloc_at (w := w1) #[.int .u8 A, .int .u32 nX, .int .u64 0] 42 _ o rfl
    exact ⟨hw1.alloc hw1.size _, HD.out, HV.out, hbv, Nat.le_refl _, hsz, by simp, (oldc hsz).trans (kc 0), (oldc hsz).trans (kc 1), (oldc hsz).trans (kc 2), (oldc hsz).trans (kc 3), (oldc hsz).trans (kc 4), (oldc hsz).trans (kc 5), a2 0, a2 1, a2 2, z2⟩
  clear a1 kl hw1 kc hsz HN hb1 c0 c2 HD HV
  generalize (w1.alloc (.cells #[.int .u8 A, .int .u32 nX, .int .u64 0] 42)) = W at *
  go_cut [10] from 51 to 52 (fun s10 wc => s10 = .bool (!nE == 0) ∧ wc = W)
  case first =>
    go_wp2_with fail
    go_meet
    exact ⟨rfl, rfl⟩
  case rest =>
    obtain ⟨rfl, rfl⟩ := hcut
    refine (by assumption : ∀ (a : Act) (w : World), Code.wp Try.prog _ _ a w → _) _ _ ?_
    refine HG.out _ _ _ HW.out _ _ rfl ?_
    exact ⟨rfl, rfl, rfl, rfl, rfl, rfl, rfl, rfl, rfl, rfl⟩

end Go.Proofs.Qxb6500273a
