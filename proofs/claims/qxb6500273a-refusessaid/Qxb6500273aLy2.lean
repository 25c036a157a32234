/-
  lay: its head.
-/
import Derived.Test.Qxb6500273aLy0
import Derived.Deep.CutRange
set_option linter.unusedVariables false
set_option linter.unusedSimpArgs false
namespace Go.Proofs.Qxb6500273a
open Go.RowKit

/-- the goal from region 4 on -/
def LGoal4 (w W : World) (db b3 b5 : Nat) (D : Dv) (A B : Int) : Prop :=
  ∀ (c : Code) (a : Act), LTail 4 c → (a.defers = [] ∧ a.tmps.size = 522 ∧ a.tmps.getD 0 undef = .pointer (some ⟨db, 0, none⟩) ∧ a.tmps.getD 3 undef = .pointer (some ⟨b3, 0, none⟩) ∧ a.tmps.getD 4 undef = .int .i64 A ∧ a.tmps.getD 5 undef = .pointer (some ⟨b5, 0, none⟩)) → c.wp Try.prog (LPost db w D A B) a W

set_option maxRecDepth 100000 in
set_option maxHeartbeats 4000000 in
theorem lay_in1 (db : Nat) (D : Dv) (vb vt vc : Value) (K A B C : Int) (S T : List UInt8) (w : World) (hD : DAt w db D vb vt vc) (hon : D.on = true) (h95 : D.body.length < 95) (hA1 : 0 ≤ A) (hA2 : A ≤ 255)
    (hG : ∀ W b3 b5, LyW w W db b3 b5 D vb vt vc K A B C S T → LGoal4 w W db b3 b5 D A B) :
    Calls Try.prog 10 #[.pointer (some ⟨db, 0, none⟩), opD K A B C S T] w fun e w' => LayRes db w D A B e w' := by
  obtain ⟨va, vcap, hvb⟩ : ∃ a cap, vb = .slice a D.body.length cap := by
    rcases hD.ob.2 with ⟨h0, h1⟩ | ⟨g, cap, cur, h0, _⟩
    · exact ⟨none, 0, by rw [h0, h1]⟩
    · exact ⟨_, cap, h0⟩
  have HD : Hid (DAt w db D vb vt vc) := hD
  have hdl := hD.lt
  have c0 : ∀ o, (w.alloc o).cell? ⟨db, 0, none⟩ = some (.bool D.on) := fun o => (hD.alloc o).c0
  have c2 : ∀ o, (w.alloc o).cell? ⟨db, 2, none⟩ = some (.slice va D.body.length vcap) := fun o => hvb ▸ (hD.alloc o).c2
  have hbo : Hid (∀ o, Below db w (w.alloc o)) := fun o => (Below.refl _ _).alloc (Nat.le_of_lt hdl) o
  have hao : Hid (∀ o, DAt (w.alloc o) db D vb vt vc) := fun o => hD.alloc o
  clear hD hvb
  unfold opD
  rw [hon] at c0
  have HG : Hid (∀ W b3 b5, LyW w W db b3 b5 D vb vt vc K A B C S T → LGoal4 w W db b3 b5 D A B) := hG
  have h95i : (D.body.length : Int) < 95 := by omega
  have HW : Hid (LyW w ((w.alloc (.cells #[.int .i64 K, .int .i64 A, .int .i64 B, .int .i64 C, .string ⟨S.toArray⟩, .string ⟨T.toArray⟩] 34)).alloc (.cells #[.int .u8 A, .int .u32 0, .int .u64 0] 42)) db w.heap.size (w.heap.size + 1) D vb vt vc K A B C S T) := lyw0 K A B C S T HD.out
  clear hon h95 hG
  go_enter Try.func10, Try.ntmps10
  go_upto_region 3 with fail
  go_cut [5] from 51 to 53 (fun s5 wc => s5 = .pointer (some ⟨w.heap.size + 1, 0, none⟩) ∧ wc = ((w.alloc (.cells #[.int .i64 K, .int .i64 A, .int .i64 B, .int .i64 C, .string ⟨S.toArray⟩, .string ⟨T.toArray⟩] 34)).alloc (.cells #[.int .u8 A, .int .u32 0, .int .u64 0] 42)))
  case first =>
    go_wp2_with fail
    go_meet
    exact ⟨rfl, rfl⟩
  case rest =>
    obtain ⟨rfl, rfl⟩ := hcut
    refine (by assumption : ∀ (a : Act) (w : World), Code.wp Try.prog _ _ a w → _) _ _ ?_
    refine HG.out _ _ _ HW.out _ _ rfl ?_
    exact ⟨rfl, rfl, rfl, rfl, rfl, rfl⟩

end Go.Proofs.Qxb6500273a
