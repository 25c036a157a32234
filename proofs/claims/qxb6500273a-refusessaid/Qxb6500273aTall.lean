/-
  WALKS: tall.
-/
import Derived.Test.Qxb6500273aMf
set_option linter.unusedVariables false
set_option linter.unusedSimpArgs false
namespace Go.Proofs.Qxb6500273a
open Go.RowKit

/-- the rule applies, but the frame would be too high -/
def tallL (D : Dv) (A B : Int) : Bool :=
  (plainL D.t D.st A B).2.2.2 && (endsF D.st (plainL D.t D.st A B).1 && decide ((10 : Int) < (D.below : Int) + D.st.length - (plainL D.t D.st A B).1.length + (plainL D.t D.st A B).2.1.length))

theorem plain_glen {D : Dv} (h : DBnd D) (A B : Int) : (plainL D.t D.st A B).2.1.length ≤ 1 := by
  have hs := h.st
  have h1 := (sides_vals h.t0 h.t2).2.2.1
  have l1 : ∀ n, (strF n).length = 1 := fun n => rfl
  have l2 : ∀ (l : List UInt8) k, ((l.drop k).take 1).length ≤ 1 := fun l k => by simp; omega
  unfold plainL
  repeat' (refine ite_ind (P := fun p : List UInt8 × List UInt8 × Int × Bool => p.2.1.length ≤ 1) (fun hc => ?_) (fun hc => ?_))
  all_goals (try simp only [List.length_append, l1, List.length_nil, List.length_cons, List.length_drop])
  all_goals first
    | omega
    | exact l2 _ _
    | (by_cases hB : B = 1
       · rw [if_pos hB]; omega
       · rw [if_neg hB]; have := (sides_vals (k := 1) (by omega) (by omega)).2.2.1; omega)
    | (have := (sides_vals (k := B) (by omega) (by omega)).2.2.1; omega)

set_option maxRecDepth 100000 in
set_option maxHeartbeats 2000000 in
theorem tall_any (db : Nat) (D : Dv) (vb vt vc : Value) (K A B C : Int) (S T : List UInt8) (w : World) (hD : DAt w db D vb vt vc) (hb : DBnd D) (hbl : D.below ≤ 10) (hA : 0 ≤ A) (hA2 : A ≤ 255) :
    Calls Try.prog 34 #[.pointer (some ⟨db, 0, none⟩), opD K A B C S T] w fun e w' => e = .returned (.bool (tallL D A B)) ∧ Below w.heap.size w w' := by
  have hst : D.st.length ≤ 1000 := Nat.le_trans hb.st (by omega)
  have hl := plain_len hb A B
  have hg := plain_glen hb A B
  have HC : ∀ o, _ := fun o => plain_any2 db D vb vt vc K A B C S T (w.alloc o) (hD.alloc o) hb.t0 hb.t2 hst hA hA2
  have HE : ∀ wx, _ := fun wx => ends_any D.st (plainL D.t D.st A B).1 hst hl wx
  have hd0 := hD.lt
  have hD2 : Hid (DAt w db D vb vt vc) := hD
  clear hD
  unfold PlainRes opD at HC
  unfold opD tallL
  have h9 : (D.below : Int) ≤ 10 := by omega
  have h10 : (D.st.length : Int) ≤ 1000 := by omega
  generalize plainL D.t D.st A B = p at *
  obtain ⟨tk, gv, X, ok⟩ := p
  simp only [] at *
  have h11 : (tk.length : Int) ≤ 1000 := by omega
  have h12 : (gv.length : Int) ≤ 1 := by omega
  clear hbl hst hl hg hb
  cases ok
  · go_enter Try.func34, Try.ntmps34
    go_wp2_with (go_at_call 26; refine (HC _).mono ?_; rintro e w1 ⟨⟨z, rfl⟩, hb1⟩)
    go_ret
    exact ⟨rfl, (((Below.refl _ _).alloc (Nat.le_refl _) _).trans (hb1.mono (by simp))).alloc (Nat.le_trans (by simp) hb1.size) _⟩
  · cases he : endsF D.st tk
    · rw [he] at HE
      go_enter Try.func34, Try.ntmps34
      go_upto_region 2 with (go_at_call 26; refine (HC _).mono ?_; rintro e w1 ⟨⟨z, rfl⟩, hb1⟩)
      have hD3 := (hD2.out.alloc (.cells #[.int .i64 K, .int .i64 A, .int .i64 B, .int .i64 C, .string ⟨S.toArray⟩, .string ⟨T.toArray⟩] 34)).below hb1
      have d4 : ∀ o, (w1.alloc o).cell? ⟨db, 4, none⟩ = some (.string ⟨D.st.toArray⟩) := fun o => (hD3.alloc o).c4
      have hbe : Hid (∀ o, Below w.heap.size w (w1.alloc o)) := fun o => (((Below.refl _ _).alloc (Nat.le_refl _) _).trans (hb1.mono (by simp))).alloc (Nat.le_trans (by simp) hb1.size) _
      clear hD3 hb1 HC
      go_wp2_with (go_at_call 25; refine (HE _).mono ?_; rintro e w5 ⟨rfl, h51⟩; have h52 := h51.symm; clear h51; subst h52)
      go_ret
      exact ⟨rfl, hbe.out _⟩
    · rw [he] at HE
      go_enter Try.func34, Try.ntmps34
      go_upto_region 2 with (go_at_call 26; refine (HC _).mono ?_; rintro e w1 ⟨⟨z, rfl⟩, hb1⟩)
      have hD3 := (hD2.out.alloc (.cells #[.int .i64 K, .int .i64 A, .int .i64 B, .int .i64 C, .string ⟨S.toArray⟩, .string ⟨T.toArray⟩] 34)).below hb1
      have d4 : ∀ o, (w1.alloc o).cell? ⟨db, 4, none⟩ = some (.string ⟨D.st.toArray⟩) := fun o => (hD3.alloc o).c4
      have d6 : ∀ o, (w1.alloc o).cell? ⟨db, 6, none⟩ = some (.int .i64 D.below) := fun o => (hD3.alloc o).c6
      have hbe : Hid (∀ o n, Below w.heap.size w ((w1.alloc o).drewN n)) := fun o n => belowN ((((Below.refl _ _).alloc (Nat.le_refl _) _).trans (hb1.mono (by simp))).alloc (Nat.le_trans (by simp) hb1.size) _) n
      clear hD3 hb1 HC
      go_upto_region 4 with (go_at_call 25; refine (HE _).mono ?_; rintro e w5 ⟨rfl, h51⟩; have h52 := h51.symm; clear h51; subst h52)
      go_quiet (fail)
      go_wp2
      go_ret
      refine ⟨?_, hbe.out _ _⟩
      simp

end Go.Proofs.Qxb6500273a
