/-
  Deadly: the ways.
-/
import Derived.Test.Qxb6500273aDd0
import Derived.Test.Qxb6500273aDd5
import Derived.Test.Qxb6500273aTall
set_option linter.unusedVariables false
set_option linter.unusedSimpArgs false
namespace Go.Proofs.Qxb6500273a
open Go.RowKit

section
variable {w W : World} {bv db b5 : Nat} {E : Dv} {vb vt vc : Value} {V : VS} {K A B C : Int} {T : List UInt8} {cS : UInt8}

set_option maxRecDepth 100000 in
set_option maxHeartbeats 4000000 in
theorem dd9_peq (hA0 : 0 ≤ A) (hA5 : A ≤ 255) (h11 : A ≠ 11) (h5 : A ≠ 5) (hk : (plainL E.t E.st A B).2.2.2 = true) (tp : List UInt8) (d : UInt8) (htk : (plainL E.t E.st A B).1 = tp ++ [d]) (hd : d = cS) (hb : DBnd E) {b7 : Nat} {half : Bool} (HX : DxW w W bv db b5 b7 E vb vt vc V K A B C [cS] T ⟨A, 0, 0⟩) : DGoal 9 w W bv db b5 (.pointer (some ⟨b7, 0, none⟩)) (.bool false) (.bool half) := by
  intro c a hc hf
  unfold DTail at hc
  simp only [Try.f17, Option.map, dropC, Option.some.injEq] at hc
  obtain ⟨s, rfl⟩ := frame17 a _ _ _ _ _ _ _ hf.d hf.n hf.h0 hf.h1 hf.h5 hf.h6 hf.h7 hf.h8 hf.h9
  clear hf
  subst hc
  unfold DPost
  have e0 := HX.d.e0
  have e1 := HX.d.e1
  have e2 := HX.d.e2
  have e3 := HX.d.e3
  have e4 := HX.d.e4
  have e5 := HX.d.e5
  have hl := plain_len hb A B
  have HC := plain_any2 db E vb vt vc K A B C [cS] T W HX.d.at_ hb.t0 hb.t2 (Nat.le_trans hb.st (by omega)) hA0 hA5
  unfold opD at HC
  unfold PlainRes at HC
  rw [hk] at HC
  generalize plainL E.t E.st A B = p at *
  obtain ⟨tk, gv, X, ok⟩ := p
  simp only [] at *
  have g1 : (A == 11) = false := by rw [beq_eq_false_iff_ne]; exact h11
  have g2 : (A == 5) = false := by rw [beq_eq_false_iff_ne]; exact h5
  clear h11 h5
  have hn : tk.length = tp.length + 1 := by have := congrArg List.length htk; simpa only [List.length_append, List.length_singleton] using this
  have hl1 : (tk.length : Int) ≤ 1000 := by omega
  have hl2 : (tp.length : Int) < tk.length := by omega
  have hl3 : tp.length < tk.length := by omega
  have hem : tk.isEmpty = false := by rw [htk]; simp
  have hge : tk.getD tp.length 0 = d := by rw [htk]; simp
  have hloc := local_at tk tp.length (by omega)
  rw [hge] at hloc
  have hsz : tp.length < (ByteArray.mk tk.toArray).size := by show tp.length < tk.toArray.size; rw [List.size_toArray]; omega
  have hii : (tk.length : Int) - 1 = tp.length := by omega
  have gd : ((((ByteArray.mk tk.toArray)[tp.length]).toNat : Int) != (cS.toNat : Int)) = false := by rw [← hloc, hd]; simp
  clear htk hge hloc hd hn
  clear hk hl
  go_upto_if 138 with fail
  go_cut [8, 10, 11, 12, 13, 14, 15] from 139 to 180 (fun s8 s10 s11 s12 s13 s14 s15 wc => s8 = .bool false ∧ ∃ z, DxW w wc bv db b5 b7 E vb vt vc V K A B C [cS] T ⟨A, X, z⟩)
  case rest =>
    obtain ⟨rfl, z, hX⟩ := hcut
    refine (by assumption : ∀ (a : Act) (w : World), Code.wp Try.prog _ _ a w → _) _ _ ?_
    refine dead_ret (b5 := b5) (v7 := .pointer (some ⟨b7, 0, none⟩)) (v9 := .bool half) (KeptD.below hX.d.be hX.d.v) _ _ rfl ?_
    exact ⟨rfl, rfl, rfl, rfl, rfl, rfl, rfl, rfl, rfl⟩
  case first =>
    go_upto_region 15 with (go_at_call 26; refine HC.mono ?_; rintro e w1 ⟨⟨z, rfl⟩, hb1⟩; have HX1 := HX.next hb1; clear hb1)
    have HX2 := HX1.next ((Below.refl _ w1).alloc (Nat.le_refl _) (.cells #[.int .u8 A, .int .u32 X, .int .u64 z] 42))
    have m0 := World.cell?_alloc_new w1 #[.int .u8 A, .int .u32 X, .int .u64 z] 42 0
    have m1 := World.cell?_alloc_new w1 #[.int .u8 A, .int .u32 X, .int .u64 z] 42 1
    have m2 := World.cell?_alloc_new w1 #[.int .u8 A, .int .u32 X, .int .u64 z] 42 2
    simp only [List.getElem?_toArray, List.getElem?_cons_zero, List.getElem?_cons_succ] at m0 m1 m2
    have n7 : ¬ b7 = w1.heap.size := by have := HX1.o5; omega
    have n8 : ¬ w1.heap.size = b7 := by have := HX1.o5; omega
    clear HX1
    generalize (w1.alloc (.cells #[.int .u8 A, .int .u32 X, .int .u64 z] 42)) = W6 at *
    generalize w1.heap.size = b14 at *
    have q0 := HX2.x0
    have q1 := HX2.x1
    have q2 := HX2.x2
    have qf := HX2.xf
    have HX3 := HX2.setX ⟨A, X, z⟩
    simp only [] at HX3
    have f4 := HX3.d.e4
    have HX4 : Hid (∀ n, DxW w ((((W6.setCell ⟨b7, 0, none⟩ (.int .u8 A)).setCell ⟨b7, 1, none⟩ (.int .u32 X)).setCell ⟨b7, 2, none⟩ (.int .u64 z)).drewN n) bv db b5 b7 E vb vt vc V K A B C [cS] T ⟨A, X, z⟩) := fun n => HX3.next (belowN (Below.refl _ _) n)
    clear HX HX2 HX3 HC e0 e1 e2 e3 e4 e5
    go_upto_region 16 with fail
    go_quiet (fail)
    go_wp2_with fail
    go_meet
    exact ⟨congrArg Value.bool gd, z, HX4.out _⟩

end
end Go.Proofs.Qxb6500273a
