/-
  Refused: the ways.
-/
import Derived.Test.Qxb6500273aRf0
import Derived.Test.Qxb6500273aRfq
import Derived.BigQuiet
set_option linter.unusedVariables false
set_option linter.unusedSimpArgs false
namespace Go.Proofs.Qxb6500273a
open Go.RowKit

section
variable {w W : World} {bv db b5 b8 : Nat} {D : Dv} {vb vt vc : Value} {V : VS} {K A B C : Int} {S T : List UInt8}

set_option maxRecDepth 100000 in
set_option maxHeartbeats 4000000 in
theorem rf6_f0 (E : Dv) (hb : DBnd E) (hbl : E.below ≤ 10) (h6 : E.ctl.length < 6) (x : Insn) (pl want : Int) (HW : TabW w W bv db b5 b8 E vb vt vc V K B C S T x) : RGoal 6 w W bv db b5 b8 pl want false := by
  intro c a hc hf
  unfold RTail at hc
  simp only [Try.f16, Option.map, dropC, Option.some.injEq] at hc
  obtain ⟨s, rfl⟩ := frame16 a _ _ _ _ _ _ _ _ hf.d hf.n hf.h0 hf.h1 hf.h5 hf.h6 hf.h7 hf.h8 hf.h9 hf.h10
  clear hf
  subst hc
  unfold RPost
  have e0 := HW.e0
  have e1 := HW.e1
  have e2 := HW.e2
  have e3 := HW.e3
  have e4 := HW.e4
  have e5 := HW.e5
  obtain ⟨ca, cc, hvc⟩ := HW.at_.ctlV
  have hst1 : (E.st.length : Int) ≤ 10 := by have := hb.st; omega
  have hbl1 : (E.below : Int) ≤ 10 := by omega
  have hplain : plainL E.t E.st 14 B = ([], [], 0, false) := by
    unfold plainL
    rw [show numSigF 14 = (0, 0, 0) by decide, show memSigF 14 = (0, 0, false) by decide]
    simp
  have hmis : misfitL E 14 B = (0, false) := by
    unfold misfitL
    rw [hplain]
    simp
  have htl : tallL E 14 B = false := by
    unfold tallL
    rw [hplain]
    simp
  have HC := misfit_any db E vb vt vc K 14 B C S T W HW.at_ hb (by omega) (by omega)
  have HTl : ∀ wx, DAt wx db E vb vt vc → Calls Try.prog 34 #[.pointer (some ⟨db, 0, none⟩), opD K 14 B C S T] wx fun e w' => e = .returned (.bool false) ∧ Below wx.heap.size wx w' := fun wx hdx => by
    have q := tall_any db E vb vt vc K 14 B C S T wx hdx hb hbl (by omega) (by omega)
    rw [htl] at q
    exact q
  unfold opD at HTl
  unfold opD MisRes at HC
  rw [hmis] at HC
  simp only [] at HC
  have h1 := HW.o1
  have h2 := HW.o2
  have h4 := HW.o4
  have hdw := HW.dw
  have hlp := HW.at_.lt
  have n1 : ¬ b5 = b8 := by omega
  have n2 : ¬ b8 = b5 := by omega
  have n3 : ¬ db = b8 := by omega
  have n4 : ¬ b8 = db := by omega
  have hbs := HW.be.size
  have KB : Hid (∀ w1, Below W.heap.size W w1 → KeptD bv db w w1) := fun w1 hh => KeptD.below (HW.be.trans (hh.mono (by omega))) (V := V) (vatBelow HW.v hh (by have := HW.v.lt; omega))
  clear hplain hmis htl hb hbl
  go_upto_region 18 with (go_at_call 33; refine HC.mono ?_; rintro e w1 ⟨⟨z, rfl⟩, hb1⟩; have q0 := (hb1.cell (p := ⟨b8, 0, none⟩) h4).trans HW.x0; have q1 := (hb1.cell (p := ⟨b8, 1, none⟩) h4).trans HW.x1; have q2 := (hb1.cell (p := ⟨b8, 2, none⟩) h4).trans HW.x2; have qf : ∀ o, w1.frozen? ⟨b8, o, none⟩ = false := fun o => (hb1.frozen (p := ⟨b8, o, none⟩) h4).trans (HW.xf o))
  obtain ⟨W2, hW2⟩ : ∃ W2, W2 = ((w1.setCell ⟨b8, 0, none⟩ (.int .u8 14)).setCell ⟨b8, 1, none⟩ (.int .u32 0)).setCell ⟨b8, 2, none⟩ (.int .u64 z) := ⟨_, rfl⟩
  rw [← hW2]
  have hs1 := hb1.size
  have hD2 : DAt W2 db E vb vt vc := by rw [hW2]; exact (((HW.at_.below hb1).setOff n3 HW.kb HW.kt HW.kc).setOff n3 HW.kb HW.kt HW.kc).setOff n3 HW.kb HW.kt HW.kc
  have hV1 : VAt w1 bv V := vatBelow HW.v hb1 HW.v.lt
  have hB1 : Below db w w1 := HW.be.trans (hb1.mono (by omega))
  have hB2 : Below db w W2 := by rw [hW2]; exact ((hB1.setCell (p := ⟨b8, 0, none⟩) (by simp only []; omega) _).setCell (p := ⟨b8, 1, none⟩) (by simp only []; omega) _).setCell (p := ⟨b8, 2, none⟩) (by simp only []; omega) _
  have hV2 : VAt W2 bv V := vatBelow hV1 (w := w1) (B := db) (by rw [hW2]; exact (((Below.refl db w1).setCell (p := ⟨b8, 0, none⟩) (by simp only []; omega) _).setCell (p := ⟨b8, 1, none⟩) (by simp only []; omega) _).setCell (p := ⟨b8, 2, none⟩) (by simp only []; omega) _) HW.bd
  have kc : ∀ o, W2.cell? ⟨b5, o, none⟩ = W.cell? ⟨b5, o, none⟩ := fun o => by rw [hW2, apartc (by omega), apartc (by omega), apartc (by omega)]; exact hb1.cell (p := ⟨b5, o, none⟩) (by simp only []; omega)
  have e0 := (kc 0).trans HW.e0
  have e1 := (kc 1).trans HW.e1
  have e2 := (kc 2).trans HW.e2
  have e3 := (kc 3).trans HW.e3
  have e4 := (kc 4).trans HW.e4
  have e5 := (kc 5).trans HW.e5
  have hs2 : W.heap.size ≤ W2.heap.size := by rw [hW2]; simpa using hs1
  have hbd := HW.bd
  clear hW2 q0 q1 q2 qf hb1 hV1 hB1 kc HC HW
  go_upto_region 24 with (go_at_call 34; refine (HTl _ hD2).mono ?_; rintro e w3 ⟨rfl, hb3⟩)
  have hD3 := hD2.below hb3
  have d4 := hD3.c4
  have d5 := hD3.c5
  have d6 := hD3.c6
  have f1 := (hb3.cell (p := ⟨b5, 1, none⟩) (by simp only []; omega)).trans e1
  have f2 := (hb3.cell (p := ⟨b5, 2, none⟩) (by simp only []; omega)).trans e2
  rw [hvc] at d5
  have h6i : (E.ctl.length : Int) < 6 := by omega
  have hK : Hid (∀ n, KeptD bv db w (w3.drewN n)) := fun n => KeptD.below (belowN (hB2.trans (hb3.mono (by omega))) n) (V := V) ((vatBelow hV2 hb3 (by omega)).same rfl)
  clear hD2 hD3 hB2 hV2 hb3 e0 e1 e2 e3 e4 e5 HTl hvc KB
  go_upto_region 25 with fail
  go_quiet (fail)
  go_wp2
  all_goals go_ret
  all_goals exact ⟨rfl, hK.out _⟩

set_option maxRecDepth 100000 in
set_option maxHeartbeats 4000000 in
theorem rf6_f6 (E : Dv) (hb : DBnd E) (hbl : E.below ≤ 10) (h6 : E.ctl.length = 6) (x : Insn) (pl want : Int) (HW : TabW w W bv db b5 b8 E vb vt vc V K B C S T x) : RGoal 6 w W bv db b5 b8 pl want false := by
  intro c a hc hf
  unfold RTail at hc
  simp only [Try.f16, Option.map, dropC, Option.some.injEq] at hc
  obtain ⟨s, rfl⟩ := frame16 a _ _ _ _ _ _ _ _ hf.d hf.n hf.h0 hf.h1 hf.h5 hf.h6 hf.h7 hf.h8 hf.h9 hf.h10
  clear hf
  subst hc
  unfold RPost
  have e0 := HW.e0
  have e1 := HW.e1
  have e2 := HW.e2
  have e3 := HW.e3
  have e4 := HW.e4
  have e5 := HW.e5
  obtain ⟨ca, cc, hvc⟩ := HW.at_.ctlV
  have hst1 : (E.st.length : Int) ≤ 10 := by have := hb.st; omega
  have hbl1 : (E.below : Int) ≤ 10 := by omega
  have hplain : plainL E.t E.st 14 B = ([], [], 0, false) := by
    unfold plainL
    rw [show numSigF 14 = (0, 0, 0) by decide, show memSigF 14 = (0, 0, false) by decide]
    simp
  have hmis : misfitL E 14 B = (0, false) := by
    unfold misfitL
    rw [hplain]
    simp
  have htl : tallL E 14 B = false := by
    unfold tallL
    rw [hplain]
    simp
  have HC := misfit_any db E vb vt vc K 14 B C S T W HW.at_ hb (by omega) (by omega)
  have HTl : ∀ wx, DAt wx db E vb vt vc → Calls Try.prog 34 #[.pointer (some ⟨db, 0, none⟩), opD K 14 B C S T] wx fun e w' => e = .returned (.bool false) ∧ Below wx.heap.size wx w' := fun wx hdx => by
    have q := tall_any db E vb vt vc K 14 B C S T wx hdx hb hbl (by omega) (by omega)
    rw [htl] at q
    exact q
  unfold opD at HTl
  unfold opD MisRes at HC
  rw [hmis] at HC
  simp only [] at HC
  have h1 := HW.o1
  have h2 := HW.o2
  have h4 := HW.o4
  have hdw := HW.dw
  have hlp := HW.at_.lt
  have n1 : ¬ b5 = b8 := by omega
  have n2 : ¬ b8 = b5 := by omega
  have n3 : ¬ db = b8 := by omega
  have n4 : ¬ b8 = db := by omega
  have hbs := HW.be.size
  have KB : Hid (∀ w1, Below W.heap.size W w1 → KeptD bv db w w1) := fun w1 hh => KeptD.below (HW.be.trans (hh.mono (by omega))) (V := V) (vatBelow HW.v hh (by have := HW.v.lt; omega))
  clear hplain hmis htl hb hbl
  go_upto_region 18 with (go_at_call 33; refine HC.mono ?_; rintro e w1 ⟨⟨z, rfl⟩, hb1⟩; have q0 := (hb1.cell (p := ⟨b8, 0, none⟩) h4).trans HW.x0; have q1 := (hb1.cell (p := ⟨b8, 1, none⟩) h4).trans HW.x1; have q2 := (hb1.cell (p := ⟨b8, 2, none⟩) h4).trans HW.x2; have qf : ∀ o, w1.frozen? ⟨b8, o, none⟩ = false := fun o => (hb1.frozen (p := ⟨b8, o, none⟩) h4).trans (HW.xf o))
  obtain ⟨W2, hW2⟩ : ∃ W2, W2 = ((w1.setCell ⟨b8, 0, none⟩ (.int .u8 14)).setCell ⟨b8, 1, none⟩ (.int .u32 0)).setCell ⟨b8, 2, none⟩ (.int .u64 z) := ⟨_, rfl⟩
  rw [← hW2]
  have hs1 := hb1.size
  have hD2 : DAt W2 db E vb vt vc := by rw [hW2]; exact (((HW.at_.below hb1).setOff n3 HW.kb HW.kt HW.kc).setOff n3 HW.kb HW.kt HW.kc).setOff n3 HW.kb HW.kt HW.kc
  have hV1 : VAt w1 bv V := vatBelow HW.v hb1 HW.v.lt
  have hB1 : Below db w w1 := HW.be.trans (hb1.mono (by omega))
  have hB2 : Below db w W2 := by rw [hW2]; exact ((hB1.setCell (p := ⟨b8, 0, none⟩) (by simp only []; omega) _).setCell (p := ⟨b8, 1, none⟩) (by simp only []; omega) _).setCell (p := ⟨b8, 2, none⟩) (by simp only []; omega) _
  have hV2 : VAt W2 bv V := vatBelow hV1 (w := w1) (B := db) (by rw [hW2]; exact (((Below.refl db w1).setCell (p := ⟨b8, 0, none⟩) (by simp only []; omega) _).setCell (p := ⟨b8, 1, none⟩) (by simp only []; omega) _).setCell (p := ⟨b8, 2, none⟩) (by simp only []; omega) _) HW.bd
  have kc : ∀ o, W2.cell? ⟨b5, o, none⟩ = W.cell? ⟨b5, o, none⟩ := fun o => by rw [hW2, apartc (by omega), apartc (by omega), apartc (by omega)]; exact hb1.cell (p := ⟨b5, o, none⟩) (by simp only []; omega)
  have e0 := (kc 0).trans HW.e0
  have e1 := (kc 1).trans HW.e1
  have e2 := (kc 2).trans HW.e2
  have e3 := (kc 3).trans HW.e3
  have e4 := (kc 4).trans HW.e4
  have e5 := (kc 5).trans HW.e5
  have hs2 : W.heap.size ≤ W2.heap.size := by rw [hW2]; simpa using hs1
  have hbd := HW.bd
  clear hW2 q0 q1 q2 qf hb1 hV1 hB1 kc HC HW
  go_upto_region 24 with (go_at_call 34; refine (HTl _ hD2).mono ?_; rintro e w3 ⟨rfl, hb3⟩)
  have hD3 := hD2.below hb3
  have d4 := hD3.c4
  have d5 := hD3.c5
  have d6 := hD3.c6
  have f1 := (hb3.cell (p := ⟨b5, 1, none⟩) (by simp only []; omega)).trans e1
  have f2 := (hb3.cell (p := ⟨b5, 2, none⟩) (by simp only []; omega)).trans e2
  rw [hvc, h6] at d5
  have hK : Hid (∀ n, KeptD bv db w (w3.drewN n)) := fun n => KeptD.below (belowN (hB2.trans (hb3.mono (by omega))) n) (V := V) ((vatBelow hV2 hb3 (by omega)).same rfl)
  clear hD2 hD3 hB2 hV2 hb3 e0 e1 e2 e3 e4 e5 HTl hvc KB
  go_upto_region 25 with fail
  go_quiet (fail)
  go_wp2
  all_goals go_ret
  all_goals exact ⟨rfl, hK.out _⟩

end
end Go.Proofs.Qxb6500273a
