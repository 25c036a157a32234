/-
  Deadly: the ways.
-/
import Derived.Test.Qxb6500273aDd0
import Derived.Test.Qxb6500273aDd5
import Derived.Test.Qxb6500273aTall
set_option linter.unusedVariables false
set_option linter.unusedSimpArgs false
namespace Go.Proofs.Qxb6500273a
open Go.RowKit

section
variable {w W : World} {bv db b5 : Nat} {E : Dv} {vb vt vc : Value} {V : VS} {K A B C : Int} {T : List UInt8} {cS : UInt8}

set_option maxRecDepth 100000 in
set_option maxHeartbeats 4000000 in
theorem dd9_e1 (hr : (owedL E).1 ≠ [cS]) (hb : DBnd E) {b7 : Nat} {half : Bool} (HX : DxW w W bv db b5 b7 E vb vt vc V K 11 B C [cS] T ⟨11, 0, 0⟩) (hm : Doom E ⟨11, 0, 0⟩ E.body.length 27) : DGoal 9 w W bv db b5 (.pointer (some ⟨b7, 0, none⟩)) (.bool false) (.bool half) := by
  intro c a hc hf
  unfold DTail at hc
  simp only [Try.f17, Option.map, dropC, Option.some.injEq] at hc
  obtain ⟨s, rfl⟩ := frame17 a _ _ _ _ _ _ _ hf.d hf.n hf.h0 hf.h1 hf.h5 hf.h6 hf.h7 hf.h8 hf.h9
  clear hf
  subst hc
  unfold DPost
  have e1 := HX.d.e1
  have e4 := HX.d.e4
  have HC := owed_any db E vb vt vc W HX.d.at_ hb.t0 hb.t2 (Nat.le_trans hb.ctl (by omega))
  generalize (owedL E).2 = lm at HC
  have g1 : ((owedL E).1 == [cS]) = false := by rw [beq_eq_false_iff_ne]; exact hr
  generalize (owedL E).1 = ow at *
  clear hr hb
  go_upto_if 138 with fail
  go_cut [8, 10, 11, 12, 13, 14, 15] from 139 to 180 (fun s8 s10 s11 s12 s13 s14 s15 wc => s8 = .bool true ∧ DxW w wc bv db b5 b7 E vb vt vc V K 11 B C [cS] T ⟨11, 0, 0⟩)
  case rest =>
    obtain ⟨rfl, hX⟩ := hcut
    refine (by assumption : ∀ (a : Act) (w : World), Code.wp Try.prog _ _ a w → _) _ _ ?_
    refine dead_bad (b5 := b5) (v9 := .bool half) hX.d.at_ hX.d.v hX.d.bd hX.d.be hX.d.dw hX.x0 hX.x1 hX.x2 hm _ _ rfl ?_
    exact ⟨rfl, rfl, rfl, rfl, rfl, rfl, rfl, rfl, rfl⟩
  case first =>
    go_upto_region 13 with (go_at_call 36; refine HC.mono ?_; rintro e w1 ⟨rfl, hb1⟩; have HX1 := HX.next hb1; clear hb1)
    have f1 := HX1.d.e1
    have f4 := HX1.d.e4
    have HX2 : Hid (DxW w w1 bv db b5 b7 E vb vt vc V K 11 B C [cS] T ⟨11, 0, 0⟩) := HX1
    clear HX HX1 HC e1 e4
    go_wp2_with fail
    all_goals go_meet
    all_goals exact ⟨rfl, HX2.out⟩

set_option maxRecDepth 100000 in
set_option maxHeartbeats 4000000 in
theorem dd9_e2 (hr : (owedL E).1 = [cS]) (hlame : (owedL E).2 = true) (hb : DBnd E) {b7 : Nat} {half : Bool} (HX : DxW w W bv db b5 b7 E vb vt vc V K 11 B C [cS] T ⟨11, 0, 0⟩) (hm : Doom E ⟨11, 0, 0⟩ E.body.length 27) : DGoal 9 w W bv db b5 (.pointer (some ⟨b7, 0, none⟩)) (.bool false) (.bool half) := by
  intro c a hc hf
  unfold DTail at hc
  simp only [Try.f17, Option.map, dropC, Option.some.injEq] at hc
  obtain ⟨s, rfl⟩ := frame17 a _ _ _ _ _ _ _ hf.d hf.n hf.h0 hf.h1 hf.h5 hf.h6 hf.h7 hf.h8 hf.h9
  clear hf
  subst hc
  unfold DPost
  have e1 := HX.d.e1
  have e4 := HX.d.e4
  have HC := owed_any db E vb vt vc W HX.d.at_ hb.t0 hb.t2 (Nat.le_trans hb.ctl (by omega))
  rw [hlame] at HC
  have g1 : ((owedL E).1 == [cS]) = true := by rw [hr]; simp
  rw [hr] at HC
  generalize (owedL E).1 = ow at *
  clear hr hb
  go_upto_if 138 with fail
  go_cut [8, 10, 11, 12, 13, 14, 15] from 139 to 180 (fun s8 s10 s11 s12 s13 s14 s15 wc => s8 = .bool true ∧ DxW w wc bv db b5 b7 E vb vt vc V K 11 B C [cS] T ⟨11, 0, 0⟩)
  case rest =>
    obtain ⟨rfl, hX⟩ := hcut
    refine (by assumption : ∀ (a : Act) (w : World), Code.wp Try.prog _ _ a w → _) _ _ ?_
    refine dead_bad (b5 := b5) (v9 := .bool half) hX.d.at_ hX.d.v hX.d.bd hX.d.be hX.d.dw hX.x0 hX.x1 hX.x2 hm _ _ rfl ?_
    exact ⟨rfl, rfl, rfl, rfl, rfl, rfl, rfl, rfl, rfl⟩
  case first =>
    go_upto_region 13 with (go_at_call 36; refine HC.mono ?_; rintro e w1 ⟨rfl, hb1⟩; have HX1 := HX.next hb1; clear hb1)
    have f1 := HX1.d.e1
    have f4 := HX1.d.e4
    have HX2 : Hid (DxW w w1 bv db b5 b7 E vb vt vc V K 11 B C [cS] T ⟨11, 0, 0⟩) := HX1
    clear HX HX1 HC e1 e4
    go_wp2_with fail
    all_goals go_meet
    all_goals exact ⟨rfl, HX2.out⟩

set_option maxRecDepth 100000 in
set_option maxHeartbeats 4000000 in
theorem dd9_e3 (hr : (owedL E).1 = [cS]) (hlame : (owedL E).2 = false) (hb : DBnd E) {b7 : Nat} {half : Bool} (HX : DxW w W bv db b5 b7 E vb vt vc V K 11 B C [cS] T ⟨11, 0, 0⟩) : DGoal 9 w W bv db b5 (.pointer (some ⟨b7, 0, none⟩)) (.bool false) (.bool half) := by
  intro c a hc hf
  unfold DTail at hc
  simp only [Try.f17, Option.map, dropC, Option.some.injEq] at hc
  obtain ⟨s, rfl⟩ := frame17 a _ _ _ _ _ _ _ hf.d hf.n hf.h0 hf.h1 hf.h5 hf.h6 hf.h7 hf.h8 hf.h9
  clear hf
  subst hc
  unfold DPost
  have e1 := HX.d.e1
  have e4 := HX.d.e4
  have HC := owed_any db E vb vt vc W HX.d.at_ hb.t0 hb.t2 (Nat.le_trans hb.ctl (by omega))
  rw [hlame] at HC
  have g1 : ((owedL E).1 == [cS]) = true := by rw [hr]; simp
  rw [hr] at HC
  generalize (owedL E).1 = ow at *
  clear hr hb
  go_upto_if 138 with fail
  go_cut [8, 10, 11, 12, 13, 14, 15] from 139 to 180 (fun s8 s10 s11 s12 s13 s14 s15 wc => s8 = .bool false ∧ DxW w wc bv db b5 b7 E vb vt vc V K 11 B C [cS] T ⟨11, 0, 0⟩)
  case rest =>
    obtain ⟨rfl, hX⟩ := hcut
    refine (by assumption : ∀ (a : Act) (w : World), Code.wp Try.prog _ _ a w → _) _ _ ?_
    refine dead_ret (b5 := b5) (v7 := .pointer (some ⟨b7, 0, none⟩)) (v9 := .bool half) (KeptD.below hX.d.be hX.d.v) _ _ rfl ?_
    exact ⟨rfl, rfl, rfl, rfl, rfl, rfl, rfl, rfl, rfl⟩
  case first =>
    go_upto_region 13 with (go_at_call 36; refine HC.mono ?_; rintro e w1 ⟨rfl, hb1⟩; have HX1 := HX.next hb1; clear hb1)
    have f1 := HX1.d.e1
    have f4 := HX1.d.e4
    have HX2 : Hid (DxW w w1 bv db b5 b7 E vb vt vc V K 11 B C [cS] T ⟨11, 0, 0⟩) := HX1
    clear HX HX1 HC e1 e4
    go_wp2_with fail
    all_goals go_meet
    all_goals exact ⟨rfl, HX2.out⟩

set_option maxRecDepth 100000 in
set_option maxHeartbeats 4000000 in
theorem dd9_l1 (hr : (owedL E).1 ≠ [cS]) (hb : DBnd E) {b7 : Nat} (HX : DxW w W bv db b5 b7 E vb vt vc V K 5 B C [cS] T ⟨5, 0, 0⟩) (hm : Doom E ⟨5, 0, 0⟩ E.body.length 27) : DGoal 9 w W bv db b5 (.pointer (some ⟨b7, 0, none⟩)) (.bool false) (.bool true) := by
  intro c a hc hf
  unfold DTail at hc
  simp only [Try.f17, Option.map, dropC, Option.some.injEq] at hc
  obtain ⟨s, rfl⟩ := frame17 a _ _ _ _ _ _ _ hf.d hf.n hf.h0 hf.h1 hf.h5 hf.h6 hf.h7 hf.h8 hf.h9
  clear hf
  subst hc
  unfold DPost
  have e1 := HX.d.e1
  have e4 := HX.d.e4
  have HC := owed_any db E vb vt vc W HX.d.at_ hb.t0 hb.t2 (Nat.le_trans hb.ctl (by omega))
  generalize (owedL E).2 = lm at HC
  have g1 : ((owedL E).1 == [cS]) = false := by rw [beq_eq_false_iff_ne]; exact hr
  generalize (owedL E).1 = ow at *
  clear hr hb
  go_upto_if 138 with fail
  go_cut [8, 10, 11, 12, 13, 14, 15] from 139 to 180 (fun s8 s10 s11 s12 s13 s14 s15 wc => s8 = .bool true ∧ DxW w wc bv db b5 b7 E vb vt vc V K 5 B C [cS] T ⟨5, 0, 0⟩)
  case rest =>
    obtain ⟨rfl, hX⟩ := hcut
    refine (by assumption : ∀ (a : Act) (w : World), Code.wp Try.prog _ _ a w → _) _ _ ?_
    refine dead_bad (b5 := b5) (v9 := .bool true) hX.d.at_ hX.d.v hX.d.bd hX.d.be hX.d.dw hX.x0 hX.x1 hX.x2 hm _ _ rfl ?_
    exact ⟨rfl, rfl, rfl, rfl, rfl, rfl, rfl, rfl, rfl⟩
  case first =>
    go_upto_region 13 with (go_at_call 36; refine HC.mono ?_; rintro e w1 ⟨rfl, hb1⟩; have HX1 := HX.next hb1; clear hb1)
    have f1 := HX1.d.e1
    have f4 := HX1.d.e4
    have HX2 : Hid (DxW w w1 bv db b5 b7 E vb vt vc V K 5 B C [cS] T ⟨5, 0, 0⟩) := HX1
    clear HX HX1 HC e1 e4
    go_wp2_with fail
    all_goals go_meet
    all_goals exact ⟨rfl, HX2.out⟩

set_option maxRecDepth 100000 in
set_option maxHeartbeats 4000000 in
theorem dd9_l2 (hr : (owedL E).1 = [cS]) (hlame : (owedL E).2 = true) (hb : DBnd E) {b7 : Nat} (HX : DxW w W bv db b5 b7 E vb vt vc V K 5 B C [cS] T ⟨5, 0, 0⟩) : DGoal 9 w W bv db b5 (.pointer (some ⟨b7, 0, none⟩)) (.bool false) (.bool true) := by
  intro c a hc hf
  unfold DTail at hc
  simp only [Try.f17, Option.map, dropC, Option.some.injEq] at hc
  obtain ⟨s, rfl⟩ := frame17 a _ _ _ _ _ _ _ hf.d hf.n hf.h0 hf.h1 hf.h5 hf.h6 hf.h7 hf.h8 hf.h9
  clear hf
  subst hc
  unfold DPost
  have e1 := HX.d.e1
  have e4 := HX.d.e4
  have HC := owed_any db E vb vt vc W HX.d.at_ hb.t0 hb.t2 (Nat.le_trans hb.ctl (by omega))
  rw [hlame] at HC
  have g1 : ((owedL E).1 == [cS]) = true := by rw [hr]; simp
  rw [hr] at HC
  generalize (owedL E).1 = ow at *
  clear hr hb
  go_upto_if 138 with fail
  go_cut [8, 10, 11, 12, 13, 14, 15] from 139 to 180 (fun s8 s10 s11 s12 s13 s14 s15 wc => s8 = .bool false ∧ DxW w wc bv db b5 b7 E vb vt vc V K 5 B C [cS] T ⟨5, 0, 0⟩)
  case rest =>
    obtain ⟨rfl, hX⟩ := hcut
    refine (by assumption : ∀ (a : Act) (w : World), Code.wp Try.prog _ _ a w → _) _ _ ?_
    refine dead_ret (b5 := b5) (v7 := .pointer (some ⟨b7, 0, none⟩)) (v9 := .bool true) (KeptD.below hX.d.be hX.d.v) _ _ rfl ?_
    exact ⟨rfl, rfl, rfl, rfl, rfl, rfl, rfl, rfl, rfl⟩
  case first =>
    go_upto_region 13 with (go_at_call 36; refine HC.mono ?_; rintro e w1 ⟨rfl, hb1⟩; have HX1 := HX.next hb1; clear hb1)
    have f1 := HX1.d.e1
    have f4 := HX1.d.e4
    have HX2 : Hid (DxW w w1 bv db b5 b7 E vb vt vc V K 5 B C [cS] T ⟨5, 0, 0⟩) := HX1
    clear HX HX1 HC e1 e4
    go_wp2_with fail
    all_goals go_meet
    all_goals exact ⟨rfl, HX2.out⟩

set_option maxRecDepth 100000 in
set_option maxHeartbeats 4000000 in
theorem dd9_l3 (hr : (owedL E).1 = [cS]) (hlame : (owedL E).2 = false) (hb : DBnd E) {b7 : Nat} (HX : DxW w W bv db b5 b7 E vb vt vc V K 5 B C [cS] T ⟨5, 0, 0⟩) : DGoal 9 w W bv db b5 (.pointer (some ⟨b7, 0, none⟩)) (.bool false) (.bool true) := by
  intro c a hc hf
  unfold DTail at hc
  simp only [Try.f17, Option.map, dropC, Option.some.injEq] at hc
  obtain ⟨s, rfl⟩ := frame17 a _ _ _ _ _ _ _ hf.d hf.n hf.h0 hf.h1 hf.h5 hf.h6 hf.h7 hf.h8 hf.h9
  clear hf
  subst hc
  unfold DPost
  have e1 := HX.d.e1
  have e4 := HX.d.e4
  have HC := owed_any db E vb vt vc W HX.d.at_ hb.t0 hb.t2 (Nat.le_trans hb.ctl (by omega))
  rw [hlame] at HC
  have g1 : ((owedL E).1 == [cS]) = true := by rw [hr]; simp
  rw [hr] at HC
  generalize (owedL E).1 = ow at *
  clear hr hb
  go_upto_if 138 with fail
  go_cut [8, 10, 11, 12, 13, 14, 15] from 139 to 180 (fun s8 s10 s11 s12 s13 s14 s15 wc => s8 = .bool false ∧ DxW w wc bv db b5 b7 E vb vt vc V K 5 B C [cS] T ⟨5, 0, 0⟩)
  case rest =>
    obtain ⟨rfl, hX⟩ := hcut
    refine (by assumption : ∀ (a : Act) (w : World), Code.wp Try.prog _ _ a w → _) _ _ ?_
    refine dead_ret (b5 := b5) (v7 := .pointer (some ⟨b7, 0, none⟩)) (v9 := .bool true) (KeptD.below hX.d.be hX.d.v) _ _ rfl ?_
    exact ⟨rfl, rfl, rfl, rfl, rfl, rfl, rfl, rfl, rfl⟩
  case first =>
    go_upto_region 13 with (go_at_call 36; refine HC.mono ?_; rintro e w1 ⟨rfl, hb1⟩; have HX1 := HX.next hb1; clear hb1)
    have f1 := HX1.d.e1
    have f4 := HX1.d.e4
    have HX2 : Hid (DxW w w1 bv db b5 b7 E vb vt vc V K 5 B C [cS] T ⟨5, 0, 0⟩) := HX1
    clear HX HX1 HC e1 e4
    go_wp2_with fail
    all_goals go_meet
    all_goals exact ⟨rfl, HX2.out⟩

end
end Go.Proofs.Qxb6500273a
