/-
  PLAIN LEAN: what the validator owes at each turned module.
-/
import Derived.Test.Qxb6500273aTurned0
import Derived.Test.Qxb6500273aBody
import Derived.Test.Qxb6500273aExp
namespace Go.Proofs.Qxb6500273a
open Go.RowKit

/-- what the law wants of the answer -/
def owed (row want : Int) : Int × Int × Int := if want = 0 then (1, 0, 0) else (-1, row, want)

/-- the validator's answer at M is the one owed, from any stacks -/
structure Owes (M : Md) (row want : Int) : Prop where
  said : ∀ V, (validateF M V).1 = owed row want
  mo : MdOk M
  po : PartOk M

theorem validate_bad {M : Md} {V : VS} {r e : Int} (h : partsF M = (r, e)) (he : e ≠ 0) : (validateF M V).1 = owed r e := by
  unfold validateF owed
  rw [h, if_pos he, if_neg he]

theorem validate_good {M : Md} {V : VS} {r : Int} (h : partsF M = (r, 0)) (hb : (bodyF M V).1 = (0, 0)) (r' : Int) : (validateF M V).1 = owed r' 0 := by
  unfold validateF owed
  rw [h, if_neg (by simp), hb, if_neg (by simp)]
  rfl

/-- the empty body -/
theorem body_empty {M : Md} (V : VS) (hf : M.ft = 0) (hb : M.body = [⟨11, 0, 0⟩]) : (bodyF M V).1 = (0, 0) := by
  unfold bodyF
  rw [hf, hb]
  simp [typeText, splitF, runF, stepF, endF, settledF, carryF, headV, firstF, upd]

/-- the body that calls through the table -/
theorem body_table {M : Md} (V : VS) (hf : M.ft = 0) (hb : M.body = [⟨65, 0, 0⟩, ⟨17, 0, 0⟩, ⟨11, 0, 0⟩]) (ht : 0 ≤ M.tabMin) : (bodyF M V).1 = (0, 0) := by
  have h1 : ¬ M.tabMin < 0 := by omega
  unfold bodyF
  rw [hf, hb]
  simp [typeText, splitF, runF, stepF, endF, settledF, carryF, headV, firstF, upd, plainF, callF, callEnd, popsF, popsL, popF, pushF, after, typedF, constOfF, h1]

/-- the body that asks the memory's size -/
theorem body_memory {M : Md} (V : VS) (hf : M.ft = 0) (hb : M.body = [⟨63, 0, 0⟩, ⟨26, 0, 0⟩, ⟨11, 0, 0⟩]) (ht : 0 ≤ M.memMin) : (bodyF M V).1 = (0, 0) := by
  have h1 : ¬ M.memMin < 0 := by omega
  unfold bodyF
  rw [hf, hb]
  simp [typeText, splitF, runF, stepF, endF, settledF, carryF, headV, firstF, upd, plainF, memoryF, popF, pushF, after, typedF, h1]

theorem off0 : offOp 0 = 65 := by kernel_rfl
theorem off1 : offOp 1 = 66 := by kernel_rfl
theorem off2 : offOp 2 = 67 := by kernel_rfl
theorem off3 : offOp 3 = 68 := by kernel_rfl
theorem offOp_small {C : Int} (h0 : 0 ≤ C) (h3 : C ≤ 3) : offOp C = 65 + C := by
  have : C = 0 ∨ C = 1 ∨ C = 2 ∨ C = 3 := by omega
  rcases this with rfl | rfl | rfl | rfl
  · exact off0
  · exact off1
  · exact off2
  · exact off3

/-! ### The parts, one by one -/

theorem typeOf0 (M : Md) : typeOfF M ((0 : Nat) : Int) = if 0 ≤ M.it ∧ M.it < 3 then (typeText M M.it.toNat, true) else ([], false) := by simp [typeOfF]
theorem typeOf1 (M : Md) : typeOfF M ((1 : Nat) : Int) = if 0 ≤ M.ft ∧ M.ft < 3 then (typeText M M.ft.toNat, true) else ([], false) := by simp [typeOfF]
theorem type0_ok {M : Md} (h : 0 ≤ M.it) (h2 : M.it ≤ 2) : typeBad M 0 = none := by
  rw [typeBad, show typeOfF M ((0 : Nat) : Int) = _ from by rw [typeOf0, if_pos ⟨h, by omega⟩]]; rfl
theorem type1_ok {M : Md} (h : 0 ≤ M.ft) (h2 : M.ft ≤ 2) : typeBad M 1 = none := by
  rw [typeBad, show typeOfF M ((1 : Nat) : Int) = _ from by rw [typeOf1, if_pos ⟨h, by omega⟩]]; rfl
theorem type0_no {M : Md} (h : M.it < 0 ∨ 2 < M.it) : typeBad M 0 = some 14 := by
  rw [typeBad, show typeOfF M ((0 : Nat) : Int) = _ from by rw [typeOf0, if_neg (by omega)]]; rfl
theorem type1_no {M : Md} (h : M.ft < 0 ∨ 2 < M.ft) : typeBad M 1 = some 14 := by
  rw [typeBad, show typeOfF M ((1 : Nat) : Int) = _ from by rw [typeOf1, if_neg (by omega)]]; rfl
theorem types_ok {M : Md} (hi : 0 ≤ M.it) (hi2 : M.it ≤ 2) (hf : 0 ≤ M.ft) (hf2 : M.ft ≤ 2) : firstBad (typeBad M) 0 2 = (0, 0) := by
  simp [firstBad, type0_ok hi hi2, type1_ok hf hf2]
theorem types_imp {M : Md} (hi : M.it < 0 ∨ 2 < M.it) : firstBad (typeBad M) 0 2 = (0, 14) := by
  simp [firstBad, type0_no hi]
theorem types_own {M : Md} (hi : 0 ≤ M.it) (hi2 : M.it ≤ 2) (hf : M.ft < 0 ∨ 2 < M.ft) : firstBad (typeBad M) 0 2 = (1, 14) := by
  simp [firstBad, type0_ok hi hi2, type1_no hf]
theorem globs_ok {M : Md} (h : ∀ i, i < 4 → M.gin i = 65 + (i : Int)) : firstBad (globBad M) 0 4 = (0, 0) := by
  have k : ∀ i, i < 4 → globBad M i = none := fun i hi => by
    rw [globBad, h i hi, if_pos]
    unfold constOfF gType
    rw [if_pos (by omega)]; omega
  simp [firstBad, k]

theorem limits_minus (most : Int) (h : 0 ≤ most) : limitsF (-1) (-1) most = true := by
  unfold limitsF; rw [if_neg (by omega)]; simp
theorem limits_frame (most : Int) (h : 1 ≤ most) : limitsF 1 (-1) most = true := by
  unfold limitsF; rw [if_neg (by omega)]; simp

/-- the parts behind the globals -/
def restF (M : Md) : Int × Int :=
  if (firstBad (expBad M) 0 M.exps.length).2 ≠ 0 then firstBad (expBad M) 0 M.exps.length
  else match startF M with
    | some e => (0, e)
    | none => segF M

theorem parts_imp {M : Md} (hi : M.it < 0 ∨ 2 < M.it) : partsF M = (0, 14) := by
  unfold partsF; rw [types_imp hi, if_pos (by simp)]
theorem parts_own {M : Md} (hi : 0 ≤ M.it) (hi2 : M.it ≤ 2) (hf : M.ft < 0 ∨ 2 < M.ft) : partsF M = (1, 14) := by
  unfold partsF; rw [types_own hi hi2 hf, if_pos (by simp)]
theorem parts_tab {M : Md} (hT : firstBad (typeBad M) 0 2 = (0, 0)) (hL : limitsF M.tabMin M.tabMax 8 = false) : partsF M = (0, 16) := by
  unfold partsF; rw [hT, if_neg (by simp), if_pos hL]
theorem parts_mem {M : Md} (hT : firstBad (typeBad M) 0 2 = (0, 0)) (hL : limitsF M.tabMin M.tabMax 8 = true) (hm : limitsF M.memMin M.memMax 6 = false) : partsF M = (1, 16) := by
  unfold partsF; rw [hT, if_neg (by simp), hL, if_neg (by simp), if_pos hm]
theorem parts_glob {M : Md} {r e : Int} (hT : firstBad (typeBad M) 0 2 = (0, 0)) (hL : limitsF M.tabMin M.tabMax 8 = true) (hm : limitsF M.memMin M.memMax 6 = true) (hG : firstBad (globBad M) 0 4 = (r, e)) (he : e ≠ 0) : partsF M = (r, e) := by
  unfold partsF; rw [hT, if_neg (by simp), hL, if_neg (by simp), hm, if_neg (by simp), hG, if_pos he]
theorem parts_rest {M : Md} (hT : firstBad (typeBad M) 0 2 = (0, 0)) (hL : limitsF M.tabMin M.tabMax 8 = true) (hm : limitsF M.memMin M.memMax 6 = true) (hG : firstBad (globBad M) 0 4 = (0, 0)) : partsF M = restF M := by
  unfold partsF restF; rw [hT, if_neg (by simp), hL, if_neg (by simp), hm, if_neg (by simp), hG, if_neg (by simp)]
  rfl

theorem mo_user {M : Md} (A : Int) (h1 : M.t1.length ≤ 1000) (hb : M.body = userF A) (ht : M.tabs = []) : MdOk M := by
  have hu : userF A = [⟨65, 0, 0⟩, ⟨17, 0, 0⟩, ⟨11, 0, 0⟩] ∨ userF A = [⟨63, 0, 0⟩, ⟨26, 0, 0⟩, ⟨11, 0, 0⟩] ∨ userF A = [⟨11, 0, 0⟩] := by
    unfold userF
    split
    · exact .inl rfl
    · split
      · exact .inr (.inl rfl)
      · exact .inr (.inr rfl)
  have k : ∀ l : List Insn, (l = [⟨65, 0, 0⟩, ⟨17, 0, 0⟩, ⟨11, 0, 0⟩] ∨ l = [⟨63, 0, 0⟩, ⟨26, 0, 0⟩, ⟨11, 0, 0⟩] ∨ l = [⟨11, 0, 0⟩]) → l.length ≤ 3 ∧ ∀ i, i < l.length → 0 ≤ (l.getD i ins0).op ∧ (l.getD i ins0).op ≤ 255 ∧ (l.getD i ins0).x = 0 ∧ (l.getD i ins0).op ≠ 14 := by
    intro l h
    rcases h with rfl | rfl | rfl
    · refine ⟨by simp, fun i hi => ?_⟩
      match i, hi with
      | 0, _ => simp
      | 1, _ => simp
      | 2, _ => simp
    · refine ⟨by simp, fun i hi => ?_⟩
      match i, hi with
      | 0, _ => simp
      | 1, _ => simp
      | 2, _ => simp
    · refine ⟨by simp, fun i hi => ?_⟩
      match i, hi with
      | 0, _ => simp
  obtain ⟨kl, ko⟩ := k _ hu
  rw [← hb] at kl ko
  refine ⟨h1, by omega, fun i hi => ⟨(ko i hi).1, (ko i hi).2.1⟩, fun i hi => ?_, fun i hi e => absurd e (ko i hi).2.2.2, ?_, ?_⟩
  · rw [(ko i hi).2.2.1]; omega
  · rw [ht]; simp
  · rw [ht]; simp

end Go.Proofs.Qxb6500273a
