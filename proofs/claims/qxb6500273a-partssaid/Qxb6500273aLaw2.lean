/-
  PLAIN LEAN: each turned module, and what is owed there.
-/
import Derived.Test.Qxb6500273aLaw
namespace Go.Proofs.Qxb6500273a

theorem po_frame {M : Md} (hx : M.exps = []) (he : M.elems = []) (hd : M.datas.length ≤ 1000) (hg : ∀ i, i < 4 → 0 ≤ M.gin i ∧ M.gin i ≤ 255) (hs : M.start ≤ 9223372036854775807) : PartOk M :=
  ⟨by rw [hx]; simp, by rw [hx]; simp, by rw [he]; simp, by rw [he]; simp, hd, hg, hs⟩

theorem gin0 (t : Int) (b : List Insn) (ts : List Int) : ∀ i, i < 4 → 0 ≤ (mod0 t b ts).gin i ∧ (mod0 t b ts).gin i ≤ 255 := fun i hi => by
  show 0 ≤ 65 + (i : Int) ∧ 65 + (i : Int) ≤ 255; omega

theorem user_else {A : Int} (h3 : A ≠ 3) (h4 : A ≠ 4) : userF A = [⟨11, 0, 0⟩] := by
  unfold userF; rw [if_neg h3, if_neg h4]

/-- the frame's own parts are good -/
theorem frame_rest {M : Md} (h1 : M.it = 1) (h2 : M.ft = 0) (h3 : M.tabMin = 1 ∨ M.tabMin = -1) (h4 : M.tabMax = -1) (h5 : M.memMin = 1 ∨ M.memMin = -1) (h6 : M.memMax = -1) (hg : ∀ i, i < 4 → M.gin i = 65 + (i : Int)) : partsF M = restF M := by
  refine parts_rest (types_ok (by omega) (by omega) (by omega) (by omega)) ?_ ?_ (globs_ok hg)
  · rw [h4]; rcases h3 with h | h <;> rw [h] <;> rfl
  · rw [h6]; rcases h5 with h | h <;> rw [h] <;> rfl

/-! ### The import's type, the own function's -/

theorem owes_import (M : Md) (A B : Int) (h3 : A ≠ 3) (h4 : A ≠ 4) (hM : M = mod0 0 (userF A) []) : Owes { M with it := B } 0 (if 0 ≤ B ∧ B ≤ 2 then 0 else 14) := by
  subst hM
  refine ⟨fun V => ?_, mo_user A (by simp [mod0]) rfl rfl, po_frame rfl rfl (by simp [mod0]) (gin0 0 (userF A) []) (by simp [mod0])⟩
  by_cases h : 0 ≤ B ∧ B ≤ 2
  · rw [if_pos h]
    refine validate_good (r := 0) ?_ (body_empty V rfl (user_else h3 h4)) 0
    rw [parts_rest (types_ok h.1 h.2 (by simp [mod0]) (by simp [mod0])) rfl rfl (globs_ok fun i _ => rfl)]
    rfl
  · rw [if_neg h]
    exact validate_bad (parts_imp (by simp only []; omega)) (by omega)

theorem owes_func (M : Md) (A B : Int) (h : B < 0 ∨ 2 < B) (hM : M = mod0 0 (userF A) []) : Owes { M with ft := B } 1 14 := by
  subst hM
  exact ⟨fun _ => validate_bad (parts_own (by simp [mod0]) (by simp [mod0]) h) (by omega), mo_user A (by simp [mod0]) rfl rfl, po_frame rfl rfl (by simp [mod0]) (gin0 0 (userF A) []) (by simp [mod0])⟩

/-! ### Limits -/

theorem limited_cases (lo hi most : Int) : (limitsF lo hi most = true ∧ limitedF lo hi most = 0) ∨ (limitsF lo hi most = false ∧ limitedF lo hi most = 16) := by
  unfold limitsF limitedF
  by_cases h : most < lo
  · rw [if_pos h, if_pos h]; exact .inr ⟨rfl, rfl⟩
  · rw [if_neg h, if_neg h]
    by_cases h1 : hi = -1
    · left; rw [if_neg (fun e => e.1 h1)]; simp [h1]
    · by_cases h2 : hi < lo
      · right; rw [if_pos ⟨h1, h2⟩]; simp [h1]; omega
      · left; rw [if_neg (fun e => h2 e.2)]; simp [h1]; omega

theorem owes_table (M : Md) (B C : Int) (hB : 0 ≤ B) (hM : M = mod0 0 (userF 3) []) : Owes { M with tabMin := B, tabMax := C, exps := [⟨[97], 1, 0⟩] } 0 (limitedF B C 8) := by
  subst hM
  refine ⟨fun V => ?_, mo_user 3 (by simp [mod0]) rfl rfl, ⟨by simp, one3 (by simp), by simp [mod0], by simp [mod0], by simp [mod0], gin0 0 (userF 3) [], by simp [mod0]⟩⟩
  rcases limited_cases B C 8 with ⟨h, e⟩ | ⟨h, e⟩
  · rw [e]
    refine validate_good (r := 0) ?_ (body_table V rfl rfl hB) 0
    rw [parts_rest (types_ok (by simp [mod0]) (by simp [mod0]) (by simp [mod0]) (by simp [mod0])) h rfl (globs_ok fun i _ => rfl)]
    have hB2 : ¬ B < 0 := by omega
    simp [restF, firstBad, expBad, expCount, thereF, hB2, dupB, startF, mod0, segF]
  · rw [e]
    exact validate_bad (parts_tab (types_ok (by simp [mod0]) (by simp [mod0]) (by simp [mod0]) (by simp [mod0])) h) (by omega)

theorem owes_memory (M : Md) (B C : Int) (hB : 0 ≤ B) (hM : M = mod0 0 (userF 4) []) : Owes { M with memMin := B, memMax := C, exps := [⟨[97], 2, 0⟩] } 1 (limitedF B C 6) := by
  subst hM
  refine ⟨fun V => ?_, mo_user 4 (by simp [mod0]) rfl rfl, ⟨by simp, one3 (by simp), by simp [mod0], by simp [mod0], by simp [mod0], gin0 0 (userF 4) [], by simp [mod0]⟩⟩
  rcases limited_cases B C 6 with ⟨h, e⟩ | ⟨h, e⟩
  · rw [e]
    refine validate_good (r := 0) ?_ (body_memory V rfl rfl hB) 1
    rw [parts_rest (types_ok (by simp [mod0]) (by simp [mod0]) (by simp [mod0]) (by simp [mod0])) rfl h (globs_ok fun i _ => rfl)]
    have hB2 : ¬ B < 0 := by omega
    simp [restF, firstBad, expBad, expCount, thereF, hB2, dupB, startF, mod0, segF]
  · rw [e]
    exact validate_bad (parts_mem (types_ok (by simp [mod0]) (by simp [mod0]) (by simp [mod0]) (by simp [mod0])) rfl h) (by omega)

/-! ### Globals -/

theorem globBad_of (M : Md) (i : Nat) (x : Int) (h : M.gin i = x) : globBad M i = if constOfF x = gType i then none else some 27 := by subst h; rfl

theorem glob_turned (M : Md) (hM : ∀ i, i < 4 → M.gin i = 65 + (i : Int)) (q : Nat) (hq : q < 4) (C : Int) (h0 : 0 ≤ C) (h3 : C ≤ 3) (hn : C ≠ q) :
    firstBad (globBad { M with gin := upd M.gin q (65 + C) }) 0 4 = ((q : Int), 27) := by
  have ok : ∀ i, i < 4 → i ≠ q → globBad { M with gin := upd M.gin q (65 + C) } i = none := fun i hi hne => by
    have e : upd M.gin q (65 + C) i = 65 + (i : Int) := by simp [upd, hne, hM i hi]
    rw [globBad_of _ _ _ e, if_pos]
    unfold constOfF gType
    rw [if_pos (by omega)]; omega
  have no : globBad { M with gin := upd M.gin q (65 + C) } q = some 27 := by
    have e : upd M.gin q (65 + C) q = 65 + C := by simp [upd]
    rw [globBad_of _ _ _ e, if_neg]
    unfold constOfF gType
    rw [if_pos (by omega)]; omega
  match q, hq with
  | 0, _ => simp [firstBad, no]
  | 1, _ => simp [firstBad, no, ok 0 (by omega) (by omega)]
  | 2, _ => simp [firstBad, no, ok 0 (by omega) (by omega), ok 1 (by omega) (by omega)]
  | 3, _ => simp [firstBad, no, ok 0 (by omega) (by omega), ok 1 (by omega) (by omega), ok 2 (by omega) (by omega)]

theorem owes_global (M : Md) (q : Nat) (hq : q < 4) (C : Int) (h0 : 0 ≤ C) (h3 : C ≤ 3) (hM : M = mod0 0 (userF 5) []) : Owes { M with gin := upd M.gin q (offOp C) } (if C = q then 0 else q) (if C = q then 0 else 27) := by
  rw [offOp_small h0 h3]
  subst hM
  refine ⟨fun V => ?_, mo_user 5 (by simp [mod0]) rfl rfl, po_frame rfl rfl (by simp [mod0]) (fun i hi => ?_) (by simp [mod0])⟩
  · by_cases h : C = q
    · rw [if_pos h, if_pos h]
      refine validate_good (r := 0) ?_ (body_empty V rfl rfl) 0
      rw [frame_rest rfl rfl (.inl rfl) rfl (.inl rfl) rfl (fun i hi => ?_)]
      · rfl
      · show upd _ q (65 + C) i = _
        unfold upd
        split
        · omega
        · rfl
    · rw [if_neg h, if_neg h]
      exact validate_bad (parts_glob (types_ok (by simp [mod0]) (by simp [mod0]) (by simp [mod0]) (by simp [mod0])) rfl rfl (glob_turned _ (fun i _ => rfl) q hq C h0 h3 h) (by omega)) (by omega)
  · show 0 ≤ upd _ q (65 + C) i ∧ upd _ q (65 + C) i ≤ 255
    unfold upd
    split
    · omega
    · exact gin0 0 (userF 5) [] i hi

/-! ### Exports -/

theorem owes_export (M : Md) (q : Int) (hq : 0 ≤ q) (hq3 : q ≤ 3) (C : Int) (hu : u32F C = true) (hM : M = mod0 0 (userF 6) []) :
    Owes { M with exps := [⟨[97], q, C % 4294967296⟩] } 0 (if (if q = 0 then 2 else if q = 3 then 4 else 1) ≤ C then 17 else 0) := by
  simp only [u32F, decide_eq_true_eq] at hu
  have hC : C % 4294967296 = C := by omega
  rw [hC]
  have hr : partsF { M with exps := [⟨[97], q, C⟩] } = restF { M with exps := [⟨[97], q, C⟩] } := by
    subst hM
    exact frame_rest rfl rfl (.inl rfl) rfl (.inl rfl) rfl (fun i hi => rfl)
  have hc : expCount { M with exps := [⟨[97], q, C⟩] } q = (if q = 0 then 2 else if q = 3 then 4 else 1) := by
    subst hM
    have : q = 0 ∨ q = 1 ∨ q = 2 ∨ q = 3 := by omega
    rcases this with rfl | rfl | rfl | rfl <;> rfl
  subst hM
  refine ⟨fun V => ?_, mo_user 6 (by simp [mod0]) rfl rfl, ⟨by simp, one3 (by simpa using hu), by simp [mod0], by simp [mod0], by simp [mod0], gin0 0 (userF 6) [], by simp [mod0]⟩⟩
  generalize (if q = 0 then (2 : Int) else if q = 3 then 4 else 1) = n at *
  by_cases h : n ≤ C
  · rw [if_pos h]
    refine validate_bad ?_ (by omega)
    rw [hr]
    simp [restF, firstBad, expBad, hc, h]
  · rw [if_neg h]
    refine validate_good (r := 0) ?_ (body_empty V rfl rfl) 0
    rw [hr]
    simp [restF, firstBad, expBad, hc, h, dupB]
    simp [startF, mod0, segF, firstBad]

theorem owes_export2 (M : Md) (q : Int) (hq : 0 ≤ q) (hq3 : q ≤ 3) (C : Int) (hu : u32F C = true) (hM : M = mod0 0 (userF 6) []) :
    Owes { M with exps := [⟨[97], q, C % 4294967296⟩], tabMin := -1, memMin := -1 } 0 (if (if q = 0 then 2 else if q = 3 then 4 else 0) ≤ C then 17 else 0) := by
  simp only [u32F, decide_eq_true_eq] at hu
  have hC : C % 4294967296 = C := by omega
  rw [hC]
  have hr : partsF { M with exps := [⟨[97], q, C⟩], tabMin := -1, memMin := -1 } = restF { M with exps := [⟨[97], q, C⟩], tabMin := -1, memMin := -1 } := by
    subst hM
    exact frame_rest rfl rfl (.inr rfl) rfl (.inr rfl) rfl (fun i hi => rfl)
  have hc : expCount { M with exps := [⟨[97], q, C⟩], tabMin := -1, memMin := -1 } q = (if q = 0 then 2 else if q = 3 then 4 else 0) := by
    subst hM
    have : q = 0 ∨ q = 1 ∨ q = 2 ∨ q = 3 := by omega
    rcases this with rfl | rfl | rfl | rfl <;> rfl
  subst hM
  refine ⟨fun V => ?_, mo_user 6 (by simp [mod0]) rfl rfl, ⟨by simp, one3 (by simpa using hu), by simp [mod0], by simp [mod0], by simp [mod0], gin0 0 (userF 6) [], by simp [mod0]⟩⟩
  generalize (if q = 0 then (2 : Int) else if q = 3 then 4 else 0) = n at *
  by_cases h : n ≤ C
  · rw [if_pos h]
    refine validate_bad ?_ (by omega)
    rw [hr]
    simp [restF, firstBad, expBad, hc, h]
  · rw [if_neg h]
    refine validate_good (r := 0) ?_ (body_empty V rfl rfl) 0
    rw [hr]
    simp [restF, firstBad, expBad, hc, h, dupB]
    simp [startF, mod0, segF, firstBad]

theorem owes_twins (M : Md) (S T : List UInt8) (r e : Int) (h : (S = T ∧ r = 1 ∧ e = 18) ∨ (S ≠ T ∧ r = 0 ∧ e = 0)) (hM : M = mod0 0 (userF 7) []) : Owes { M with exps := [⟨S, 0, 1⟩, ⟨T, 2, 0⟩] } r e := by
  have hr : partsF { M with exps := [⟨S, 0, 1⟩, ⟨T, 2, 0⟩] } = restF { M with exps := [⟨S, 0, 1⟩, ⟨T, 2, 0⟩] } := by
    subst hM
    exact frame_rest rfl rfl (.inl rfl) rfl (.inl rfl) rfl (fun i hi => rfl)
  subst hM
  refine ⟨fun V => ?_, mo_user 7 (by simp [mod0]) rfl rfl, ⟨by simp, two3 (by simp) (by simp), by simp [mod0], by simp [mod0], by simp [mod0], gin0 0 (userF 7) [], by simp [mod0]⟩⟩
  rcases h with ⟨h, rfl, rfl⟩ | ⟨h, rfl, rfl⟩
  · refine validate_bad ?_ (by omega)
    rw [hr]
    simp [restF, firstBad, expBad, expCount, thereF, mod0, dupB, h]
  · refine validate_good (r := 0) ?_ (body_empty V rfl rfl) 0
    rw [hr]
    simp [restF, firstBad, expBad, expCount, thereF, mod0, dupB, h, startF, segF]

/-! ### The start function -/

theorem owes_start (M : Md) (B C r e : Int) (hB : B ≤ 9223372036854775807) (h : (2 ≤ B ∧ r = 0 ∧ e = 15) ∨ (B = 0 ∧ C ≠ 0 ∧ r = 0 ∧ e = 19) ∨ (B = 0 ∧ C = 0 ∧ r = 0 ∧ e = 0) ∨ (B = 1 ∧ r = 0 ∧ e = 0)) (hM : M = mod0 0 (userF 8) []) :
    Owes { M with start := B, t1 := importTypeF C } r e := by
  have hl : (importTypeF C).length ≤ 1000 := by unfold importTypeF; split <;> (try split) <;> (try split) <;> simp
  have hr : partsF { M with start := B, t1 := importTypeF C } = restF { M with start := B, t1 := importTypeF C } := by
    subst hM
    exact frame_rest rfl rfl (.inl rfl) rfl (.inl rfl) rfl (fun i hi => rfl)
  subst hM
  refine ⟨fun V => ?_, mo_user 8 hl rfl rfl, po_frame rfl rfl (by simp [mod0]) (gin0 0 (userF 8) []) hB⟩
  rcases h with ⟨h, rfl, rfl⟩ | ⟨rfl, h, rfl, rfl⟩ | ⟨rfl, rfl, rfl, rfl⟩ | ⟨rfl, rfl, rfl⟩
  · refine validate_bad ?_ (by omega)
    rw [hr]
    have b1 : ¬ B = -1 := by omega
    have b2 : ¬ B = 0 := by omega
    have b3 : ¬ B = 1 := by omega
    simp [restF, firstBad, mod0, startF, typeOfF, b1, b2, b3]
  · refine validate_bad ?_ (by omega)
    rw [hr]
    have hne : importTypeF C ≠ [58] := by
      unfold importTypeF
      rw [if_neg h]
      split
      · simp
      · split <;> simp
    simp [restF, firstBad, mod0, startF, typeOfF, typeText, hne]
  · refine validate_good (r := 0) ?_ (body_empty V rfl rfl) 0
    rw [hr]
    rfl
  · refine validate_good (r := 0) ?_ (body_empty V rfl rfl) 0
    rw [hr]
    rfl

/-! ### Segments -/

theorem owes_elem (M : Md) (A B C r e : Int) (h3 : A ≠ 3) (h4 : A ≠ 4) (h0 : 0 ≤ C) (hC : C ≤ 3) (hu : u32F B = true) (h : (C ≠ 0 ∧ r = 0 ∧ e = 27) ∨ (C = 0 ∧ 2 ≤ B ∧ r = 0 ∧ e = 15) ∨ (C = 0 ∧ B < 2 ∧ r = 0 ∧ e = 0)) (hM : M = mod0 0 (userF A) []) :
    Owes { M with elems := [⟨offOp C, [B % 4294967296]⟩] } r e := by
  rw [offOp_small h0 hC]
  simp only [u32F, decide_eq_true_eq] at hu
  have hBm : B % 4294967296 = B := by omega
  rw [hBm]
  have hr : partsF { M with elems := [⟨65 + C, [B]⟩] } = restF { M with elems := [⟨65 + C, [B]⟩] } := by
    subst hM
    exact frame_rest rfl rfl (.inl rfl) rfl (.inl rfl) rfl (fun i hi => rfl)
  subst hM
  refine ⟨fun V => ?_, mo_user A (by simp [mod0]) rfl rfl, ⟨by simp [mod0], by simp [mod0], by simp, one3 ⟨by simp, fun j => ?_⟩, by simp [mod0], gin0 0 (userF A) [], by simp [mod0]⟩⟩
  · rcases h with ⟨h, rfl, rfl⟩ | ⟨rfl, h, rfl, rfl⟩ | ⟨rfl, h, rfl, rfl⟩
    · refine validate_bad ?_ (by omega)
      rw [hr]
      have b1 : ¬ 65 + C = 65 := by omega
      simp [restF, firstBad, mod0, startF, segF, elemBad, b1]
    · refine validate_bad ?_ (by omega)
      rw [hr]
      simp [restF, firstBad, mod0, startF, segF, elemBad, fnsBad, h]
    · refine validate_good (r := 0) ?_ (body_empty V rfl (user_else h3 h4)) 0
      rw [hr]
      have h5 : ¬ 2 ≤ B := by omega
      simp [restF, firstBad, mod0, startF, segF, elemBad, fnsBad, h5]
  · match j with
    | 0 => simpa using hu
    | j + 1 => simp

theorem owes_elemOff (M : Md) (A B C : Int) (h0 : 0 ≤ C) (hC : C ≤ 3) (hu : u32F B = true) (hM : M = mod0 0 (userF A) []) :
    Owes { M with elems := [⟨offOp C, [B % 4294967296]⟩], tabMin := -1 } 0 21 := by
  rw [offOp_small h0 hC]
  simp only [u32F, decide_eq_true_eq] at hu
  have hBm : B % 4294967296 = B := by omega
  rw [hBm]
  have hr : partsF { M with elems := [⟨65 + C, [B]⟩], tabMin := -1 } = restF { M with elems := [⟨65 + C, [B]⟩], tabMin := -1 } := by
    subst hM
    exact frame_rest rfl rfl (.inr rfl) rfl (.inl rfl) rfl (fun i hi => rfl)
  subst hM
  refine ⟨fun V => ?_, mo_user A (by simp [mod0]) rfl rfl, ⟨by simp [mod0], by simp [mod0], by simp, one3 ⟨by simp, fun j => ?_⟩, by simp [mod0], gin0 0 (userF A) [], by simp [mod0]⟩⟩
  · refine validate_bad ?_ (by omega)
    rw [hr]
    simp [restF, firstBad, mod0, startF, segF, elemBad]
  · match j with
    | 0 => simpa using hu
    | j + 1 => simp

theorem owes_data (M : Md) (A C r e : Int) (h3 : A ≠ 3) (h4 : A ≠ 4) (h0 : 0 ≤ C) (hC : C ≤ 3) (h : (C ≠ 0 ∧ r = 0 ∧ e = 27) ∨ (C = 0 ∧ r = 0 ∧ e = 0)) (hM : M = mod0 0 (userF A) []) :
    Owes { M with datas := [offOp C] } r e := by
  rw [offOp_small h0 hC]
  have hr : partsF { M with datas := [65 + C] } = restF { M with datas := [65 + C] } := by
    subst hM
    exact frame_rest rfl rfl (.inl rfl) rfl (.inl rfl) rfl (fun i hi => rfl)
  subst hM
  refine ⟨fun V => ?_, mo_user A (by simp [mod0]) rfl rfl, po_frame rfl rfl (by simp) (gin0 0 (userF A) []) (by simp [mod0])⟩
  rcases h with ⟨h, rfl, rfl⟩ | ⟨rfl, rfl, rfl⟩
  · refine validate_bad ?_ (by omega)
    rw [hr]
    have b1 : ¬ 65 + C = 65 := by omega
    simp [restF, firstBad, mod0, startF, segF, dataBad, b1]
  · refine validate_good (r := 0) ?_ (body_empty V rfl (user_else h3 h4)) 0
    rw [hr]
    simp [restF, firstBad, mod0, startF, segF, dataBad]

theorem owes_dataOff (M : Md) (A C : Int) (h0 : 0 ≤ C) (hC : C ≤ 3) (hM : M = mod0 0 (userF A) []) : Owes { M with datas := [offOp C], memMin := -1 } 0 20 := by
  rw [offOp_small h0 hC]
  have hr : partsF { M with datas := [65 + C], memMin := -1 } = restF { M with datas := [65 + C], memMin := -1 } := by
    subst hM
    exact frame_rest rfl rfl (.inl rfl) rfl (.inr rfl) rfl (fun i hi => rfl)
  subst hM
  refine ⟨fun V => ?_, mo_user A (by simp [mod0]) rfl rfl, po_frame rfl rfl (by simp) (gin0 0 (userF A) []) (by simp [mod0])⟩
  refine validate_bad ?_ (by omega)
  rw [hr]
  simp [restF, firstBad, mod0, startF, segF, dataBad]

end Go.Proofs.Qxb6500273a
