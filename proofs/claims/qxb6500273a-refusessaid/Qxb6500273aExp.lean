/-
  WALKS: exports, segments.
-/
import Derived.Test.Qxb6500273aMod
import Derived.Test.Qxb6500273aLeaf
namespace Go.Proofs.Qxb6500273a
open Go.RowKit

theorem dn2 (w : World) (a b : Nat) : ∃ n, (w.drewN a).drewN b = w.drewN n := ⟨a + b, World.drewN_drewN _ _ _⟩

theorem firstBad_some (f : Nat → Option Int) (i k : Nat) (e : Int) (h : f i = some e) : firstBad f i (k + 1) = ((i : Int), e) := by simp [firstBad, h]
theorem firstBad_none (f : Nat → Option Int) (i k : Nat) (h : f i = none) : firstBad f i (k + 1) = firstBad f (i + 1) k := by simp [firstBad, h]

theorem dupB_hit (es : List Expo) (nm : List UInt8) (j : Nat) (h : (es.getD j exp0).name = nm) : ∀ k, j < k → dupB es nm k = true
  | 0, hk => by omega
  | k + 1, hk => by
    unfold dupB
    by_cases e : j = k
    · subst e; rw [h]; simp only [decide_true, Bool.or_true]
    · rw [dupB_hit es nm j h k (by omega)]; rfl

theorem fnsBad_hit (l : List Int) (j : Nat) (h : 2 ≤ l.getD j 0) : ∀ k, j < k → fnsBad l k = true
  | 0, hk => by omega
  | k + 1, hk => by
    unfold fnsBad
    by_cases e : j = k
    · subst e; simp only [decide_eq_true h, Bool.or_true]
    · rw [fnsBad_hit l j h k (by omega)]; rfl

/-- exports and segments bear numbers of their kinds -/
structure PartOk (M : Md) : Prop where
  xl : M.exps.length ≤ 1000
  xi : ∀ i, i < M.exps.length → 0 ≤ (M.exps.getD i exp0).idx ∧ (M.exps.getD i exp0).idx ≤ 4294967295
  el : M.elems.length ≤ 1000
  ef : ∀ i, i < M.elems.length → (M.elems.getD i elm0).fns.length ≤ 1000 ∧ ∀ j, 0 ≤ (M.elems.getD i elm0).fns.getD j 0 ∧ (M.elems.getD i elm0).fns.getD j 0 ≤ 4294967295
  dl : M.datas.length ≤ 1000
  gi : ∀ i, i < 4 → 0 ≤ M.gin i ∧ M.gin i ≤ 255
  st : M.start ≤ 9223372036854775807

set_option maxRecDepth 100000 in
set_option maxHeartbeats 2000000 in
theorem exports_any (bv : Nat) (L : Lay) (M : Md) (w : World) (hM : ModAt w bv L M) (po : PartOk M) :
    Calls Try.prog 49 #[.pointer (some ⟨L.p, 0, none⟩), .int .i64 2] w fun e w' => e = .returned (.tuple #[.int .i64 (firstBad (expBad M) 0 M.exps.length).1, .int .i64 (firstBad (expBad M) 0 M.exps.length).2]) ∧ ∃ n, w' = w.drewN n := by
  generalize hR : firstBad (expBad M) 0 M.exps.length = R
  have HR : Hid (firstBad (expBad M) 0 (M.exps.length - 0) = R) := hR
  have hl := po.xl
  have m8 := hM.m8
  clear hR
  go_enter Try.func49, Try.ntmps49
  go_wp2
  go_loopw [6] (fun i w' => ∃ k : Nat, k ≤ M.exps.length ∧ i = .int .i64 k ∧ Hid (firstBad (expBad M) k (M.exps.length - k) = R) ∧ ∃ n, w' = w.drewN n) (fun i _ => M.exps.length - (intOf i).toNat)
  case atStart => exact ⟨0, by omega, rfl, HR, 0, rfl⟩
  case round =>
    obtain ⟨k, hk, rfl, hs, nn, rfl⟩ := hrel
    clear HR
    by_cases hlt : k < M.exps.length
    · have x0 := hM.x0 k hlt
      rw [x0.1] at m8
      have x0' := x0.2
      have x1 := hM.x1 k hlt
      have x2 := hM.x2 k hlt
      have hxi := po.xi k hlt
      have m3 := hM.m3
      have m5 := hM.m5
      have m7 := hM.m7
      obtain ⟨r, hr⟩ : ∃ r, M.exps.length - k = r + 1 := ⟨M.exps.length - k - 1, by omega⟩
      have hs' := hs.out
      rw [hr] at hs'
      have hr' : M.exps.length - (k + 1) = r := by omega
      have hE : expBad M k = if expCount M (M.exps.getD k exp0).kind ≤ (M.exps.getD k exp0).idx then some 17 else if dupB M.exps (M.exps.getD k exp0).name k = true then some 18 else none := rfl
      have HR2 : Hid (M.exps.length - (k + 1) = r) := hr'
      clear x0 hr hr'
      generalize M.exps.getD k exp0 = X at *
      by_cases hk1 : X.kind = 1
      · have hkv : X.kind = 1 := hk1
        rw [hkv] at x1
        have hc : expCount M X.kind = thereF M.tabMin := by unfold expCount; rw [if_pos hkv]
        rw [hc] at hE
        clear hc hkv
        have htr : 0 ≤ thereF M.tabMin ∧ thereF M.tabMin ≤ 1 := by unfold thereF; split <;> omega
        generalize htg : thereF M.tabMin = tv at *
        have HTG : Hid (thereF M.tabMin = tv) := htg
        clear htg
        generalize hidx : X.idx = idx at *
        by_cases hge : tv ≤ idx
        · rw [if_pos hge] at hE
          have HS : Hid (((k : Int), 17) = R) := by show _ = _; rw [← hs', firstBad_some _ _ _ _ hE]
          clear hE hs hs' hidx
          go_wp2_with (go_at_call 61; refine (there_any M.tabMin _).mono ?_; rw [HTG.out]; rintro e w2 ⟨rfl, rfl⟩)
          go_ret2
          rw [← HS.out]
          exact ⟨rfl, by first | exact ⟨_, rfl⟩ | exact dn2 _ _ _⟩
        · rw [if_neg hge] at hE
          have HE : Hid (expBad M k = if dupB M.exps X.name k = true then some 18 else none) := hE
          have HS : Hid (firstBad (expBad M) k (r + 1) = R) := hs'
          clear hE hs hs' hidx
          go_wp2_with (go_at_call 61; refine (there_any M.tabMin _).mono ?_; rw [HTG.out]; rintro e w2 ⟨rfl, rfl⟩)
          go_loopw [9] (fun j w' => ∃ q : Nat, q ≤ k ∧ j = .int .i64 q ∧ Hid (dupB M.exps X.name q = false) ∧ ∃ n, w' = w.drewN n) (fun j _ => k - (intOf j).toNat)
          case atStart => exact ⟨0, by omega, rfl, rfl, by first | exact ⟨_, rfl⟩ | exact dn2 _ _ _⟩
          case round =>
            obtain ⟨q, hq, rfl, hd, n2, rfl⟩ := hrel
            by_cases hqk : q < k
            · have y0 := (hM.x0 q (by omega)).2
              have hdup := dupB_hit M.exps X.name q
              have hdn : dupB M.exps X.name (q + 1) = (dupB M.exps X.name q || decide ((M.exps.getD q exp0).name = X.name)) := rfl
              generalize M.exps.getD q exp0 = Y at *
              by_cases hnm : Y.name = X.name
              · have bnm : (Y.name == X.name) = true := by rw [beq_iff_eq]; exact hnm
                have HF : Hid (((k : Int), 18) = R) := by
                  show _ = _
                  rw [← HS.out, firstBad_some _ _ _ 18 (by rw [HE.out, if_pos (hdup hnm k hqk)])]
                clear hnm hd HE HS hdup hdn
                go_wp2
                go_quiet (fail)
                go_wp2
                go_ret2
                rw [← HF.out]
                exact ⟨rfl, by first | exact ⟨_, rfl⟩ | exact dn2 _ _ _⟩
              · have bnm : (Y.name == X.name) = false := by rw [beq_eq_false_iff_ne]; exact hnm
                have HD : Hid (dupB M.exps X.name (q + 1) = false) := by
                  show _ = _
                  rw [hdn, hd.out, Bool.false_or]
                  exact decide_eq_false hnm
                clear hd hnm hdup hdn
                go_wp2
                go_quiet (fail)
                go_wp2
                go_roundw
                case rel => exact ⟨q + 1, by omega, by go_num, HD, by first | exact ⟨_, rfl⟩ | exact dn2 _ _ _⟩
                case measure => simp [intOf]; omega
            · have HF : Hid (firstBad (expBad M) (k + 1) (M.exps.length - (k + 1)) = R) := by
                show _ = _
                have e : q = k := by omega
                have hd' := hd.out
                rw [e] at hd'
                rw [← HS.out, firstBad_none _ _ _ (by rw [HE.out, if_neg (by rw [hd']; decide)]), HR2.out]
              clear hd
              go_wp2
              go_roundw
              case rel => exact ⟨k + 1, by omega, by go_num, HF, by first | exact ⟨_, rfl⟩ | exact dn2 _ _ _⟩
              case measure => simp [intOf]; omega
      by_cases hk2 : X.kind = 2
      · have hkv : X.kind = 2 := hk2
        rw [hkv] at x1
        have hc : expCount M X.kind = thereF M.memMin := by unfold expCount; rw [if_neg (by rw [hkv]; decide), if_pos hkv]
        rw [hc] at hE
        clear hc hkv
        have htr : 0 ≤ thereF M.memMin ∧ thereF M.memMin ≤ 1 := by unfold thereF; split <;> omega
        generalize htg : thereF M.memMin = tv at *
        have HTG : Hid (thereF M.memMin = tv) := htg
        clear htg
        generalize hidx : X.idx = idx at *
        by_cases hge : tv ≤ idx
        · rw [if_pos hge] at hE
          have HS : Hid (((k : Int), 17) = R) := by show _ = _; rw [← hs', firstBad_some _ _ _ _ hE]
          clear hE hs hs' hidx
          go_wp2_with (go_at_call 61; refine (there_any M.memMin _).mono ?_; rw [HTG.out]; rintro e w2 ⟨rfl, rfl⟩)
          go_ret2
          rw [← HS.out]
          exact ⟨rfl, by first | exact ⟨_, rfl⟩ | exact dn2 _ _ _⟩
        · rw [if_neg hge] at hE
          have HE : Hid (expBad M k = if dupB M.exps X.name k = true then some 18 else none) := hE
          have HS : Hid (firstBad (expBad M) k (r + 1) = R) := hs'
          clear hE hs hs' hidx
          go_wp2_with (go_at_call 61; refine (there_any M.memMin _).mono ?_; rw [HTG.out]; rintro e w2 ⟨rfl, rfl⟩)
          go_loopw [9] (fun j w' => ∃ q : Nat, q ≤ k ∧ j = .int .i64 q ∧ Hid (dupB M.exps X.name q = false) ∧ ∃ n, w' = w.drewN n) (fun j _ => k - (intOf j).toNat)
          case atStart => exact ⟨0, by omega, rfl, rfl, by first | exact ⟨_, rfl⟩ | exact dn2 _ _ _⟩
          case round =>
            obtain ⟨q, hq, rfl, hd, n2, rfl⟩ := hrel
            by_cases hqk : q < k
            · have y0 := (hM.x0 q (by omega)).2
              have hdup := dupB_hit M.exps X.name q
              have hdn : dupB M.exps X.name (q + 1) = (dupB M.exps X.name q || decide ((M.exps.getD q exp0).name = X.name)) := rfl
              generalize M.exps.getD q exp0 = Y at *
              by_cases hnm : Y.name = X.name
              · have bnm : (Y.name == X.name) = true := by rw [beq_iff_eq]; exact hnm
                have HF : Hid (((k : Int), 18) = R) := by
                  show _ = _
                  rw [← HS.out, firstBad_some _ _ _ 18 (by rw [HE.out, if_pos (hdup hnm k hqk)])]
                clear hnm hd HE HS hdup hdn
                go_wp2
                go_quiet (fail)
                go_wp2
                go_ret2
                rw [← HF.out]
                exact ⟨rfl, by first | exact ⟨_, rfl⟩ | exact dn2 _ _ _⟩
              · have bnm : (Y.name == X.name) = false := by rw [beq_eq_false_iff_ne]; exact hnm
                have HD : Hid (dupB M.exps X.name (q + 1) = false) := by
                  show _ = _
                  rw [hdn, hd.out, Bool.false_or]
                  exact decide_eq_false hnm
                clear hd hnm hdup hdn
                go_wp2
                go_quiet (fail)
                go_wp2
                go_roundw
                case rel => exact ⟨q + 1, by omega, by go_num, HD, by first | exact ⟨_, rfl⟩ | exact dn2 _ _ _⟩
                case measure => simp [intOf]; omega
            · have HF : Hid (firstBad (expBad M) (k + 1) (M.exps.length - (k + 1)) = R) := by
                show _ = _
                have e : q = k := by omega
                have hd' := hd.out
                rw [e] at hd'
                rw [← HS.out, firstBad_none _ _ _ (by rw [HE.out, if_neg (by rw [hd']; decide)]), HR2.out]
              clear hd
              go_wp2
              go_roundw
              case rel => exact ⟨k + 1, by omega, by go_num, HF, by first | exact ⟨_, rfl⟩ | exact dn2 _ _ _⟩
              case measure => simp [intOf]; omega
      by_cases hk3 : X.kind = 3
      · have hkv : X.kind = 3 := hk3
        rw [hkv] at x1
        have hc : expCount M X.kind = 4 := by unfold expCount; rw [if_neg (by rw [hkv]; decide), if_neg (by rw [hkv]; decide), if_pos hkv]
        rw [hc] at hE
        clear hc hkv
        generalize hidx : X.idx = idx at *
        by_cases hge : 4 ≤ idx
        · rw [if_pos hge] at hE
          have HS : Hid (((k : Int), 17) = R) := by show _ = _; rw [← hs', firstBad_some _ _ _ _ hE]
          clear hE hs hs' hidx
          go_wp2
          go_ret2
          rw [← HS.out]
          exact ⟨rfl, by first | exact ⟨_, rfl⟩ | exact dn2 _ _ _⟩
        · rw [if_neg hge] at hE
          have HE : Hid (expBad M k = if dupB M.exps X.name k = true then some 18 else none) := hE
          have HS : Hid (firstBad (expBad M) k (r + 1) = R) := hs'
          clear hE hs hs' hidx
          go_wp2
          go_loopw [9] (fun j w' => ∃ q : Nat, q ≤ k ∧ j = .int .i64 q ∧ Hid (dupB M.exps X.name q = false) ∧ ∃ n, w' = w.drewN n) (fun j _ => k - (intOf j).toNat)
          case atStart => exact ⟨0, by omega, rfl, rfl, by first | exact ⟨_, rfl⟩ | exact dn2 _ _ _⟩
          case round =>
            obtain ⟨q, hq, rfl, hd, n2, rfl⟩ := hrel
            by_cases hqk : q < k
            · have y0 := (hM.x0 q (by omega)).2
              have hdup := dupB_hit M.exps X.name q
              have hdn : dupB M.exps X.name (q + 1) = (dupB M.exps X.name q || decide ((M.exps.getD q exp0).name = X.name)) := rfl
              generalize M.exps.getD q exp0 = Y at *
              by_cases hnm : Y.name = X.name
              · have bnm : (Y.name == X.name) = true := by rw [beq_iff_eq]; exact hnm
                have HF : Hid (((k : Int), 18) = R) := by
                  show _ = _
                  rw [← HS.out, firstBad_some _ _ _ 18 (by rw [HE.out, if_pos (hdup hnm k hqk)])]
                clear hnm hd HE HS hdup hdn
                go_wp2
                go_quiet (fail)
                go_wp2
                go_ret2
                rw [← HF.out]
                exact ⟨rfl, by first | exact ⟨_, rfl⟩ | exact dn2 _ _ _⟩
              · have bnm : (Y.name == X.name) = false := by rw [beq_eq_false_iff_ne]; exact hnm
                have HD : Hid (dupB M.exps X.name (q + 1) = false) := by
                  show _ = _
                  rw [hdn, hd.out, Bool.false_or]
                  exact decide_eq_false hnm
                clear hd hnm hdup hdn
                go_wp2
                go_quiet (fail)
                go_wp2
                go_roundw
                case rel => exact ⟨q + 1, by omega, by go_num, HD, by first | exact ⟨_, rfl⟩ | exact dn2 _ _ _⟩
                case measure => simp [intOf]; omega
            · have HF : Hid (firstBad (expBad M) (k + 1) (M.exps.length - (k + 1)) = R) := by
                show _ = _
                have e : q = k := by omega
                have hd' := hd.out
                rw [e] at hd'
                rw [← HS.out, firstBad_none _ _ _ (by rw [HE.out, if_neg (by rw [hd']; decide)]), HR2.out]
              clear hd
              go_wp2
              go_roundw
              case rel => exact ⟨k + 1, by omega, by go_num, HF, by first | exact ⟨_, rfl⟩ | exact dn2 _ _ _⟩
              case measure => simp [intOf]; omega
      have b1 : (X.kind == 1) = false := by rw [beq_eq_false_iff_ne]; exact hk1
      have b2 : (X.kind == 2) = false := by rw [beq_eq_false_iff_ne]; exact hk2
      have b3 : (X.kind == 3) = false := by rw [beq_eq_false_iff_ne]; exact hk3
      have hc : expCount M X.kind = 2 := by simp only [expCount, if_neg hk1, if_neg hk2, if_neg hk3]
      rw [hc] at hE
      clear hc hk1 hk2 hk3
      generalize hidx : X.idx = idx at *
      by_cases hge : 2 ≤ idx
      · rw [if_pos hge] at hE
        have HS : Hid (((k : Int), 17) = R) := by show _ = _; rw [← hs', firstBad_some _ _ _ _ hE]
        clear hE hs hs' hidx
        go_wp2
        go_ret2
        rw [← HS.out]
        exact ⟨rfl, by first | exact ⟨_, rfl⟩ | exact dn2 _ _ _⟩
      · rw [if_neg hge] at hE
        have HE : Hid (expBad M k = if dupB M.exps X.name k = true then some 18 else none) := hE
        have HS : Hid (firstBad (expBad M) k (r + 1) = R) := hs'
        clear hE hs hs' hidx
        go_wp2
        go_loopw [9] (fun j w' => ∃ q : Nat, q ≤ k ∧ j = .int .i64 q ∧ Hid (dupB M.exps X.name q = false) ∧ ∃ n, w' = w.drewN n) (fun j _ => k - (intOf j).toNat)
        case atStart => exact ⟨0, by omega, rfl, rfl, by first | exact ⟨_, rfl⟩ | exact dn2 _ _ _⟩
        case round =>
          obtain ⟨q, hq, rfl, hd, n2, rfl⟩ := hrel
          by_cases hqk : q < k
          · have y0 := (hM.x0 q (by omega)).2
            have hdup := dupB_hit M.exps X.name q
            have hdn : dupB M.exps X.name (q + 1) = (dupB M.exps X.name q || decide ((M.exps.getD q exp0).name = X.name)) := rfl
            generalize M.exps.getD q exp0 = Y at *
            by_cases hnm : Y.name = X.name
            · have bnm : (Y.name == X.name) = true := by rw [beq_iff_eq]; exact hnm
              have HF : Hid (((k : Int), 18) = R) := by
                show _ = _
                rw [← HS.out, firstBad_some _ _ _ 18 (by rw [HE.out, if_pos (hdup hnm k hqk)])]
              clear hnm hd HE HS hdup hdn
              go_wp2
              go_quiet (fail)
              go_wp2
              go_ret2
              rw [← HF.out]
              exact ⟨rfl, by first | exact ⟨_, rfl⟩ | exact dn2 _ _ _⟩
            · have bnm : (Y.name == X.name) = false := by rw [beq_eq_false_iff_ne]; exact hnm
              have HD : Hid (dupB M.exps X.name (q + 1) = false) := by
                show _ = _
                rw [hdn, hd.out, Bool.false_or]
                exact decide_eq_false hnm
              clear hd hnm hdup hdn
              go_wp2
              go_quiet (fail)
              go_wp2
              go_roundw
              case rel => exact ⟨q + 1, by omega, by go_num, HD, by first | exact ⟨_, rfl⟩ | exact dn2 _ _ _⟩
              case measure => simp [intOf]; omega
          · have HF : Hid (firstBad (expBad M) (k + 1) (M.exps.length - (k + 1)) = R) := by
              show _ = _
              have e : q = k := by omega
              have hd' := hd.out
              rw [e] at hd'
              rw [← HS.out, firstBad_none _ _ _ (by rw [HE.out, if_neg (by rw [hd']; decide)]), HR2.out]
            clear hd
            go_wp2
            go_roundw
            case rel => exact ⟨k + 1, by omega, by go_num, HF, by first | exact ⟨_, rfl⟩ | exact dn2 _ _ _⟩
            case measure => simp [intOf]; omega
    · have HS : Hid ((0, 0) = R) := by
        show _ = _
        rw [← hs.out, show M.exps.length - k = 0 from by omega]
        rfl
      clear hs
      go_wp2
      go_ret2
      rw [← HS.out]
      exact ⟨rfl, _, rfl⟩
end Go.Proofs.Qxb6500273a
