/-
  WALKS: segments.
-/
import Derived.Test.Qxb6500273aExp
namespace Go.Proofs.Qxb6500273a
open Go.RowKit

set_option maxRecDepth 100000 in
set_option maxHeartbeats 2000000 in
theorem segments_any (bv : Nat) (L : Lay) (M : Md) (w : World) (hM : ModAt w bv L M) (po : PartOk M) :
    Calls Try.prog 50 #[.pointer (some ⟨L.p, 0, none⟩), .int .i64 2] w fun e w' => e = .returned (.tuple #[.int .i64 (segF M).1, .int .i64 (segF M).2]) ∧ w' = w := by
  generalize hS : segF M = S
  generalize hR : firstBad (elemBad M) 0 M.elems.length = R
  have HR : Hid (firstBad (elemBad M) 0 (M.elems.length - 0) = R) := hR
  have HS : Hid ((if R.2 ≠ 0 then R else firstBad (dataBad M) 0 M.datas.length) = S) := by
    show _ = _
    rw [← hS, ← hR]; rfl
  have hel := po.el
  have hdl := po.dl
  have m3 := hM.m3
  have m5 := hM.m5
  have m10 := hM.m10
  have m11 := hM.m11
  clear hR hS
  go_enter Try.func50, Try.ntmps50
  go_wp2
  go_loop [6] (fun i => ∃ k : Nat, k ≤ M.elems.length ∧ i = .int .i64 k ∧ Hid (firstBad (elemBad M) k (M.elems.length - k) = R)) (fun i => M.elems.length - (intOf i).toNat)
  case atStart => exact ⟨0, by omega, rfl, HR⟩
  case round =>
    obtain ⟨k, hk, rfl, hs⟩ := hrel
    clear HR
    by_cases hlt : k < M.elems.length
    · obtain ⟨r, hr⟩ : ∃ r, M.elems.length - k = r + 1 := ⟨M.elems.length - k - 1, by omega⟩
      have hs' := hs.out
      rw [hr] at hs'
      have HR2 : Hid (M.elems.length - (k + 1) = r) := by show _ = _; omega
      have hE : elemBad M k = if M.tabMin < 0 then some 21
        else if (M.elems.getD k elm0).off ≠ 65 then some 27
        else if fnsBad (M.elems.getD k elm0).fns (M.elems.getD k elm0).fns.length = true then some 15 else none := rfl
      have e0 := hM.e0 k hlt
      rw [e0.1] at m10
      have e0' := e0.2
      have e3 := hM.e3 k hlt
      have ef := hM.ef k hlt
      have hef := po.ef k hlt
      generalize M.elems.getD k elm0 = X at *
      clear hr hs e0
      by_cases ht : M.tabMin < 0
      · have HF : Hid (((k : Int), 21) = S) := by
          show _ = _
          rw [if_pos ht] at hE
          rw [firstBad_some _ _ _ _ hE] at hs'
          rw [← HS.out, ← hs']; rfl
        clear hE hs' ef hef
        go_wp2
        go_ret2
        rw [← HF.out]
        exact ⟨rfl, rfl⟩
      · rw [if_neg ht] at hE
        by_cases ho : X.off = 65
        · rw [if_neg (by simp [ho])] at hE
          have HE : Hid (elemBad M k = if fnsBad X.fns X.fns.length = true then some 15 else none) := hE
          have HS1 : Hid (firstBad (elemBad M) k (r + 1) = R) := hs'
          rw [ho] at e0'
          clear hE hs' ho
          have hfl := hef.1
          go_wp2
          go_loop [8] (fun j => ∃ q : Nat, q ≤ X.fns.length ∧ j = .int .i64 q ∧ Hid (fnsBad X.fns q = false)) (fun j => X.fns.length - (intOf j).toNat)
          case atStart => exact ⟨0, by omega, rfl, rfl⟩
          case round =>
            obtain ⟨q, hq, rfl, hd⟩ := hrel
            by_cases hqk : q < X.fns.length
            · have y0 := ef q hqk
              have hy := hef.2 q
              have hdup := fnsBad_hit X.fns q
              have hdn : fnsBad X.fns (q + 1) = (fnsBad X.fns q || decide (2 ≤ X.fns.getD q 0)) := rfl
              generalize X.fns.getD q 0 = y at *
              by_cases h2 : 2 ≤ y
              · have HF : Hid (((k : Int), 15) = S) := by
                  show _ = _
                  have hx := HS1.out
                  rw [firstBad_some _ _ _ 15 (by rw [HE.out, if_pos (hdup h2 _ hqk)])] at hx
                  rw [← HS.out, ← hx]; rfl
                clear hdup hdn ef hef hd
                go_wp2
                go_ret2
                rw [← HF.out]
                exact ⟨rfl, rfl⟩
              · have HD : Hid (fnsBad X.fns (q + 1) = false) := by
                  show _ = _
                  rw [hdn, hd.out, Bool.false_or]
                  exact decide_eq_false h2
                clear hdup hdn ef hef hd
                go_wp2
                go_round
                case rel => exact ⟨q + 1, by omega, by go_num, HD⟩
                case measure => simp [intOf]; omega
            · have HF : Hid (firstBad (elemBad M) (k + 1) (M.elems.length - (k + 1)) = R) := by
                show _ = _
                have e : q = X.fns.length := by omega
                have hd' := hd.out
                rw [e] at hd'
                rw [← HS1.out, firstBad_none _ _ _ (by rw [HE.out, if_neg (by rw [hd']; decide)]), HR2.out]
              clear hd ef hef
              go_wp2
              go_round
              case rel => exact ⟨k + 1, by omega, by go_num, HF⟩
              case measure => simp [intOf]; omega
        · have bo : (X.off != 65) = true := by rw [bne_iff_ne]; exact ho
          have HF : Hid (((k : Int), 27) = S) := by
            show _ = _
            rw [if_pos ho] at hE
            rw [firstBad_some _ _ _ _ hE] at hs'
            rw [← HS.out, ← hs']; rfl
          clear hE hs' ef hef ho
          go_wp2
          go_ret2
          rw [← HF.out]
          exact ⟨rfl, rfl⟩
    · have HR3 : Hid (firstBad (dataBad M) 0 (M.datas.length - 0) = S) := by
        show _ = _
        have hx := hs.out
        rw [show M.elems.length - k = 0 from by omega] at hx
        rw [← HS.out, ← hx]; rfl
      clear hs HS
      go_wp2
      go_loop [9] (fun i => ∃ k : Nat, k ≤ M.datas.length ∧ i = .int .i64 k ∧ Hid (firstBad (dataBad M) k (M.datas.length - k) = S)) (fun i => M.datas.length - (intOf i).toNat)
      case atStart => exact ⟨0, by omega, rfl, HR3⟩
      case round =>
        obtain ⟨k, hk, rfl, hs⟩ := hrel
        clear HR3
        by_cases hlt : k < M.datas.length
        · obtain ⟨r, hr⟩ : ∃ r, M.datas.length - k = r + 1 := ⟨M.datas.length - k - 1, by omega⟩
          have hs' := hs.out
          rw [hr] at hs'
          have HR2 : Hid (M.datas.length - (k + 1) = r) := by show _ = _; omega
          have hE : dataBad M k = if M.memMin < 0 then some 20 else if M.datas.getD k 0 ≠ 65 then some 27 else none := rfl
          have d0 := hM.d0 k hlt
          rw [d0.1] at m11
          have d0' := d0.2
          generalize M.datas.getD k 0 = X at *
          clear hr hs d0
          by_cases ht : M.memMin < 0
          · have HF : Hid (((k : Int), 20) = S) := by
              show _ = _
              rw [if_pos ht] at hE
              rw [firstBad_some _ _ _ _ hE] at hs'
              exact hs'
            clear hE hs'
            go_wp2
            go_ret2
            rw [← HF.out]
            exact ⟨rfl, rfl⟩
          · rw [if_neg ht] at hE
            by_cases ho : X = 65
            · have HF : Hid (firstBad (dataBad M) (k + 1) (M.datas.length - (k + 1)) = S) := by
                show _ = _
                rw [if_neg (by simp [ho])] at hE
                rw [firstBad_none _ _ _ hE] at hs'
                rw [HR2.out]; exact hs'
              rw [ho] at d0'
              clear hE hs' ho
              go_wp2
              go_round
              case rel => exact ⟨k + 1, by omega, by go_num, HF⟩
              case measure => simp [intOf]; omega
            · have bo : (X != 65) = true := by rw [bne_iff_ne]; exact ho
              have HF : Hid (((k : Int), 27) = S) := by
                show _ = _
                rw [if_pos ho] at hE
                rw [firstBad_some _ _ _ _ hE] at hs'
                exact hs'
              clear hE hs' ho
              go_wp2
              go_ret2
              rw [← HF.out]
              exact ⟨rfl, rfl⟩
        · have HF : Hid ((0, 0) = S) := by
            show _ = _
            have hx := hs.out
            rw [show M.datas.length - k = 0 from by omega] at hx
            exact hx
          clear hs
          go_wp2
          go_ret2
          rw [← HF.out]
          exact ⟨rfl, rfl⟩

end Go.Proofs.Qxb6500273a
