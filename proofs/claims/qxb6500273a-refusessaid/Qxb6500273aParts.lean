/-
  WALKS: parts.
-/
import Derived.Test.Qxb6500273aSeg
import Derived.Test.Qxb6500273aTypeOf
namespace Go.Proofs.Qxb6500273a
open Go.RowKit

theorem dnW {w wr : World} (h : ∃ n, wr = w.drewN n) (m : Nat) : ∃ n, wr.drewN m = w.drewN n := by
  obtain ⟨n, rfl⟩ := h
  exact dn2 _ _ _
theorem dnW2 {w wr : World} (h : ∃ n, wr = w.drewN n) (m k : Nat) : ∃ n, (wr.drewN m).drewN k = w.drewN n := dnW (dnW h m) k

theorem quiet_same2 {P : Program} {f : FuncId} {args : Array Value} {w : World} {a n : Nat} {v : Value}
    (h : Calls P f args (w.drewN (a + n)) fun e w' => e = .returned v ∧ w' = w.drewN (a + n)) : Calls P f args (w.drewN (a + n)) fun e w'' => e = .returned v ∧ ∃ m, w'' = w.drewN (a + m) :=
  h.mono fun _ _ ⟨he, hm⟩ => ⟨he, n, hm⟩

def parts5 (M : Md) : Int × Int := match startF M with
    | some e => (0, e)
    | none => segF M
def parts4 (M : Md) : Int × Int := if (firstBad (expBad M) 0 M.exps.length).2 ≠ 0 then firstBad (expBad M) 0 M.exps.length else parts5 M
def parts3 (M : Md) : Int × Int := if (firstBad (globBad M) 0 4).2 ≠ 0 then firstBad (globBad M) 0 4 else parts4 M
def parts2 (M : Md) : Int × Int := if limitsF M.memMin M.memMax 6 = false then (1, 16) else parts3 M
def parts1 (M : Md) : Int × Int := if limitsF M.tabMin M.tabMax 8 = false then (0, 16) else parts2 M
theorem partsF_eq (M : Md) : partsF M = if (firstBad (typeBad M) 0 2).2 ≠ 0 then firstBad (typeBad M) 0 2 else parts1 M := rfl

set_option maxRecDepth 100000 in
set_option maxHeartbeats 2000000 in
theorem parts_any (bv : Nat) (L : Lay) (M : Md) (w : World) (hM : ModAt w bv L M) (po : PartOk M) :
    Calls Try.prog 29 #[.pointer (some ⟨L.p, 0, none⟩)] w fun e w' => e = .returned (.tuple #[.int .i64 (partsF M).1, .int .i64 (partsF M).2]) ∧ ∃ n, w' = w.drewN n := by
  generalize hS : partsF M = S
  generalize hR : firstBad (typeBad M) 0 2 = R
  have HR : Hid (firstBad (typeBad M) 0 (2 - 0) = R) := hR
  have HS : Hid ((if R.2 ≠ 0 then R else parts1 M) = S) := by
    show _ = _
    rw [← hS, ← hR, partsF_eq]
  have m1 := hM.m1
  have m2 := hM.m2
  clear hR hS
  go_enter Try.func29, Try.ntmps29
  go_wp2
  go_quiet (fail)
  go_wp2
  go_loopw [5] (fun i w' => ∃ k : Nat, k ≤ 2 ∧ i = .int .i64 k ∧ Hid (firstBad (typeBad M) k (2 - k) = R) ∧ ∃ n, w' = w.drewN n) (fun i _ => 2 - (intOf i).toNat)
  case atStart => exact ⟨0, by omega, rfl, HR, _, rfl⟩
  case round =>
    obtain ⟨k, hk, rfl, hs, hw⟩ := hrel
    have HW : Hid (∃ n, wr = w.drewN n) := hw
    have hMr : ModAt wr bv L M := by obtain ⟨n, rfl⟩ := hw; exact hM.drewN n
    clear HR hw m1 m2
    by_cases hlt : k < 2
    · obtain ⟨r, hr⟩ : ∃ r, 2 - k = r + 1 := ⟨2 - k - 1, by omega⟩
      have hs' := hs.out
      rw [hr] at hs'
      have HR2 : Hid (2 - (k + 1) = r) := by show _ = _; omega
      have hE : typeBad M k = if (typeOfF M k).2 = true then none else some 14 := rfl
      have HC : ∀ wx, ModAt wx bv L M → _ := fun wx h => typeOf_any bv L M (k : Int) wx h (by omega)
      generalize typeOfF M k = T at *
      clear hr hs
      cases hT : T.2
      · have HF : Hid (((k : Int), 14) = S) := by
          show _ = _
          rw [hT, if_neg (by decide)] at hE
          rw [firstBad_some _ _ _ _ hE] at hs'
          rw [← HS.out, ← hs']; rfl
        clear hE hs'
        go_wp2_with (go_at_call 46; refine (HC _ ?_).mono ?_; exact hMr; rw [hT]; rintro e w1 ⟨rfl, n, rfl⟩)
        go_ret2
        rw [← HF.out]
        exact ⟨rfl, by first | exact HW.out | exact dnW HW.out _ | exact dnW2 HW.out _ _⟩
      · have HF : Hid (firstBad (typeBad M) (k + 1) (2 - (k + 1)) = R) := by
          show _ = _
          rw [hT, if_pos rfl] at hE
          rw [firstBad_none _ _ _ hE] at hs'
          rw [HR2.out]; exact hs'
        clear hE hs'
        go_wp2_with (go_at_call 46; refine (HC _ ?_).mono ?_; exact hMr; rw [hT]; rintro e w1 ⟨rfl, n, rfl⟩)
        go_roundw
        case rel => exact ⟨k + 1, by omega, by go_num, HF, by first | exact HW.out | exact dnW HW.out _ | exact dnW2 HW.out _ _⟩
        case measure => simp [intOf]; omega
    · have H1 : Hid (parts1 M = S) := by
        show _ = _
        have hx := hs.out
        rw [show 2 - k = 0 from by omega] at hx
        rw [← HS.out, ← hx]; rfl
      have m3 := hMr.m3
      have m4 := hMr.m4
      have m5 := hMr.m5
      have m6 := hMr.m6
      have hl1 : parts1 M = if limitsF M.tabMin M.tabMax 8 = false then (0, 16) else parts2 M := rfl
      have hl2 : parts2 M = if limitsF M.memMin M.memMax 6 = false then (1, 16) else parts3 M := rfl
      have HL1 : ∀ wx, _ := fun wx => limits_any M.tabMin M.tabMax 8 wx
      have HL2 : ∀ wx, _ := fun wx => limits_any M.memMin M.memMax 6 wx
      generalize limitsF M.tabMin M.tabMax 8 = b1 at *
      generalize limitsF M.memMin M.memMax 6 = b2 at *
      clear hs HS
      cases b1
      · have HF : Hid ((0, 16) = S) := by show _ = _; rw [← H1.out, hl1]; rfl
        clear hl1 hl2
        go_wp2
        go_quiet ((go_at_call 47; exact Calls.quiet_of_same (HL1 _)))
        go_wp2
        go_ret2
        rw [← HF.out]
        exact ⟨rfl, by first | exact HW.out | exact dnW HW.out _ | exact dnW2 HW.out _ _⟩
      · cases b2
        · have HF : Hid ((1, 16) = S) := by show _ = _; rw [← H1.out, hl1, hl2]; rfl
          clear hl1 hl2
          go_wp2
          go_quiet ((go_at_call 47; exact Calls.quiet_of_same (HL1 _)))
          go_wp2
          go_quiet ((go_at_call 47; exact quiet_same2 (HL2 _)))
          go_wp2
          go_ret2
          rw [← HF.out]
          exact ⟨rfl, by first | exact HW.out | exact dnW HW.out _ | exact dnW2 HW.out _ _⟩
        · have H3 : Hid (parts3 M = S) := by show _ = _; rw [← H1.out, hl1, hl2]; rfl
          clear hl1 hl2 H1
          have m7 := hMr.m7
          generalize hR : firstBad (globBad M) 0 4 = R2
          have HR : Hid (firstBad (globBad M) 0 (4 - 0) = R2) := hR
          have HS : Hid ((if R2.2 ≠ 0 then R2 else parts4 M) = S) := by
            show _ = _
            rw [← H3.out, ← hR]; rfl
          clear hR H3
          go_wp2
          go_quiet ((go_at_call 47; exact Calls.quiet_of_same (HL1 _)))
          go_wp2
          go_quiet ((go_at_call 47; exact quiet_same2 (HL2 _)))
          go_wp2
          have HW1 : Hid (∃ n, wr = w.drewN n) := HW
          go_loopw [8] (fun i w' => ∃ k : Nat, k ≤ 4 ∧ i = .int .i64 k ∧ Hid (firstBad (globBad M) k (4 - k) = R2) ∧ ∃ n, w' = w.drewN n) (fun i _ => 4 - (intOf i).toNat)
          case atStart => exact ⟨0, by omega, rfl, HR, by first | exact HW.out | exact dnW HW.out _ | exact dnW2 HW.out _ _⟩
          case round =>
            obtain ⟨k, hk, rfl, hs, hw⟩ := hrel
            clear HR HW HW1 hMr m3 m4 m5 m6 m7 HL1 HL2
            have HW : Hid (∃ n, wr = w.drewN n) := hw
            have hMr : ModAt wr bv L M := by obtain ⟨n, rfl⟩ := hw; exact hM.drewN n
            clear hw
            have m7 := hMr.m7
            by_cases hlt : k < 4
            · obtain ⟨r, hr⟩ : ∃ r, 4 - k = r + 1 := ⟨4 - k - 1, by omega⟩
              have hs' := hs.out
              rw [hr] at hs'
              have HR2 : Hid (4 - (k + 1) = r) := by show _ = _; omega
              have hE : globBad M k = if constOfF (M.gin k) = gType k then none else some 27 := rfl
              have hgi := po.gi k hlt
              have HC : ∀ wx, _ := fun wx => constOf_any (M.gin k) wx hgi.1 hgi.2
              have g0 := hMr.g0 k hlt
              have g2 := hMr.g2 k hlt
              have hki : (k : Int) < 4 := by omega
              generalize constOfF (M.gin k) = T at *
              generalize M.gin k = gk at *
              generalize gType k = gt at *
              clear hr hs
              by_cases hT : T = gt
              · have bT : (T != gt) = false := by rw [bne_eq_false_iff_eq]; exact hT
                have HF : Hid (firstBad (globBad M) (k + 1) (4 - (k + 1)) = R2) := by
                  show _ = _
                  rw [if_pos hT] at hE
                  rw [firstBad_none _ _ _ hE] at hs'
                  rw [HR2.out]; exact hs'
                clear hE hs' hT
                go_wp2
                go_quiet ((go_at_call 48; exact Calls.quiet_of_same (HC _)))
                go_wp2
                go_roundw
                case rel => exact ⟨k + 1, by omega, by go_num, HF, by first | exact HW.out | exact dnW HW.out _ | exact dnW2 HW.out _ _⟩
                case measure => simp [intOf]; omega
              · have bT : (T != gt) = true := by rw [bne_iff_ne]; exact hT
                have HF : Hid (((k : Int), 27) = S) := by
                  show _ = _
                  rw [if_neg hT] at hE
                  rw [firstBad_some _ _ _ _ hE] at hs'
                  rw [← HS.out, ← hs']; rfl
                clear hE hs' hT
                go_wp2
                go_quiet ((go_at_call 48; exact Calls.quiet_of_same (HC _)))
                go_wp2
                go_ret2
                rw [← HF.out]
                exact ⟨rfl, by first | exact HW.out | exact dnW HW.out _ | exact dnW2 HW.out _ _⟩
            · have H4 : Hid (parts4 M = S) := by
                show _ = _
                have hx := hs.out
                rw [show 4 - k = 0 from by omega] at hx
                rw [← HS.out, ← hx]; rfl
              have hp4 : parts4 M = if (firstBad (expBad M) 0 M.exps.length).2 ≠ 0 then firstBad (expBad M) 0 M.exps.length else parts5 M := rfl
              have HX := exports_any bv L M wr hMr po
              generalize firstBad (expBad M) 0 M.exps.length = X at *
              clear hs HS
              by_cases hX : X.2 = 0
              · have bX : (X.2 != 0) = false := by rw [bne_eq_false_iff_eq]; exact hX
                have H5 : Hid (parts5 M = S) := by show _ = _; rw [← H4.out, hp4, if_neg (by simp [hX])]
                have hp5 : parts5 M = match startF M with | some e => (0, e) | none => segF M := rfl
                clear hp4 H4 hX
                have m9 := hMr.m9
                have HG : ∀ n, _ := fun n => segments_any bv L M (wr.drewN n) (hMr.drewN n) po
                by_cases hst : M.start = -1
                · have HF : Hid (segF M = S) := by show _ = _; rw [← H5.out, hp5, startF, if_pos hst]
                  have b9 : (M.start != -1) = false := by rw [bne_eq_false_iff_eq]; exact hst
                  generalize segF M = sg at *
                  clear hp5 H5 hst
                  go_wp2_with (first | (go_at_call 49; refine HX.mono ?_; rintro e w1 ⟨rfl, n1, rfl⟩) | (go_at_call 50; refine (HG _).mono ?_; rintro e w2 ⟨rfl, rfl⟩))
                  go_ret2
                  rw [← HF.out]
                  exact ⟨rfl, by first | exact HW.out | exact dnW HW.out _ | exact dnW2 HW.out _ _⟩
                · have b9 : (M.start != -1) = true := by rw [bne_iff_ne]; exact hst
                  have HT : ∀ n, _ := fun n => typeOf_any bv L M M.start (wr.drewN n) (hMr.drewN n) po.st
                  have hsf : startF M = if (typeOfF M M.start).2 = true then (if (typeOfF M M.start).1 = [58] then none else some 19) else some 15 := by
                    unfold startF; rw [if_neg hst]
                  generalize typeOfF M M.start = T at *
                  cases hT : T.2
                  · have HF : Hid ((0, 15) = S) := by show _ = _; rw [← H5.out, hp5, hsf, hT]; rfl
                    clear hp5 H5 hst hsf
                    go_wp2_with (first | (go_at_call 49; refine HX.mono ?_; rintro e w1 ⟨rfl, n1, rfl⟩) | (go_at_call 46; refine (HT _).mono ?_; rw [hT]; rintro e w2 ⟨rfl, n2, rfl⟩))
                    go_ret2
                    rw [← HF.out]
                    exact ⟨rfl, by first | exact HW.out | exact dnW HW.out _ | exact dnW2 HW.out _ _⟩
                  · by_cases h58 : T.1 = [58]
                    · have HF : Hid (segF M = S) := by show _ = _; rw [← H5.out, hp5, hsf, hT, if_pos rfl, if_pos h58]
                      generalize segF M = sg at *
                      have HT2 : ∀ n, Calls Try.prog 46 #[.pointer (some ⟨L.p, 0, none⟩), .int .i64 M.start] (wr.drewN n) fun e w' => e = .returned (.tuple #[.string ⟨[58].toArray⟩, .bool true]) ∧ ∃ m, w' = (wr.drewN n).drewN m := by
                        intro n; have := HT n; rw [hT, h58] at this; exact this
                      clear hp5 H5 hst hsf h58 HT
                      go_wp2_with (first | (go_at_call 49; refine HX.mono ?_; rintro e w1 ⟨rfl, n1, rfl⟩) | (go_at_call 46; refine (HT2 _).mono ?_; rintro e w2 ⟨rfl, n2, rfl⟩) | (go_at_call 50; refine (HG _).mono ?_; rintro e w2 ⟨rfl, rfl⟩))
                      go_ret2
                      rw [← HF.out]
                      exact ⟨rfl, by first | exact HW.out | exact dnW HW.out _ | exact dnW2 HW.out _ _⟩
                    · have HF : Hid ((0, 19) = S) := by show _ = _; rw [← H5.out, hp5, hsf, hT, if_pos rfl, if_neg h58]
                      have b58 : (T.1 != [58]) = true := by rw [bne_iff_ne]; exact h58
                      have b582 : (T.1 == [58]) = false := by rw [beq_eq_false_iff_ne]; exact h58
                      clear hp5 H5 hst hsf h58
                      go_wp2_with (first | (go_at_call 49; refine HX.mono ?_; rintro e w1 ⟨rfl, n1, rfl⟩) | (go_at_call 46; refine (HT _).mono ?_; rw [hT]; rintro e w2 ⟨rfl, n2, rfl⟩))
                      go_ret2
                      rw [← HF.out]
                      exact ⟨rfl, by first | exact HW.out | exact dnW HW.out _ | exact dnW2 HW.out _ _⟩
              · have bX : (X.2 != 0) = true := by rw [bne_iff_ne]; exact hX
                have HF : Hid (X = S) := by show _ = _; rw [← H4.out, hp4, if_pos hX]
                clear hp4 H4 hX
                go_wp2_with (go_at_call 49; refine HX.mono ?_; rintro e w1 ⟨rfl, n1, rfl⟩)
                go_ret2
                rw [← HF.out]
                exact ⟨rfl, by first | exact HW.out | exact dnW HW.out _ | exact dnW2 HW.out _ _⟩

end Go.Proofs.Qxb6500273a
