/-
  WALKS: memory.
-/
import Derived.Test.Qxb6500273aCall
namespace Go.Proofs.Qxb6500273a
open Go.RowKit

theorem ite_ind {A : Type} {P : A → Prop} {c : Prop} [Decidable c] {a b : A} (h1 : c → P a) (h2 : ¬ c → P b) : P (if c then a else b) := by
  by_cases h : c
  · rw [if_pos h]; exact h1 h
  · rw [if_neg h]; exact h2 h

theorem memSigF_pos (op : Int) (h : 40 ≤ op) (h' : op ≤ 62) : 1 ≤ (memSigF op).1 ∧ (memSigF op).1 ≤ 8 := by
  show (fun q : Int × Int × Bool => 1 ≤ q.1 ∧ q.1 ≤ 8) (memSigF op)
  unfold memSigF
  repeat (refine ite_ind (P := fun q : Int × Int × Bool => 1 ≤ q.1 ∧ q.1 ≤ 8) (fun _ => ⟨by decide, by decide⟩) (fun _ => ?_))
  exfalso; omega

set_option maxHeartbeats 1000000 in
theorem memory_any (bv : Nat) (L : Lay) (M : Md) (V : VS) (x : Insn) (w : World) (hM : ModAt w bv L M) (hV : VAt w bv V) (ok : V.Ok) (hlo : 40 ≤ x.op) (hhi : x.op ≤ 64) (h0 : 0 ≤ x.x) (h1 : x.x ≤ 4294967295) :
    Calls Try.prog 67 #[.pointer (some ⟨bv, 0, none⟩), .pointer (some ⟨L.p, 0, none⟩), .agg #[.int .u8 x.op, .int .u32 x.x, .int .u64 x.y]] w fun e w' => e = .returned (.tuple #[.int .u8 (memoryF M V x).1, .int .i64 (memoryF M V x).2.1]) ∧ VAt w' bv (memoryF M V x).2.2 ∧ Ex bv w w' := by
  have hV' := hV.alloc (.cells #[.int .u8 x.op, .int .u32 x.x, .int .u64 x.y] 42)
  have hM' := hM.alloc (.cells #[.int .u8 x.op, .int .u32 x.x, .int .u64 x.y] 42)
  have c5 := hM'.m5
  have hE' := (Ex.refl bv w).alloc (.cells #[.int .u8 x.op, .int .u32 x.x, .int .u64 x.y] 42)
  by_cases hmem : M.memMin < 0
  · have hF : memoryF M V x = (64, 20, V) := by unfold memoryF; rw [if_pos hmem]
    rw [hF]
    clear hF
    go_enter Try.func67, Try.ntmps67
    go_wp2
    go_ret2
    exact ⟨rfl, hV', hE'⟩
  · by_cases h63 : x.op = 63
    · have hF : memoryF M V x = (127, 0, V) := by unfold memoryF; rw [if_neg hmem, if_pos h63]
      rw [hF]
      rw [h63] at hV' hM' c5 hE' ⊢
      clear hF h63
      go_enter Try.func67, Try.ntmps67
      go_wp2
      go_ret2
      exact ⟨rfl, hV', hE'⟩
    · have h63b : (x.op == 63) = false := by simp [h63]
      by_cases h62 : x.op ≤ 62
      · have hpos := memSigF_pos x.op hlo h62
        have HM : ∀ wx, _ := fun wx => memSig_any x.op wx
        by_cases hw : wide (memSigF x.op).1 x.x = true
        · have hF : memoryF M V x = (64, 26, V) := by unfold memoryF; rw [if_neg hmem, if_neg h63, if_pos h62, if_pos hw]
          rw [hF]
          have hw' : 3 < x.x ∨ ((¬ 3 < x.x) ∧ ((memSigF x.op).1 / 2 ^ x.x.toNat == 0) = true) := by
            unfold wide at hw
            by_cases h3 : 3 < x.x
            · exact .inl h3
            · exact .inr ⟨h3, by simpa [h3] using hw⟩
          generalize memSigF x.op = q at *
          clear hF h63 hw
          rcases hw' with h3 | ⟨h3, hs⟩
          · go_enter Try.func67, Try.ntmps67
            go_wp2_with (go_at_call 43; refine (HM _).mono ?_; rintro e w5 ⟨rfl, rfl⟩)
            go_ret2
            exact ⟨rfl, hV', hE'⟩
          · go_enter Try.func67, Try.ntmps67
            go_wp2_with (go_at_call 43; refine (HM _).mono ?_; rintro e w5 ⟨rfl, rfl⟩)
            go_ret2
            exact ⟨rfl, hV', hE'⟩
        · have h3 : ¬ 3 < x.x := by intro h; exact hw (by simp [wide, h])
          have hs : ((memSigF x.op).1 / 2 ^ x.x.toNat == 0) = false := by
            rw [Bool.not_eq_true] at hw
            simpa [wide, h3] using hw
          by_cases h54 : 54 ≤ x.op
          · have hF : memoryF M V x = if (carryF V (memSigF x.op).2.1).1 = true then (64, typedF (carryF (carryF V (memSigF x.op).2.1).2 127).1, (carryF (carryF V (memSigF x.op).2.1).2 127).2) else (64, 27, (carryF V (memSigF x.op).2.1).2) := by
              unfold memoryF; rw [if_neg hmem, if_neg h63, if_pos h62, if_neg hw, if_pos h54]
            rw [hF]
            generalize memSigF x.op = m at *
            have ok1 := carryF_ok ok m.2.1
            generalize hq : carryF V m.2.1 = q at *
            have HQ : Hid (carryF V m.2.1 = q) := hq
            clear hF h63 hw hq
            cases hq1 : q.1
            · simp only [Bool.false_eq_true, if_false]
              go_enter Try.func67, Try.ntmps67
              go_wp2_with (first | (go_at_call 43; refine (HM _).mono ?_; rintro e w5 ⟨rfl, rfl⟩) | (go_at_call 53; refine (carry_any bv V m.2.1 _ hV' ok).mono ?_; rw [HQ.out, hq1]; rintro e w1 ⟨rfl, hV1, hE1⟩))
              go_ret2
              exact ⟨rfl, hV1, hE'.trans hE1⟩
            · simp only [if_true]
              go_enter Try.func67, Try.ntmps67
              go_wp2_with (go_at_call 43; refine (HM _).mono ?_; rintro e w5 ⟨rfl, rfl⟩)
              refine (carry_any bv V m.2.1 _ hV' ok).mono ?_
              rw [HQ.out, hq1]
              rintro e w1 ⟨rfl, hV1, hE1⟩
              go_wp2_with fail
              refine (carry_any bv q.2 127 _ hV1 ok1).mono ?_
              rintro e w2 ⟨rfl, hV2, hE2⟩
              go_wp2_with (go_at_call 64; refine (typed_any _ _).mono ?_; rintro e w5 ⟨rfl, rfl⟩)
              go_ret2
              exact ⟨rfl, hV2, (hE'.trans hE1).trans hE2⟩
          · have hF : memoryF M V x = ((memSigF x.op).2.1, typedF (carryF V 127).1, (carryF V 127).2) := by
              unfold memoryF; rw [if_neg hmem, if_neg h63, if_pos h62, if_neg hw, if_neg h54]
            rw [hF]
            generalize memSigF x.op = m at *
            clear hF h63 hw
            go_enter Try.func67, Try.ntmps67
            go_wp2_with (first | (go_at_call 43; refine (HM _).mono ?_; rintro e w5 ⟨rfl, rfl⟩) | (go_at_call 53; refine (carry_any bv V 127 _ hV' ok).mono ?_; rintro e w1 ⟨rfl, hV1, hE1⟩) | (go_at_call 64; refine (typed_any _ _).mono ?_; rintro e w5 ⟨rfl, rfl⟩))
            go_ret2
            exact ⟨rfl, hV1, hE'.trans hE1⟩
      · have hF : memoryF M V x = (127, typedF (carryF V 127).1, (carryF V 127).2) := by
          unfold memoryF; rw [if_neg hmem, if_neg h63, if_neg h62]
        rw [hF]
        clear hF h63
        go_enter Try.func67, Try.ntmps67
        go_wp2_with (first | (go_at_call 53; refine (carry_any bv V 127 _ hV' ok).mono ?_; rintro e w1 ⟨rfl, hV1, hE1⟩) | (go_at_call 64; refine (typed_any _ _).mono ?_; rintro e w5 ⟨rfl, rfl⟩))
        go_ret2
        exact ⟨rfl, hV1, hE'.trans hE1⟩

end Go.Proofs.Qxb6500273a
