/-
  WALKS: the small functions on numbers and strings.
-/
import Derived.Test.Qxb6500273aBase
import Derived.Deep.Light
namespace Go.Proofs.Qxb6500273a
open Go.RowKit

theorem ext_list (l : List UInt8) (a b : Nat) : (ByteArray.mk l.toArray).extract a b = ByteArray.mk ((l.take b).drop a).toArray := by
  apply ByteArray.ext
  rw [ByteArray.data_extract]
  apply Array.ext'
  simp [List.extract_eq_drop_take']

theorem ret2_str {a b c d : ByteArray} (h : a = c) (k : b = d) : Ending.returned (.tuple #[.string a, .string b]) = .returned (.tuple #[.string c, .string d]) := by rw [h, k]

theorem splitF_here (t : List UInt8) (k : Nat) (hk : k < t.length) (hc : t[k] = 58) (hs : splitF t = (t.take k ++ (splitF (t.drop k)).1, (splitF (t.drop k)).2)) :
    splitF t = (t.take k, t.drop (k + 1)) := by
  rw [hs, List.drop_eq_getElem_cons hk, hc]
  simp [splitF]

theorem splitF_next (t : List UInt8) (k : Nat) (hk : k < t.length) (hc : ¬ t[k] = 58) (hs : splitF t = (t.take k ++ (splitF (t.drop k)).1, (splitF (t.drop k)).2)) :
    splitF t = (t.take (k + 1) ++ (splitF (t.drop (k + 1))).1, (splitF (t.drop (k + 1))).2) := by
  rw [hs, List.drop_eq_getElem_cons hk]
  simp only [splitF, hc, if_false]
  rw [List.take_succ_eq_append_getElem hk, List.append_assoc]
  rfl

set_option maxHeartbeats 400000 in
theorem split_any (t : List UInt8) (w : World) (hl : t.length ≤ 1000000) :
    Calls Try.prog 45 #[.string ⟨t.toArray⟩] w fun e w' => e = .returned (.tuple #[.string ⟨(splitF t).1.toArray⟩, .string ⟨(splitF t).2.toArray⟩]) ∧ ∃ n, w' = w.drewN n := by
  go_enter Try.func45, Try.ntmps45
  go_wp2
  go_loopw [4] (fun i w' => ∃ k : Nat, k ≤ t.length ∧ i = .int .i64 k ∧ Hid (splitF t = (t.take k ++ (splitF (t.drop k)).1, (splitF (t.drop k)).2)) ∧ w' = w) (fun i _ => t.length - (intOf i).toNat)
  case atStart => exact ⟨0, by omega, rfl, by show _ = _; simp, rfl⟩
  case round =>
    obtain ⟨k, hk, rfl, hs, rfl⟩ := hrel
    by_cases hlt : k < t.length
    · have hidx : (ByteArray.mk t.toArray)[k] = t[k] := rfl
      by_cases hc : t[k] = 58
      · have hcb : ((((ByteArray.mk t.toArray)[k]).toNat : Int) == 58) = true := by rw [hidx, hc]; rfl
        have HS : Hid (splitF t = (t.take k, t.drop (k + 1))) := splitF_here t k hlt hc hs.out
        clear hs hc hidx
        go_wp2
        go_quiet (fail)
        go_wp2
        go_ret2
        rw [HS.out]
        refine ⟨?_, _, rfl⟩
        exact ret2_str (by rw [ext_list]; rfl) (by rw [ext_list]; simp)
      · have hcb : ((((ByteArray.mk t.toArray)[k]).toNat : Int) == 58) = false := by
          rw [hidx]
          have : t[k].toNat ≠ 58 := fun h => hc (UInt8.toNat_inj.1 (by rw [h]; rfl))
          simp; omega
        have HS := splitF_next t k hlt hc hs.out
        have HS' : Hid (splitF t = (t.take (k + 1) ++ (splitF (t.drop (k + 1))).1, (splitF (t.drop (k + 1))).2)) := HS
        clear hs hc hidx HS
        go_wp2
        go_roundw
        case rel => exact ⟨k + 1, by omega, by go_num, HS', trivial⟩
        case measure => simp [intOf]; omega
    · have e : k = t.length := by omega
      have HS : Hid (splitF t = (t, [])) := by
        show splitF t = (t, [])
        have := hs.out
        rw [e] at this
        simp [splitF] at this
        exact this
      clear hs e
      go_wp2
      go_ret2
      rw [HS.out]
      exact ⟨rfl, 0, rfl⟩

set_option maxHeartbeats 400000 in
theorem first_any (q : List UInt8) (w : World) (hl : q.length ≤ 1000000) :
    Calls Try.prog 51 #[.string ⟨q.toArray⟩] w fun e w' => e = .returned (.int .u8 (firstF q)) ∧ w' = w := by
  match q with
  | [] =>
    go_enter Try.func51, Try.ntmps51
    go_wp2
    go_ret
    exact ⟨rfl, rfl⟩
  | c :: r =>
    have h0 : (((c :: r).length : Int) == 0) = false := by rw [beq_eq_false_iff_ne]; simp only [List.length_cons]; omega
    have hp : (0 : Int) < ((c :: r).length : Int) := by simp only [List.length_cons]; omega
    simp only [List.length_cons] at hl
    go_enter Try.func51, Try.ntmps51
    go_wp2
    go_ret
    exact ⟨rfl, rfl⟩

set_option maxHeartbeats 400000 in
theorem there_any (lo : Int) (w : World) :
    Calls Try.prog 61 #[.int .i64 lo] w fun e w' => e = .returned (.int .i64 (thereF lo)) ∧ w' = w := by
  by_cases h : lo < 0
  · rw [show thereF lo = 0 from if_pos h]
    go_enter Try.func61, Try.ntmps61
    go_wp2
    go_ret
    exact ⟨rfl, rfl⟩
  · rw [show thereF lo = 1 from if_neg h]
    go_enter Try.func61, Try.ntmps61
    go_wp2
    go_ret
    exact ⟨rfl, rfl⟩

set_option maxHeartbeats 400000 in
theorem limits_any (lo hi most : Int) (w : World) :
    Calls Try.prog 47 #[.int .i64 lo, .int .i64 hi, .int .i64 most] w fun e w' => e = .returned (.bool (limitsF lo hi most)) ∧ w' = w := by
  by_cases h : most < lo
  · rw [show limitsF lo hi most = false from if_pos h]
    go_enter Try.func47, Try.ntmps47
    go_wp2
    go_ret
    exact ⟨rfl, rfl⟩
  · rw [show limitsF lo hi most = (hi == -1 || decide (lo ≤ hi)) from if_neg h]
    by_cases h1 : hi = -1
    · have hb : (hi == -1) = true := by simp [h1]
      subst h1
      go_enter Try.func47, Try.ntmps47
      go_wp2
      go_ret
      exact ⟨rfl, rfl⟩
    · have hb : (hi == -1) = false := by simp [h1]
      rw [hb, Bool.false_or]
      clear h1
      go_enter Try.func47, Try.ntmps47
      go_wp2
      go_ret
      exact ⟨rfl, rfl⟩

set_option maxHeartbeats 400000 in
theorem constOf_any (op : Int) (w : World) (h0 : 0 ≤ op) (h1 : op ≤ 255) :
    Calls Try.prog 48 #[.int .u8 op] w fun e w' => e = .returned (.int .u8 (constOfF op)) ∧ w' = w := by
  by_cases h : 65 ≤ op ∧ op ≤ 68
  · rw [show constOfF op = 192 - op from if_pos h]
    obtain ⟨h2, h3⟩ := h
    go_enter Try.func48, Try.ntmps48
    go_wp2
    go_ret
    exact ⟨ret_int (by omega), rfl⟩
  · rw [show constOfF op = 0 from if_neg h]
    rcases Int.lt_or_le op 65 with h2 | h2
    · clear h
      go_enter Try.func48, Try.ntmps48
      go_wp2
      go_ret
      exact ⟨rfl, rfl⟩
    · have h3 : 68 < op := by omega
      clear h
      go_enter Try.func48, Try.ntmps48
      go_wp2
      go_ret
      exact ⟨rfl, rfl⟩

theorem local_at (l : List UInt8) (k : Nat) (h : k < l.length) : (((l.getD k 0).toNat : Int)) = (((ByteArray.mk l.toArray)[k]).toNat : Int) := by
  rw [show (ByteArray.mk l.toArray)[k] = l[k] from rfl, List.getD_eq_getElem?_getD, List.getElem?_eq_getElem h]; rfl

theorem ret2_ib {k : IntKind} {a b : Int} {c d : Bool} (h : a = b) (h2 : c = d) : Ending.returned (.tuple #[.int k a, .bool c]) = .returned (.tuple #[.int k b, .bool d]) := by rw [h, h2]

set_option maxHeartbeats 400000 in
theorem local_any (params decl : List UInt8) (x : Int) (w : World) (h0 : 0 ≤ x) (h1 : x ≤ 4294967295) (hp : params.length ≤ 1000000) (hd : decl.length ≤ 1000000) :
    Calls Try.prog 66 #[.string ⟨params.toArray⟩, .string ⟨decl.toArray⟩, .int .u32 x] w fun e w' => e = .returned (.tuple #[.int .u8 (localF params decl x).1, .bool (localF params decl x).2]) ∧ w' = w := by
  obtain ⟨n, rfl⟩ := Int.eq_ofNat_of_zero_le h0
  by_cases h : (n : Int) < params.length
  · have hn : n < params.length := by omega
    have hF : localF params decl n = ((((params.getD n 0).toNat : Int)), true) := by unfold localF; rw [if_pos h, Int.toNat_natCast]
    rw [hF, local_at _ _ hn]
    clear hF
    go_enter Try.func66, Try.ntmps66
    go_wp2
    go_ret2
    exact ⟨rfl, rfl⟩
  · by_cases h2 : (n : Int) - params.length < decl.length
    · have hn : n - params.length < decl.length := by omega
      have hF : localF params decl n = ((((decl.getD (n - params.length) 0).toNat : Int)), true) := by
        unfold localF; rw [if_neg h, if_pos h2]; rw [show ((n : Int) - params.length).toNat = n - params.length from by omega]
      rw [hF, local_at _ _ hn]
      clear hF
      go_enter Try.func66, Try.ntmps66
      go_wp2
      go_ret2
      exact ⟨rfl, rfl⟩
    · have hF : localF params decl n = (0, false) := by unfold localF; rw [if_neg h, if_neg h2]
      rw [hF]
      clear hF
      go_enter Try.func66, Try.ntmps66
      go_wp2
      go_ret2
      exact ⟨rfl, rfl⟩

theorem ret3 {j k l : IntKind} {a b c a' b' c' : Int} (h : (a, b, c) = (a', b', c')) : Ending.returned (.tuple #[.int j a, .int k b, .int l c]) = .returned (.tuple #[.int j a', .int k b', .int l c']) := by
  simp only [Prod.mk.injEq] at h; rw [h.1, h.2.1, h.2.2]

set_option maxHeartbeats 1000000 in
theorem numSig_any (op : Int) (w : World) (h0 : 0 ≤ op) (h1 : op ≤ 255) :
    Calls Try.prog 42 #[.int .i64 op] w fun e w' => e = .returned (.tuple #[.int .i64 (numSigF op).1, .int .u8 (numSigF op).2.1, .int .u8 (numSigF op).2.2]) ∧ w' = w := by
  generalize hF : numSigF op = F
  have HF : Hid (numSigF op = F) := hF
  clear hF
  go_enter Try.func42, Try.ntmps42
  go_wp2
  all_goals go_ret3
  all_goals go_light
  all_goals refine ⟨ret3 ?_, rfl⟩
  all_goals rw [show (F.1, F.2.1, F.2.2) = F from rfl, ← HF.out]
  all_goals clear HF
  all_goals simp only [beq_iff_eq, beq_eq_false_iff_ne, ne_eq] at *
  all_goals unfold numSigF
  all_goals repeat (first | rw [if_pos (by omega)] | rw [if_neg (by omega)])

theorem ret3b {j k : IntKind} {a b a' b' : Int} {c c' : Bool} (h : (a, b, c) = (a', b', c')) : Ending.returned (.tuple #[.int j a, .int k b, .bool c]) = .returned (.tuple #[.int j a', .int k b', .bool c']) := by
  simp only [Prod.mk.injEq] at h; rw [h.1, h.2.1, h.2.2]

set_option maxHeartbeats 1000000 in
theorem memSig_any (op : Int) (w : World) :
    Calls Try.prog 43 #[.int .i64 op] w fun e w' => e = .returned (.tuple #[.int .i64 (memSigF op).1, .int .u8 (memSigF op).2.1, .bool (memSigF op).2.2]) ∧ w' = w := by
  generalize hF : memSigF op = F
  have HF : Hid (memSigF op = F) := hF
  clear hF
  go_enter Try.func43, Try.ntmps43
  go_wp2
  all_goals go_ret3
  all_goals go_light
  all_goals refine ⟨ret3b ?_, rfl⟩
  all_goals rw [show (F.1, F.2.1, F.2.2) = F from rfl, ← HF.out]
  all_goals clear HF
  all_goals simp only [beq_iff_eq, beq_eq_false_iff_ne, ne_eq] at *
  all_goals unfold memSigF
  all_goals repeat (first | rw [if_pos (by omega)] | rw [if_neg (by omega)])

end Go.Proofs.Qxb6500273a
