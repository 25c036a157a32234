/-
  WALKS: plain.
-/
import Derived.Test.Qxb6500273aMemory
namespace Go.Proofs.Qxb6500273a
open Go.RowKit

/-- What plain owes. -/
def PlainSaid (bv : Nat) (L : Lay) (M : Md) (V : VS) (params : List UInt8) (x : Insn) (w : World) : Prop :=
  Calls Try.prog 57 #[.pointer (some ⟨bv, 0, none⟩), .pointer (some ⟨L.p, 0, none⟩), .string ⟨params.toArray⟩, .string ⟨allFour.toArray⟩, .agg #[.int .u8 x.op, .int .u32 x.x, .int .u64 x.y]] w fun e w' => e = .returned (.tuple #[.int .u8 (plainF M V params x).1, .int .i64 (plainF M V params x).2.1]) ∧ VAt w' bv (plainF M V params x).2.2 ∧ Ex bv w w'

section
variable (bv : Nat) (L : Lay) (M : Md) (V : VS) (params : List UInt8) (x : Insn) (w : World)

set_option maxRecDepth 100000 in
set_option maxHeartbeats 400000 in
theorem plain_call (hM : ModAt w bv L M) (hV : VAt w bv V) (ok : V.Ok) (ht : M.t1.length ≤ 1000) (hop : x.op = 16 ∨ x.op = 17) (h0 : 0 ≤ x.x) (h1 : x.x ≤ 4294967295) : PlainSaid bv L M V params x w := by
  unfold PlainSaid
  have hF : plainF M V params x = callF M V x := by unfold plainF; rw [if_pos hop]
  rw [hF]
  clear hF
  have hV' := hV.alloc (.cells #[.int .u8 x.op, .int .u32 x.x, .int .u64 x.y] 42)
  have hM' := hM.alloc (.cells #[.int .u8 x.op, .int .u32 x.x, .int .u64 x.y] 42)
  have hE' := (Ex.refl bv w).alloc (.cells #[.int .u8 x.op, .int .u32 x.x, .int .u64 x.y] 42)
  have hC := call_any bv L M V x _ hM' hV' ok ht hop h0 h1
  generalize callF M V x = q at *
  have HC := hC
  clear hC
  rcases hop with h | h
  · rw [h] at hV' hM' hE' HC ⊢
    clear h
    go_enter Try.func57, Try.ntmps57
    go_wp2_with (go_at_call 63; refine HC.mono ?_; rintro e w1 ⟨rfl, hV1, hE1⟩)
    go_ret2
    exact ⟨rfl, hV1, hE'.trans hE1⟩
  · rw [h] at hV' hM' hE' HC ⊢
    clear h
    go_enter Try.func57, Try.ntmps57
    go_wp2_with (go_at_call 63; refine HC.mono ?_; rintro e w1 ⟨rfl, hV1, hE1⟩)
    go_ret2
    exact ⟨rfl, hV1, hE'.trans hE1⟩

set_option maxRecDepth 100000 in
set_option maxHeartbeats 400000 in
theorem plain_drop (hV : VAt w bv V) (ok : V.Ok) (hop : x.op = 26) : PlainSaid bv L M V params x w := by
  unfold PlainSaid
  have hF : plainF M V params x = (64, typedF (popF V 0).2.1, (popF V 0).2.2) := by simp [plainF, hop]
  rw [hF, hop]
  clear hF hop
  have hV' := hV.alloc (.cells #[.int .u8 26, .int .u32 x.x, .int .u64 x.y] 42)
  have hE' := (Ex.refl bv w).alloc (.cells #[.int .u8 26, .int .u32 x.x, .int .u64 x.y] 42)
  go_enter Try.func57, Try.ntmps57
  go_wp2_with (first | (go_at_call 62; refine (pop_any bv V 0 _ hV' ok).mono ?_; rintro e w1 ⟨rfl, hV1, hE1⟩) | (go_at_call 64; refine (typed_any _ _).mono ?_; rintro e w5 ⟨rfl, rfl⟩))
  go_ret2
  exact ⟨rfl, hV1, hE'.trans hE1⟩

set_option maxRecDepth 100000 in
set_option maxHeartbeats 400000 in
theorem plain_sel (hV : VAt w bv V) (ok : V.Ok) (hop : x.op = 27) : PlainSaid bv L M V params x w := by
  unfold PlainSaid
  have hF : plainF M V params x = selF V := by simp [plainF, hop]
  rw [hF, hop]
  clear hF hop
  have hV' := hV.alloc (.cells #[.int .u8 27, .int .u32 x.x, .int .u64 x.y] 42)
  have hE' := (Ex.refl bv w).alloc (.cells #[.int .u8 27, .int .u32 x.x, .int .u64 x.y] 42)
  go_enter Try.func57, Try.ntmps57
  go_wp2_with (go_at_call 65; refine (sel_any bv V _ hV' ok).mono ?_; rintro e w1 ⟨rfl, hV1, hE1⟩)
  go_ret2
  exact ⟨rfl, hV1, hE'.trans hE1⟩

set_option maxRecDepth 100000 in
set_option maxHeartbeats 400000 in
theorem plain_mem (hM : ModAt w bv L M) (hV : VAt w bv V) (ok : V.Ok) (hlo : 40 ≤ x.op) (hhi : x.op ≤ 64) (h0 : 0 ≤ x.x) (h1 : x.x ≤ 4294967295) : PlainSaid bv L M V params x w := by
  unfold PlainSaid
  have hF : plainF M V params x = memoryF M V x := by
    unfold plainF
    rw [if_neg (by omega), if_neg (by omega), if_neg (by omega), if_neg (by omega), if_neg (by omega), if_pos ⟨hlo, hhi⟩]
  rw [hF]
  clear hF
  have hV' := hV.alloc (.cells #[.int .u8 x.op, .int .u32 x.x, .int .u64 x.y] 42)
  have hM' := hM.alloc (.cells #[.int .u8 x.op, .int .u32 x.x, .int .u64 x.y] 42)
  have hE' := (Ex.refl bv w).alloc (.cells #[.int .u8 x.op, .int .u32 x.x, .int .u64 x.y] 42)
  have HC := memory_any bv L M V x _ hM' hV' ok hlo hhi h0 h1
  generalize memoryF M V x = q at *
  generalize x.op = op at *
  have b1 : (op == 16) = false := by rw [beq_eq_false_iff_ne]; omega
  have b2 : (op == 17) = false := by rw [beq_eq_false_iff_ne]; omega
  have b3 : (op == 26) = false := by rw [beq_eq_false_iff_ne]; omega
  have b4 : (op == 27) = false := by rw [beq_eq_false_iff_ne]; omega
  have b5 : (op == 35) = false := by rw [beq_eq_false_iff_ne]; omega
  have b6 : (op == 36) = false := by rw [beq_eq_false_iff_ne]; omega
  go_enter Try.func57, Try.ntmps57
  go_wp2_with (go_at_call 67; refine HC.mono ?_; rintro e w1 ⟨rfl, hV1, hE1⟩)
  go_ret2
  exact ⟨rfl, hV1, hE'.trans hE1⟩

set_option maxRecDepth 100000 in
set_option maxHeartbeats 400000 in
theorem plain_const (hV : VAt w bv V) (hlo : 65 ≤ x.op) (hhi : x.op ≤ 68) : PlainSaid bv L M V params x w := by
  unfold PlainSaid
  have hF : plainF M V params x = (constOfF x.op, 0, V) := by
    unfold plainF
    rw [if_neg (by omega), if_neg (by omega), if_neg (by omega), if_neg (by omega), if_neg (by omega), if_neg (by omega), if_pos ⟨hlo, hhi⟩]
  rw [hF]
  clear hF
  have hV' := hV.alloc (.cells #[.int .u8 x.op, .int .u32 x.x, .int .u64 x.y] 42)
  have hE' := (Ex.refl bv w).alloc (.cells #[.int .u8 x.op, .int .u32 x.x, .int .u64 x.y] 42)
  have HC := fun wx => constOf_any x.op wx (by omega) (by omega)
  generalize constOfF x.op = q at *
  generalize x.op = op at *
  have b1 : (op == 16) = false := by rw [beq_eq_false_iff_ne]; omega
  have b2 : (op == 17) = false := by rw [beq_eq_false_iff_ne]; omega
  have b3 : (op == 26) = false := by rw [beq_eq_false_iff_ne]; omega
  have b4 : (op == 27) = false := by rw [beq_eq_false_iff_ne]; omega
  have b5 : (op == 35) = false := by rw [beq_eq_false_iff_ne]; omega
  have b6 : (op == 36) = false := by rw [beq_eq_false_iff_ne]; omega
  go_enter Try.func57, Try.ntmps57
  go_wp2_with (go_at_call 48; refine (HC _).mono ?_; rintro e w1 ⟨rfl, rfl⟩)
  go_ret2
  exact ⟨rfl, hV', hE'⟩

set_option maxRecDepth 100000 in
set_option maxHeartbeats 400000 in
theorem plain_local (hV : VAt w bv V) (ok : V.Ok) (hlo : 32 ≤ x.op) (hhi : x.op ≤ 34) (h0 : 0 ≤ x.x) (h1 : x.x ≤ 4294967295) (hp : params.length ≤ 1000) : PlainSaid bv L M V params x w := by
  unfold PlainSaid
  have hF : plainF M V params x = if (localF params allFour x.x).2 = true then
      if x.op = 32 then ((localF params allFour x.x).1, 0, V)
      else
        (if x.op = 33 then 64 else (localF params allFour x.x).1, typedF (carryF V (localF params allFour x.x).1).1, (carryF V (localF params allFour x.x).1).2)
    else (64, 22, V) := by
    unfold plainF
    rw [if_neg (by omega), if_neg (by omega), if_neg (by omega), if_pos ⟨hlo, hhi⟩]
  rw [hF]
  have hV' := hV.alloc (.cells #[.int .u8 x.op, .int .u32 x.x, .int .u64 x.y] 42)
  have hE' := (Ex.refl bv w).alloc (.cells #[.int .u8 x.op, .int .u32 x.x, .int .u64 x.y] 42)
  have HC := fun wx => local_any params allFour x.x wx h0 h1 (by omega) (by simp [allFour])
  generalize localF params allFour x.x = q at *
  clear hF
  cases hq : q.2
  · simp only [Bool.false_eq_true, if_false]
    generalize x.op = op at *
    have b1 : (op == 16) = false := by rw [beq_eq_false_iff_ne]; omega
    have b2 : (op == 17) = false := by rw [beq_eq_false_iff_ne]; omega
    have b3 : (op == 26) = false := by rw [beq_eq_false_iff_ne]; omega
    have b4 : (op == 27) = false := by rw [beq_eq_false_iff_ne]; omega
    go_enter Try.func57, Try.ntmps57
    go_wp2_with (go_at_call 66; refine (HC _).mono ?_; rw [hq]; rintro e w1 ⟨rfl, rfl⟩)
    go_ret2
    exact ⟨rfl, hV', hE'⟩
  · simp only [if_true]
    by_cases h32 : x.op = 32
    · rw [if_pos h32]
      rw [h32] at hV' hE' ⊢
      clear h32 hlo hhi
      go_enter Try.func57, Try.ntmps57
      go_wp2_with (go_at_call 66; refine (HC _).mono ?_; rw [hq]; rintro e w1 ⟨rfl, rfl⟩)
      go_ret2
      exact ⟨rfl, hV', hE'⟩
    · rw [if_neg h32]
      by_cases h33 : x.op = 33
      · rw [if_pos h33]
        rw [h33] at hV' hE' ⊢
        clear h32 h33 hlo hhi
        go_enter Try.func57, Try.ntmps57
        go_wp2_with (first | (go_at_call 66; refine (HC _).mono ?_; rw [hq]; rintro e w1 ⟨rfl, rfl⟩) | (go_at_call 53; refine (carry_any bv V q.1 _ hV' ok).mono ?_; rintro e w1 ⟨rfl, hV1, hE1⟩) | (go_at_call 64; refine (typed_any _ _).mono ?_; rintro e w5 ⟨rfl, rfl⟩))
        go_ret2
        exact ⟨rfl, hV1, hE'.trans hE1⟩
      · rw [if_neg h33]
        have h34 : x.op = 34 := by omega
        rw [h34] at hV' hE' ⊢
        clear h32 h33 h34 hlo hhi
        go_enter Try.func57, Try.ntmps57
        go_wp2_with (first | (go_at_call 66; refine (HC _).mono ?_; rw [hq]; rintro e w1 ⟨rfl, rfl⟩) | (go_at_call 53; refine (carry_any bv V q.1 _ hV' ok).mono ?_; rintro e w1 ⟨rfl, hV1, hE1⟩) | (go_at_call 64; refine (typed_any _ _).mono ?_; rintro e w5 ⟨rfl, rfl⟩))
        go_ret2
        exact ⟨rfl, hV1, hE'.trans hE1⟩

set_option maxRecDepth 100000 in
set_option maxHeartbeats 400000 in
theorem plain_glob (hM : ModAt w bv L M) (hV : VAt w bv V) (ok : V.Ok) (hop : x.op = 35 ∨ x.op = 36) (h0 : 0 ≤ x.x) (h1 : x.x ≤ 4294967295) : PlainSaid bv L M V params x w := by
  unfold PlainSaid
  have hF : plainF M V params x = if 4 ≤ x.x then (64, 23, V)
    else if x.op = 35 then (gType x.x.toNat, 0, V)
    else if gMut M x.x.toNat = true then
      (64, typedF (carryF V (gType x.x.toNat)).1, (carryF V (gType x.x.toNat)).2)
    else (64, 24, V) := by
    unfold plainF
    rw [if_neg (by omega), if_neg (by omega), if_neg (by omega), if_neg (by omega), if_pos hop]
  rw [hF]
  have hV' := hV.alloc (.cells #[.int .u8 x.op, .int .u32 x.x, .int .u64 x.y] 42)
  have hM' := hM.alloc (.cells #[.int .u8 x.op, .int .u32 x.x, .int .u64 x.y] 42)
  have hE' := (Ex.refl bv w).alloc (.cells #[.int .u8 x.op, .int .u32 x.x, .int .u64 x.y] 42)
  have c7 := hM'.m7
  clear hF
  obtain ⟨n, hn⟩ := Int.eq_ofNat_of_zero_le h0
  rw [hn] at hV' hM' hE' c7 h1 ⊢
  clear hn h0
  by_cases h4 : 4 ≤ (n : Int)
  · rw [if_pos h4]
    generalize x.op = op at *
    rcases hop with hop | hop
    · subst hop
      go_enter Try.func57, Try.ntmps57
      go_wp2
      go_quiet (fail)
      go_wp2
      go_ret2
      exact ⟨rfl, hV'.drewN _, hE'.drewN _⟩
    · subst hop
      go_enter Try.func57, Try.ntmps57
      go_wp2
      go_quiet (fail)
      go_wp2
      go_ret2
      exact ⟨rfl, hV'.drewN _, hE'.drewN _⟩
  · rw [if_neg h4]
    have hn4 : n < 4 := by omega
    have g0 := hM'.g0 n hn4
    have g1 := hM'.g1 n hn4
    have hni : (n : Int) < 4 := by omega
    rw [Int.toNat_natCast]
    generalize gType n = g at *
    generalize gMut M n = mu at *
    clear h4 hM'
    generalize x.op = op at *
    rcases hop with hop | hop
    · subst hop
      rw [if_pos rfl]
      go_enter Try.func57, Try.ntmps57
      go_wp2
      go_quiet (fail)
      go_wp2
      go_quiet (fail)
      go_wp2
      go_ret2
      exact ⟨rfl, hV'.drewN _, hE'.drewN _⟩
    · subst hop
      rw [if_neg (by decide)]
      cases mu
      · simp only [Bool.false_eq_true, if_false]
        go_enter Try.func57, Try.ntmps57
        go_wp2
        go_quiet (fail)
        go_wp2
        go_quiet (fail)
        go_wp2
        go_ret2
        exact ⟨rfl, hV'.drewN _, hE'.drewN _⟩
      · simp only [if_true]
        go_enter Try.func57, Try.ntmps57
        go_wp2
        go_quiet (fail)
        go_wp2
        go_quiet (fail)
        go_wp2_with (first | (go_at_call 53; refine (carry_any bv V g _ ?_ ok).mono ?_; exact hV'.drewN _; rintro e w1 ⟨rfl, hV1, hE1⟩) | (go_at_call 64; refine (typed_any _ _).mono ?_; rintro e w5 ⟨rfl, rfl⟩))
        go_ret2
        exact ⟨rfl, hV1, (hE'.drewN _).trans hE1⟩

set_option maxRecDepth 100000 in
set_option maxHeartbeats 400000 in
theorem plain_num0 (hV : VAt w bv V) (ok : V.Ok) (g0 : 0 ≤ x.op) (g1 : x.op ≤ 15) : PlainSaid bv L M V params x w := by
  unfold PlainSaid
  have hF : plainF M V params x = if (numSigF x.op).1 = 0 then (64, 10, V)
  else
    if (carryF V (numSigF x.op).2.1).1 = true ∧ (numSigF x.op).1 = 2 then
      ((numSigF x.op).2.2, typedF (carryF (carryF V (numSigF x.op).2.1).2 (numSigF x.op).2.1).1, (carryF (carryF V (numSigF x.op).2.1).2 (numSigF x.op).2.1).2)
    else ((numSigF x.op).2.2, typedF (carryF V (numSigF x.op).2.1).1, (carryF V (numSigF x.op).2.1).2) := by
    unfold plainF
    rw [if_neg (by omega), if_neg (by omega), if_neg (by omega), if_neg (by omega), if_neg (by omega), if_neg (by omega), if_neg (by omega)]
  rw [hF]
  have hV' := hV.alloc (.cells #[.int .u8 x.op, .int .u32 x.x, .int .u64 x.y] 42)
  have hE' := (Ex.refl bv w).alloc (.cells #[.int .u8 x.op, .int .u32 x.x, .int .u64 x.y] 42)
  have HC := fun wx => numSig_any x.op wx (by omega) (by omega)
  generalize numSigF x.op = q at *
  generalize x.op = op at *
  clear hF
  have b1 : (op == 16) = false := by rw [beq_eq_false_iff_ne]; omega
  have b2 : (op == 17) = false := by rw [beq_eq_false_iff_ne]; omega
  have b3 : (op == 26) = false := by rw [beq_eq_false_iff_ne]; omega
  have b4 : (op == 27) = false := by rw [beq_eq_false_iff_ne]; omega
  have b5 : (op == 35) = false := by rw [beq_eq_false_iff_ne]; omega
  have b6 : (op == 36) = false := by rw [beq_eq_false_iff_ne]; omega
  have ok1 := carryF_ok ok q.2.1
  generalize hr : carryF V q.2.1 = r at *
  have HR : Hid (carryF V q.2.1 = r) := hr
  clear hr
  by_cases hq0 : q.1 = 0
  · rw [if_pos hq0]
    have bq : (q.1 == 0) = true := by simp [hq0]
    clear hq0
    go_enter Try.func57, Try.ntmps57
    go_wp2_with (go_at_call 42; refine (HC _).mono ?_; rintro e w1 ⟨rfl, rfl⟩)
    go_ret2
    exact ⟨rfl, hV', hE'⟩
  · rw [if_neg hq0]
    have bq : (q.1 == 0) = false := by simp [hq0]
    clear hq0
    cases hr1 : r.1
    · simp only [Bool.false_eq_true, false_and, if_false]
      go_enter Try.func57, Try.ntmps57
      go_wp2_with (first | (go_at_call 42; refine (HC _).mono ?_; rintro e w1 ⟨rfl, rfl⟩) | (go_at_call 53; refine (carry_any bv V q.2.1 _ hV' ok).mono ?_; rw [HR.out, hr1]; rintro e w1 ⟨rfl, hV1, hE1⟩) | (go_at_call 64; refine (typed_any _ _).mono ?_; rintro e w5 ⟨rfl, rfl⟩))
      go_ret2
      exact ⟨rfl, hV1, hE'.trans hE1⟩
    · by_cases h2 : q.1 = 2
      · rw [if_pos ⟨rfl, h2⟩]
        have b2 : (q.1 == 2) = true := by simp [h2]
        clear h2
        go_enter Try.func57, Try.ntmps57
        go_wp2_with (go_at_call 42; refine (HC _).mono ?_; rintro e w1 ⟨rfl, rfl⟩)
        refine (carry_any bv V q.2.1 _ hV' ok).mono ?_
        rw [HR.out, hr1]
        rintro e w1 ⟨rfl, hV1, hE1⟩
        go_wp2_with fail
        refine (carry_any bv r.2 q.2.1 _ hV1 ok1).mono ?_
        rintro e w2 ⟨rfl, hV2, hE2⟩
        go_wp2_with (go_at_call 64; refine (typed_any _ _).mono ?_; rintro e w5 ⟨rfl, rfl⟩)
        go_ret2
        exact ⟨rfl, hV2, (hE'.trans hE1).trans hE2⟩
      · rw [if_neg (fun h => h2 h.2)]
        have b2 : (q.1 == 2) = false := by simp [h2]
        clear h2
        go_enter Try.func57, Try.ntmps57
        go_wp2_with (first | (go_at_call 42; refine (HC _).mono ?_; rintro e w1 ⟨rfl, rfl⟩) | (go_at_call 53; refine (carry_any bv V q.2.1 _ hV' ok).mono ?_; rw [HR.out, hr1]; rintro e w1 ⟨rfl, hV1, hE1⟩) | (go_at_call 64; refine (typed_any _ _).mono ?_; rintro e w5 ⟨rfl, rfl⟩))
        go_ret2
        exact ⟨rfl, hV1, hE'.trans hE1⟩

set_option maxRecDepth 100000 in
set_option maxHeartbeats 400000 in
theorem plain_num1 (hV : VAt w bv V) (ok : V.Ok) (g0 : 18 ≤ x.op) (g1 : x.op ≤ 25) : PlainSaid bv L M V params x w := by
  unfold PlainSaid
  have hF : plainF M V params x = if (numSigF x.op).1 = 0 then (64, 10, V)
  else
    if (carryF V (numSigF x.op).2.1).1 = true ∧ (numSigF x.op).1 = 2 then
      ((numSigF x.op).2.2, typedF (carryF (carryF V (numSigF x.op).2.1).2 (numSigF x.op).2.1).1, (carryF (carryF V (numSigF x.op).2.1).2 (numSigF x.op).2.1).2)
    else ((numSigF x.op).2.2, typedF (carryF V (numSigF x.op).2.1).1, (carryF V (numSigF x.op).2.1).2) := by
    unfold plainF
    rw [if_neg (by omega), if_neg (by omega), if_neg (by omega), if_neg (by omega), if_neg (by omega), if_neg (by omega), if_neg (by omega)]
  rw [hF]
  have hV' := hV.alloc (.cells #[.int .u8 x.op, .int .u32 x.x, .int .u64 x.y] 42)
  have hE' := (Ex.refl bv w).alloc (.cells #[.int .u8 x.op, .int .u32 x.x, .int .u64 x.y] 42)
  have HC := fun wx => numSig_any x.op wx (by omega) (by omega)
  generalize numSigF x.op = q at *
  generalize x.op = op at *
  clear hF
  have b1 : (op == 16) = false := by rw [beq_eq_false_iff_ne]; omega
  have b2 : (op == 17) = false := by rw [beq_eq_false_iff_ne]; omega
  have b3 : (op == 26) = false := by rw [beq_eq_false_iff_ne]; omega
  have b4 : (op == 27) = false := by rw [beq_eq_false_iff_ne]; omega
  have b5 : (op == 35) = false := by rw [beq_eq_false_iff_ne]; omega
  have b6 : (op == 36) = false := by rw [beq_eq_false_iff_ne]; omega
  have ok1 := carryF_ok ok q.2.1
  generalize hr : carryF V q.2.1 = r at *
  have HR : Hid (carryF V q.2.1 = r) := hr
  clear hr
  by_cases hq0 : q.1 = 0
  · rw [if_pos hq0]
    have bq : (q.1 == 0) = true := by simp [hq0]
    clear hq0
    go_enter Try.func57, Try.ntmps57
    go_wp2_with (go_at_call 42; refine (HC _).mono ?_; rintro e w1 ⟨rfl, rfl⟩)
    go_ret2
    exact ⟨rfl, hV', hE'⟩
  · rw [if_neg hq0]
    have bq : (q.1 == 0) = false := by simp [hq0]
    clear hq0
    cases hr1 : r.1
    · simp only [Bool.false_eq_true, false_and, if_false]
      go_enter Try.func57, Try.ntmps57
      go_wp2_with (first | (go_at_call 42; refine (HC _).mono ?_; rintro e w1 ⟨rfl, rfl⟩) | (go_at_call 53; refine (carry_any bv V q.2.1 _ hV' ok).mono ?_; rw [HR.out, hr1]; rintro e w1 ⟨rfl, hV1, hE1⟩) | (go_at_call 64; refine (typed_any _ _).mono ?_; rintro e w5 ⟨rfl, rfl⟩))
      go_ret2
      exact ⟨rfl, hV1, hE'.trans hE1⟩
    · by_cases h2 : q.1 = 2
      · rw [if_pos ⟨rfl, h2⟩]
        have b2 : (q.1 == 2) = true := by simp [h2]
        clear h2
        go_enter Try.func57, Try.ntmps57
        go_wp2_with (go_at_call 42; refine (HC _).mono ?_; rintro e w1 ⟨rfl, rfl⟩)
        refine (carry_any bv V q.2.1 _ hV' ok).mono ?_
        rw [HR.out, hr1]
        rintro e w1 ⟨rfl, hV1, hE1⟩
        go_wp2_with fail
        refine (carry_any bv r.2 q.2.1 _ hV1 ok1).mono ?_
        rintro e w2 ⟨rfl, hV2, hE2⟩
        go_wp2_with (go_at_call 64; refine (typed_any _ _).mono ?_; rintro e w5 ⟨rfl, rfl⟩)
        go_ret2
        exact ⟨rfl, hV2, (hE'.trans hE1).trans hE2⟩
      · rw [if_neg (fun h => h2 h.2)]
        have b2 : (q.1 == 2) = false := by simp [h2]
        clear h2
        go_enter Try.func57, Try.ntmps57
        go_wp2_with (first | (go_at_call 42; refine (HC _).mono ?_; rintro e w1 ⟨rfl, rfl⟩) | (go_at_call 53; refine (carry_any bv V q.2.1 _ hV' ok).mono ?_; rw [HR.out, hr1]; rintro e w1 ⟨rfl, hV1, hE1⟩) | (go_at_call 64; refine (typed_any _ _).mono ?_; rintro e w5 ⟨rfl, rfl⟩))
        go_ret2
        exact ⟨rfl, hV1, hE'.trans hE1⟩

set_option maxRecDepth 100000 in
set_option maxHeartbeats 400000 in
theorem plain_num2 (hV : VAt w bv V) (ok : V.Ok) (g0 : 28 ≤ x.op) (g1 : x.op ≤ 31) : PlainSaid bv L M V params x w := by
  unfold PlainSaid
  have hF : plainF M V params x = if (numSigF x.op).1 = 0 then (64, 10, V)
  else
    if (carryF V (numSigF x.op).2.1).1 = true ∧ (numSigF x.op).1 = 2 then
      ((numSigF x.op).2.2, typedF (carryF (carryF V (numSigF x.op).2.1).2 (numSigF x.op).2.1).1, (carryF (carryF V (numSigF x.op).2.1).2 (numSigF x.op).2.1).2)
    else ((numSigF x.op).2.2, typedF (carryF V (numSigF x.op).2.1).1, (carryF V (numSigF x.op).2.1).2) := by
    unfold plainF
    rw [if_neg (by omega), if_neg (by omega), if_neg (by omega), if_neg (by omega), if_neg (by omega), if_neg (by omega), if_neg (by omega)]
  rw [hF]
  have hV' := hV.alloc (.cells #[.int .u8 x.op, .int .u32 x.x, .int .u64 x.y] 42)
  have hE' := (Ex.refl bv w).alloc (.cells #[.int .u8 x.op, .int .u32 x.x, .int .u64 x.y] 42)
  have HC := fun wx => numSig_any x.op wx (by omega) (by omega)
  generalize numSigF x.op = q at *
  generalize x.op = op at *
  clear hF
  have b1 : (op == 16) = false := by rw [beq_eq_false_iff_ne]; omega
  have b2 : (op == 17) = false := by rw [beq_eq_false_iff_ne]; omega
  have b3 : (op == 26) = false := by rw [beq_eq_false_iff_ne]; omega
  have b4 : (op == 27) = false := by rw [beq_eq_false_iff_ne]; omega
  have b5 : (op == 35) = false := by rw [beq_eq_false_iff_ne]; omega
  have b6 : (op == 36) = false := by rw [beq_eq_false_iff_ne]; omega
  have ok1 := carryF_ok ok q.2.1
  generalize hr : carryF V q.2.1 = r at *
  have HR : Hid (carryF V q.2.1 = r) := hr
  clear hr
  by_cases hq0 : q.1 = 0
  · rw [if_pos hq0]
    have bq : (q.1 == 0) = true := by simp [hq0]
    clear hq0
    go_enter Try.func57, Try.ntmps57
    go_wp2_with (go_at_call 42; refine (HC _).mono ?_; rintro e w1 ⟨rfl, rfl⟩)
    go_ret2
    exact ⟨rfl, hV', hE'⟩
  · rw [if_neg hq0]
    have bq : (q.1 == 0) = false := by simp [hq0]
    clear hq0
    cases hr1 : r.1
    · simp only [Bool.false_eq_true, false_and, if_false]
      go_enter Try.func57, Try.ntmps57
      go_wp2_with (first | (go_at_call 42; refine (HC _).mono ?_; rintro e w1 ⟨rfl, rfl⟩) | (go_at_call 53; refine (carry_any bv V q.2.1 _ hV' ok).mono ?_; rw [HR.out, hr1]; rintro e w1 ⟨rfl, hV1, hE1⟩) | (go_at_call 64; refine (typed_any _ _).mono ?_; rintro e w5 ⟨rfl, rfl⟩))
      go_ret2
      exact ⟨rfl, hV1, hE'.trans hE1⟩
    · by_cases h2 : q.1 = 2
      · rw [if_pos ⟨rfl, h2⟩]
        have b2 : (q.1 == 2) = true := by simp [h2]
        clear h2
        go_enter Try.func57, Try.ntmps57
        go_wp2_with (go_at_call 42; refine (HC _).mono ?_; rintro e w1 ⟨rfl, rfl⟩)
        refine (carry_any bv V q.2.1 _ hV' ok).mono ?_
        rw [HR.out, hr1]
        rintro e w1 ⟨rfl, hV1, hE1⟩
        go_wp2_with fail
        refine (carry_any bv r.2 q.2.1 _ hV1 ok1).mono ?_
        rintro e w2 ⟨rfl, hV2, hE2⟩
        go_wp2_with (go_at_call 64; refine (typed_any _ _).mono ?_; rintro e w5 ⟨rfl, rfl⟩)
        go_ret2
        exact ⟨rfl, hV2, (hE'.trans hE1).trans hE2⟩
      · rw [if_neg (fun h => h2 h.2)]
        have b2 : (q.1 == 2) = false := by simp [h2]
        clear h2
        go_enter Try.func57, Try.ntmps57
        go_wp2_with (first | (go_at_call 42; refine (HC _).mono ?_; rintro e w1 ⟨rfl, rfl⟩) | (go_at_call 53; refine (carry_any bv V q.2.1 _ hV' ok).mono ?_; rw [HR.out, hr1]; rintro e w1 ⟨rfl, hV1, hE1⟩) | (go_at_call 64; refine (typed_any _ _).mono ?_; rintro e w5 ⟨rfl, rfl⟩))
        go_ret2
        exact ⟨rfl, hV1, hE'.trans hE1⟩

set_option maxRecDepth 100000 in
set_option maxHeartbeats 400000 in
theorem plain_num3 (hV : VAt w bv V) (ok : V.Ok) (g0 : 37 ≤ x.op) (g1 : x.op ≤ 39) : PlainSaid bv L M V params x w := by
  unfold PlainSaid
  have hF : plainF M V params x = if (numSigF x.op).1 = 0 then (64, 10, V)
  else
    if (carryF V (numSigF x.op).2.1).1 = true ∧ (numSigF x.op).1 = 2 then
      ((numSigF x.op).2.2, typedF (carryF (carryF V (numSigF x.op).2.1).2 (numSigF x.op).2.1).1, (carryF (carryF V (numSigF x.op).2.1).2 (numSigF x.op).2.1).2)
    else ((numSigF x.op).2.2, typedF (carryF V (numSigF x.op).2.1).1, (carryF V (numSigF x.op).2.1).2) := by
    unfold plainF
    rw [if_neg (by omega), if_neg (by omega), if_neg (by omega), if_neg (by omega), if_neg (by omega), if_neg (by omega), if_neg (by omega)]
  rw [hF]
  have hV' := hV.alloc (.cells #[.int .u8 x.op, .int .u32 x.x, .int .u64 x.y] 42)
  have hE' := (Ex.refl bv w).alloc (.cells #[.int .u8 x.op, .int .u32 x.x, .int .u64 x.y] 42)
  have HC := fun wx => numSig_any x.op wx (by omega) (by omega)
  generalize numSigF x.op = q at *
  generalize x.op = op at *
  clear hF
  have b1 : (op == 16) = false := by rw [beq_eq_false_iff_ne]; omega
  have b2 : (op == 17) = false := by rw [beq_eq_false_iff_ne]; omega
  have b3 : (op == 26) = false := by rw [beq_eq_false_iff_ne]; omega
  have b4 : (op == 27) = false := by rw [beq_eq_false_iff_ne]; omega
  have b5 : (op == 35) = false := by rw [beq_eq_false_iff_ne]; omega
  have b6 : (op == 36) = false := by rw [beq_eq_false_iff_ne]; omega
  have ok1 := carryF_ok ok q.2.1
  generalize hr : carryF V q.2.1 = r at *
  have HR : Hid (carryF V q.2.1 = r) := hr
  clear hr
  by_cases hq0 : q.1 = 0
  · rw [if_pos hq0]
    have bq : (q.1 == 0) = true := by simp [hq0]
    clear hq0
    go_enter Try.func57, Try.ntmps57
    go_wp2_with (go_at_call 42; refine (HC _).mono ?_; rintro e w1 ⟨rfl, rfl⟩)
    go_ret2
    exact ⟨rfl, hV', hE'⟩
  · rw [if_neg hq0]
    have bq : (q.1 == 0) = false := by simp [hq0]
    clear hq0
    cases hr1 : r.1
    · simp only [Bool.false_eq_true, false_and, if_false]
      go_enter Try.func57, Try.ntmps57
      go_wp2_with (first | (go_at_call 42; refine (HC _).mono ?_; rintro e w1 ⟨rfl, rfl⟩) | (go_at_call 53; refine (carry_any bv V q.2.1 _ hV' ok).mono ?_; rw [HR.out, hr1]; rintro e w1 ⟨rfl, hV1, hE1⟩) | (go_at_call 64; refine (typed_any _ _).mono ?_; rintro e w5 ⟨rfl, rfl⟩))
      go_ret2
      exact ⟨rfl, hV1, hE'.trans hE1⟩
    · by_cases h2 : q.1 = 2
      · rw [if_pos ⟨rfl, h2⟩]
        have b2 : (q.1 == 2) = true := by simp [h2]
        clear h2
        go_enter Try.func57, Try.ntmps57
        go_wp2_with (go_at_call 42; refine (HC _).mono ?_; rintro e w1 ⟨rfl, rfl⟩)
        refine (carry_any bv V q.2.1 _ hV' ok).mono ?_
        rw [HR.out, hr1]
        rintro e w1 ⟨rfl, hV1, hE1⟩
        go_wp2_with fail
        refine (carry_any bv r.2 q.2.1 _ hV1 ok1).mono ?_
        rintro e w2 ⟨rfl, hV2, hE2⟩
        go_wp2_with (go_at_call 64; refine (typed_any _ _).mono ?_; rintro e w5 ⟨rfl, rfl⟩)
        go_ret2
        exact ⟨rfl, hV2, (hE'.trans hE1).trans hE2⟩
      · rw [if_neg (fun h => h2 h.2)]
        have b2 : (q.1 == 2) = false := by simp [h2]
        clear h2
        go_enter Try.func57, Try.ntmps57
        go_wp2_with (first | (go_at_call 42; refine (HC _).mono ?_; rintro e w1 ⟨rfl, rfl⟩) | (go_at_call 53; refine (carry_any bv V q.2.1 _ hV' ok).mono ?_; rw [HR.out, hr1]; rintro e w1 ⟨rfl, hV1, hE1⟩) | (go_at_call 64; refine (typed_any _ _).mono ?_; rintro e w5 ⟨rfl, rfl⟩))
        go_ret2
        exact ⟨rfl, hV1, hE'.trans hE1⟩

set_option maxRecDepth 100000 in
set_option maxHeartbeats 400000 in
theorem plain_num4 (hV : VAt w bv V) (ok : V.Ok) (g0 : 69 ≤ x.op) (g1 : x.op ≤ 255) : PlainSaid bv L M V params x w := by
  unfold PlainSaid
  have hF : plainF M V params x = if (numSigF x.op).1 = 0 then (64, 10, V)
  else
    if (carryF V (numSigF x.op).2.1).1 = true ∧ (numSigF x.op).1 = 2 then
      ((numSigF x.op).2.2, typedF (carryF (carryF V (numSigF x.op).2.1).2 (numSigF x.op).2.1).1, (carryF (carryF V (numSigF x.op).2.1).2 (numSigF x.op).2.1).2)
    else ((numSigF x.op).2.2, typedF (carryF V (numSigF x.op).2.1).1, (carryF V (numSigF x.op).2.1).2) := by
    unfold plainF
    rw [if_neg (by omega), if_neg (by omega), if_neg (by omega), if_neg (by omega), if_neg (by omega), if_neg (by omega), if_neg (by omega)]
  rw [hF]
  have hV' := hV.alloc (.cells #[.int .u8 x.op, .int .u32 x.x, .int .u64 x.y] 42)
  have hE' := (Ex.refl bv w).alloc (.cells #[.int .u8 x.op, .int .u32 x.x, .int .u64 x.y] 42)
  have HC := fun wx => numSig_any x.op wx (by omega) (by omega)
  generalize numSigF x.op = q at *
  generalize x.op = op at *
  clear hF
  have b1 : (op == 16) = false := by rw [beq_eq_false_iff_ne]; omega
  have b2 : (op == 17) = false := by rw [beq_eq_false_iff_ne]; omega
  have b3 : (op == 26) = false := by rw [beq_eq_false_iff_ne]; omega
  have b4 : (op == 27) = false := by rw [beq_eq_false_iff_ne]; omega
  have b5 : (op == 35) = false := by rw [beq_eq_false_iff_ne]; omega
  have b6 : (op == 36) = false := by rw [beq_eq_false_iff_ne]; omega
  have ok1 := carryF_ok ok q.2.1
  generalize hr : carryF V q.2.1 = r at *
  have HR : Hid (carryF V q.2.1 = r) := hr
  clear hr
  by_cases hq0 : q.1 = 0
  · rw [if_pos hq0]
    have bq : (q.1 == 0) = true := by simp [hq0]
    clear hq0
    go_enter Try.func57, Try.ntmps57
    go_wp2_with (go_at_call 42; refine (HC _).mono ?_; rintro e w1 ⟨rfl, rfl⟩)
    go_ret2
    exact ⟨rfl, hV', hE'⟩
  · rw [if_neg hq0]
    have bq : (q.1 == 0) = false := by simp [hq0]
    clear hq0
    cases hr1 : r.1
    · simp only [Bool.false_eq_true, false_and, if_false]
      go_enter Try.func57, Try.ntmps57
      go_wp2_with (first | (go_at_call 42; refine (HC _).mono ?_; rintro e w1 ⟨rfl, rfl⟩) | (go_at_call 53; refine (carry_any bv V q.2.1 _ hV' ok).mono ?_; rw [HR.out, hr1]; rintro e w1 ⟨rfl, hV1, hE1⟩) | (go_at_call 64; refine (typed_any _ _).mono ?_; rintro e w5 ⟨rfl, rfl⟩))
      go_ret2
      exact ⟨rfl, hV1, hE'.trans hE1⟩
    · by_cases h2 : q.1 = 2
      · rw [if_pos ⟨rfl, h2⟩]
        have b2 : (q.1 == 2) = true := by simp [h2]
        clear h2
        go_enter Try.func57, Try.ntmps57
        go_wp2_with (go_at_call 42; refine (HC _).mono ?_; rintro e w1 ⟨rfl, rfl⟩)
        refine (carry_any bv V q.2.1 _ hV' ok).mono ?_
        rw [HR.out, hr1]
        rintro e w1 ⟨rfl, hV1, hE1⟩
        go_wp2_with fail
        refine (carry_any bv r.2 q.2.1 _ hV1 ok1).mono ?_
        rintro e w2 ⟨rfl, hV2, hE2⟩
        go_wp2_with (go_at_call 64; refine (typed_any _ _).mono ?_; rintro e w5 ⟨rfl, rfl⟩)
        go_ret2
        exact ⟨rfl, hV2, (hE'.trans hE1).trans hE2⟩
      · rw [if_neg (fun h => h2 h.2)]
        have b2 : (q.1 == 2) = false := by simp [h2]
        clear h2
        go_enter Try.func57, Try.ntmps57
        go_wp2_with (first | (go_at_call 42; refine (HC _).mono ?_; rintro e w1 ⟨rfl, rfl⟩) | (go_at_call 53; refine (carry_any bv V q.2.1 _ hV' ok).mono ?_; rw [HR.out, hr1]; rintro e w1 ⟨rfl, hV1, hE1⟩) | (go_at_call 64; refine (typed_any _ _).mono ?_; rintro e w5 ⟨rfl, rfl⟩))
        go_ret2
        exact ⟨rfl, hV1, hE'.trans hE1⟩

theorem plain_any (hM : ModAt w bv L M) (hV : VAt w bv V) (ok : V.Ok) (ht : M.t1.length ≤ 1000) (hp : params.length ≤ 1000) (o0 : 0 ≤ x.op) (o1 : x.op ≤ 255) (h0 : 0 ≤ x.x) (h1 : x.x ≤ 4294967295) : PlainSaid bv L M V params x w := by
  by_cases n1 : x.op = 16 ∨ x.op = 17
  · exact plain_call bv L M V params x w hM hV ok ht n1 h0 h1
  by_cases n2 : x.op = 26
  · exact plain_drop bv L M V params x w hV ok n2
  by_cases n3 : x.op = 27
  · exact plain_sel bv L M V params x w hV ok n3
  by_cases n4 : 32 ≤ x.op ∧ x.op ≤ 34
  · exact plain_local bv L M V params x w hV ok n4.1 n4.2 h0 h1 hp
  by_cases n5 : x.op = 35 ∨ x.op = 36
  · exact plain_glob bv L M V params x w hM hV ok n5 h0 h1
  by_cases n6 : 40 ≤ x.op ∧ x.op ≤ 64
  · exact plain_mem bv L M V params x w hM hV ok n6.1 n6.2 h0 h1
  by_cases n7 : 65 ≤ x.op ∧ x.op ≤ 68
  · exact plain_const bv L M V params x w hV n7.1 n7.2
  by_cases r0 : x.op ≤ 15
  · exact plain_num0 bv L M V params x w hV ok o0 r0
  by_cases r1 : x.op ≤ 25
  · exact plain_num1 bv L M V params x w hV ok (by omega) r1
  by_cases r2 : x.op ≤ 31
  · exact plain_num2 bv L M V params x w hV ok (by omega) r2
  by_cases r3 : x.op ≤ 39
  · exact plain_num3 bv L M V params x w hV ok (by omega) r3
  exact plain_num4 bv L M V params x w hV ok (by omega) o1

end
end Go.Proofs.Qxb6500273a
