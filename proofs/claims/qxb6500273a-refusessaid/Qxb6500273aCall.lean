/-
  WALKS: pops, call, memory.
-/
import Derived.Test.Qxb6500273aTypeOf
import Derived.Test.Qxb6500273aStack
import Derived.Test.Qxb6500273aLeaf
namespace Go.Proofs.Qxb6500273a
open Go.RowKit

/-- what is still to be taken when the operands behind place k are gone -/
theorem popsL_step (V : VS) (l : List UInt8) (k : Nat) (hk : k < l.length) :
    popsL V (l.take (k + 1)).reverse = if (popF V ((l[k]).toNat : Int)).2.1 = true then popsL (popF V ((l[k]).toNat : Int)).2.2 (l.take k).reverse else (false, (popF V ((l[k]).toNat : Int)).2.2) := by
  rw [List.take_succ_eq_append_getElem hk, List.reverse_append]
  simp only [List.reverse_cons, List.reverse_nil, List.nil_append, List.singleton_append, popsL]

set_option maxHeartbeats 400000 in
theorem pops_any (b : Nat) (V : VS) (ts : List UInt8) (w : World) (hV : VAt w b V) (ok : V.Ok) (hl : ts.length ≤ 1000000) :
    Calls Try.prog 68 #[.pointer (some ⟨b, 0, none⟩), .string ⟨ts.toArray⟩] w fun e w' => e = .returned (.bool (popsF V ts).1) ∧ VAt w' b (popsF V ts).2 ∧ Ex b w w' := by
  have hF : popsF V ts = popsL V (ts.take ts.length).reverse := by simp [popsF]
  rw [hF]
  generalize hR : popsL V (ts.take ts.length).reverse = R
  have HR : Hid (popsL V (ts.take ts.length).reverse = R) := hR
  clear hR hF
  go_enter Try.func68, Try.ntmps68
  go_wp2
  go_loopw [5] (fun i w' => ∃ k : Nat, ∃ U : VS, k ≤ ts.length ∧ i = .int .i64 ((k : Int) - 1) ∧ VAt w' b U ∧ U.Ok ∧ Hid (popsL U (ts.take k).reverse = R) ∧ Ex b w w') (fun i _ => (intOf i + 1).toNat)
  case atStart => exact ⟨ts.length, V, Nat.le_refl _, rfl, hV, ok, HR, Ex.refl _ _⟩
  case round =>
    obtain ⟨k, U, hk, rfl, hU, okU, hs, hE⟩ := hrel
    clear HR
    match k, hk, hs with
    | 0, hk, hs =>
      have HS : Hid ((true, U) = R) := hs
      clear hs
      go_wp2
      go_ret
      rw [← HS.out]
      exact ⟨rfl, hU, hE⟩
    | k + 1, hk, hs =>
      have hlt : k < ts.length := by omega
      have hidx : (ByteArray.mk ts.toArray)[k] = ts[k] := rfl
      have hs' := hs.out
      rw [popsL_step U ts k hlt] at hs'
      have e1 : ((k + 1 : Nat) : Int) - 1 = k := by omega
      rw [e1]
      have okP := popF_ok okU ((ts[k]).toNat : Int)
      rw [← hidx] at hs' okP
      generalize hp : popF U ((((ByteArray.mk ts.toArray)[k]).toNat : Int)) = q at *
      have HP : Hid (popF U ((((ByteArray.mk ts.toArray)[k]).toNat : Int)) = q) := hp
      clear hp hs hidx e1
      cases hq : q.2.1
      · rw [hq] at hs'
        have HS : Hid ((false, q.2.2) = R) := by show _ = _; simpa using hs'
        clear hs'
        go_wp2_with (go_at_call 62; refine (pop_any b U _ _ hU okU).mono ?_; rw [HP.out, hq]; rintro e w1 ⟨rfl, hV1, hE1⟩)
        go_ret
        rw [← HS.out]
        exact ⟨rfl, hV1, hE.trans hE1⟩
      · rw [hq] at hs'
        have HS : Hid (popsL q.2.2 (ts.take k).reverse = R) := by show _ = _; simpa using hs'
        clear hs'
        go_wp2_with (go_at_call 62; refine (pop_any b U _ _ hU okU).mono ?_; rw [HP.out, hq]; rintro e w1 ⟨rfl, hV1, hE1⟩)
        go_roundw
        case rel => exact ⟨k, q.2.2, by omega, rfl, hV1, okP, HS, hE.trans hE1⟩
        case measure => simp [intOf]

theorem ret2_ii {j k : IntKind} {a b c d : Int} (h : a = c) (h2 : b = d) : Ending.returned (.tuple #[.int j a, .int k b]) = .returned (.tuple #[.int j c, .int k d]) := by rw [h, h2]

theorem splitF_len : ∀ (t : List UInt8), (splitF t).1.length ≤ t.length ∧ (splitF t).2.length ≤ t.length
  | [] => by simp [splitF]
  | c :: r => by
    have := splitF_len r
    unfold splitF
    split
    · simp
    · simp; omega

theorem typeText_len (M : Md) (h : M.t1.length ≤ 1000) (i : Nat) : (typeText M i).length ≤ 1000 := by
  unfold typeText
  split
  · simp
  · split
    · exact h
    · simp

theorem typeOfF_len (M : Md) (h : M.t1.length ≤ 1000) (f : Int) : (typeOfF M f).1.length ≤ 1000 := by
  unfold typeOfF
  simp only []
  generalize (if f = 0 then M.it else if f = 1 then M.ft else -1) = t
  split
  · exact typeText_len M h _
  · simp

set_option maxHeartbeats 400000 in
theorem call_op (bv : Nat) (L : Lay) (M : Md) (V : VS) (x : Insn) (w : World) (hM : ModAt w bv L M) (hV : VAt w bv V) (ok : V.Ok) (ht : M.t1.length ≤ 1000) (hop : x.op = 16) (h0 : 0 ≤ x.x) (h1 : x.x ≤ 4294967295) :
    Calls Try.prog 63 #[.pointer (some ⟨bv, 0, none⟩), .pointer (some ⟨L.p, 0, none⟩), .agg #[.int .u8 x.op, .int .u32 x.x, .int .u64 x.y]] w fun e w' => e = .returned (.tuple #[.int .u8 (callF M V x).1, .int .i64 (callF M V x).2.1]) ∧ VAt w' bv (callF M V x).2.2 ∧ Ex bv w w' := by
  have hF : callF M V x = if (typeOfF M x.x).2 = true then callEnd V (typeOfF M x.x).1 else (64, 15, V) := by simp [callF, hop]
  rw [hF]
  have hM' := hM.alloc (.cells #[.int .u8 16, .int .u32 x.x, .int .u64 x.y] 42)
  have hV' := hV.alloc (.cells #[.int .u8 16, .int .u32 x.x, .int .u64 x.y] 42)
  have htl : (typeOfF M x.x).1.length ≤ 1000 := typeOfF_len M ht _
  have hTO : ∀ wx, ModAt wx bv L M → _ := fun wx h => typeOf_any bv L M x.x wx h (by omega)
  rw [hop]
  generalize typeOfF M x.x = T at *
  clear hF hop
  cases hT : T.2
  · simp only [Bool.false_eq_true, if_false]
    go_enter Try.func63, Try.ntmps63
    go_wp2_with (go_at_call 46; refine (hTO _ hM').mono ?_; rw [hT]; rintro e w1 ⟨rfl, n, rfl⟩)
    go_ret2
    exact ⟨rfl, hV'.drewN _, ((Ex.refl bv w).alloc _).drewN _⟩
  · simp only [if_true, callEnd]
    have hsl := splitF_len T.1
    go_enter Try.func63, Try.ntmps63
    go_wp2_with (first | (go_at_call 46; refine (hTO _ hM').mono ?_; rw [hT]; rintro e w1 ⟨rfl, n, rfl⟩) | (go_at_call 45; refine (split_any T.1 _ (by omega)).mono ?_; rintro e w2 ⟨rfl, m, rfl⟩) | (go_at_call 68; refine (pops_any bv V (splitF T.1).1 _ ?_ ok (by omega)).mono ?_; exact hV'.drewN _; rintro e w3 ⟨rfl, hV3, hE3⟩) | (go_at_call 51; refine (first_any (splitF T.1).2 _ (by omega)).mono ?_; rintro e w4 ⟨rfl, rfl⟩) | (go_at_call 64; refine (typed_any _ _).mono ?_; rintro e w5 ⟨rfl, rfl⟩))
    go_ret2
    exact ⟨rfl, hV3, (((Ex.refl bv w).alloc _).drewN _).trans hE3⟩

set_option maxHeartbeats 400000 in
theorem call_ind (bv : Nat) (L : Lay) (M : Md) (V : VS) (x : Insn) (w : World) (hM : ModAt w bv L M) (hV : VAt w bv V) (ok : V.Ok) (ht : M.t1.length ≤ 1000) (hop : x.op = 17) (h0 : 0 ≤ x.x) (h1 : x.x ≤ 4294967295) :
    Calls Try.prog 63 #[.pointer (some ⟨bv, 0, none⟩), .pointer (some ⟨L.p, 0, none⟩), .agg #[.int .u8 x.op, .int .u32 x.x, .int .u64 x.y]] w fun e w' => e = .returned (.tuple #[.int .u8 (callF M V x).1, .int .i64 (callF M V x).2.1]) ∧ VAt w' bv (callF M V x).2.2 ∧ Ex bv w w' := by
  have hV' := hV.alloc (.cells #[.int .u8 17, .int .u32 x.x, .int .u64 x.y] 42)
  have hM' := hM.alloc (.cells #[.int .u8 17, .int .u32 x.x, .int .u64 x.y] 42)
  have c3 := hM'.m3
  have c0 := hM'.m0
  by_cases htab : M.tabMin < 0
  · have hF : callF M V x = (64, 21, V) := by simp [callF, hop, htab]
    rw [hF, hop]
    clear hF hop
    go_enter Try.func63, Try.ntmps63
    go_wp2
    go_ret2
    exact ⟨rfl, hV', (Ex.refl bv w).alloc _⟩
  · by_cases hx : 3 ≤ x.x
    · have hF : callF M V x = (64, 14, V) := by simp [callF, hop, htab, hx]
      rw [hF, hop]
      clear hF hop
      go_enter Try.func63, Try.ntmps63
      go_wp2
      go_quiet (fail)
      go_wp2
      go_ret2
      exact ⟨rfl, hV'.drewN _, ((Ex.refl bv w).alloc _).drewN _⟩
    · obtain ⟨n, hn⟩ := Int.eq_ofNat_of_zero_le h0
      have hn3 : n < 3 := by omega
      have hF : callF M V x = if (carryF V 127).1 = true then callEnd (carryF V 127).2 (typeText M n) else (64, 27, (carryF V 127).2) := by
        simp [callF, hop, htab, hn]; omega
      have ct := hM'.ty n hn3
      have htl := typeText_len M ht n
      rw [hF, hop]
      rw [hn] at hV' ct c0 c3 hM' ⊢
      have ok1 := carryF_ok ok 127
      generalize typeText M n = T at *
      generalize hq : carryF V 127 = q at *
      have HQ : Hid (carryF V 127 = q) := hq
      have hni : (n : Int) < 3 := by omega
      clear hF hop hq hn h0 h1 hx
      cases hq1 : q.1
      · simp only [Bool.false_eq_true, if_false]
        go_enter Try.func63, Try.ntmps63
        go_wp2
        go_quiet (fail)
        go_wp2
        go_quiet (fail)
        go_wp2_with (go_at_call 53; refine (carry_any bv V 127 _ ?_ ok).mono ?_; exact hV'.drewN _; rw [HQ.out, hq1]; rintro e w1 ⟨rfl, hV1, hE1⟩)
        go_ret2
        exact ⟨rfl, hV1, (((Ex.refl bv w).alloc _).drewN _).trans hE1⟩
      · simp only [if_true, callEnd]
        have hsl := splitF_len T
        go_enter Try.func63, Try.ntmps63
        go_wp2
        go_quiet (fail)
        go_wp2
        go_quiet (fail)
        go_wp2_with (first | (go_at_call 53; refine (carry_any bv V 127 _ ?_ ok).mono ?_; exact hV'.drewN _; rw [HQ.out, hq1]; rintro e w1 ⟨rfl, hV1, hE1⟩) | (go_at_call 45; refine (split_any T _ (by omega)).mono ?_; rintro e w2 ⟨rfl, m, rfl⟩) | (go_at_call 68; refine (pops_any bv q.2 (splitF T).1 _ ?_ ok1 (by omega)).mono ?_; exact hV1.drewN _; rintro e w3 ⟨rfl, hV3, hE3⟩) | (go_at_call 51; refine (first_any (splitF T).2 _ (by omega)).mono ?_; rintro e w4 ⟨rfl, rfl⟩) | (go_at_call 64; refine (typed_any _ _).mono ?_; rintro e w5 ⟨rfl, rfl⟩))
        go_ret2
        exact ⟨rfl, hV3, (((((Ex.refl bv w).alloc _).drewN _).trans hE1).drewN _).trans hE3⟩

theorem call_any (bv : Nat) (L : Lay) (M : Md) (V : VS) (x : Insn) (w : World) (hM : ModAt w bv L M) (hV : VAt w bv V) (ok : V.Ok) (ht : M.t1.length ≤ 1000) (hop : x.op = 16 ∨ x.op = 17) (h0 : 0 ≤ x.x) (h1 : x.x ≤ 4294967295) :
    Calls Try.prog 63 #[.pointer (some ⟨bv, 0, none⟩), .pointer (some ⟨L.p, 0, none⟩), .agg #[.int .u8 x.op, .int .u32 x.x, .int .u64 x.y]] w fun e w' => e = .returned (.tuple #[.int .u8 (callF M V x).1, .int .i64 (callF M V x).2.1]) ∧ VAt w' bv (callF M V x).2.2 ∧ Ex bv w w' := by
  rcases hop with h | h
  · exact call_op bv L M V x w hM hV ok ht h h0 h1
  · exact call_ind bv L M V x w hM hV ok ht h h0 h1

end Go.Proofs.Qxb6500273a
