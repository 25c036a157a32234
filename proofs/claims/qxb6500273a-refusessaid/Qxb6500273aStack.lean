/-
  WALKS: the validator's two stacks.
-/
import Derived.Test.Qxb6500273aBase
namespace Go.Proofs.Qxb6500273a
open Go.RowKit

set_option maxHeartbeats 400000 in
theorem pop_any (b : Nat) (V : VS) (want : Int) (w : World) (hV : VAt w b V) (ok : V.Ok) :
    Calls Try.prog 62 #[.pointer (some ⟨b, 0, none⟩), .int .u8 want] w fun e w' => e = .returned (.tuple #[.int .u8 (popF V want).1, .bool (popF V want).2.1]) ∧ VAt w' b (popF V want).2.2 ∧ Ex b w w' := by
  obtain ⟨k, hk⟩ : ∃ k, V.depth = k + 1 := ⟨V.depth - 1, by have := ok.d1; omega⟩
  have hk7 : k < 7 := by have := ok.d7; omega
  have hd := hV.depth
  have hh := hV.height
  have hf := hV.flr k hk7
  have hdd := hV.dead k hk7
  have hz := hV.frz 11
  have hh10 := ok.h10
  have hfl := ok.fl
  rw [hk] at hd hfl
  have e1 : k + 1 - 1 = k := by omega
  rw [e1] at hfl
  have hd' : w.cell? ⟨b, 40, none⟩ = some (.int .i64 ((k : Int) + 1)) := by rw [hd]; simp
  clear hd
  by_cases hc : V.height = V.flr k
  · have hp : popF V want = (want, V.dead k, V) := by simp [popF, hk, hc]
    rw [hp]
    have hb : ((V.height : Int) == (V.flr k : Int)) = true := by simp [hc]
    have HC : Hid (V.height = V.flr k) := hc
    have HK : Hid (V.depth = k + 1) := hk
    clear hc hk hp
    go_enter Try.func62, Try.ntmps62
    go_wp2
    go_quiet (fail)
    go_wp2
    go_quiet (fail)
    go_wp2
    go_quiet (fail)
    go_wp2
    go_ret2
    exact ⟨rfl, ((hV.drewN _).drewN _).drewN _, (((Ex.refl b w).drewN _).drewN _).drewN _⟩
  · obtain ⟨h, hh1⟩ : ∃ h, V.height = h + 1 := ⟨V.height - 1, by omega⟩
    have hg := hV.ops h (by omega)
    have hh' : w.cell? ⟨b, 11, none⟩ = some (.int .i64 ((h : Int) + 1)) := by rw [hh, hh1]; simp
    have hb : (((h : Int) + 1) == (V.flr k : Int)) = false := by simp; omega
    have hset := (hV.drewN 0).setHeight h (h : Int) rfl
    have hlt : (h : Int) < 11 := by omega
    have hlt7 : (k : Int) < 7 := by omega
    have hne : ¬ (h + 1 = V.flr k) := by omega
    have hp0 : V.ops h = 0 → popF V want = (want, true, { V with height := h }) := by
      intro h0
      simp [popF, hk, hh1, h0, hne]
    have hp1 : ¬ V.ops h = 0 → want = 0 → popF V want = (V.ops h, true, { V with height := h }) := by
      intro h0 hw
      simp [popF, hk, hh1, h0, hw, hne]
    have hp2 : ¬ V.ops h = 0 → ¬ want = 0 → popF V want = (V.ops h, V.ops h == want, { V with height := h }) := by
      intro h0 hw
      simp [popF, hk, hh1, h0, hw, hne, Bool.beq_eq_decide_eq]
    generalize V.ops h = g at *
    have HK : Hid (V.depth = k + 1) := hk
    have HH : Hid (V.height = h + 1) := hh1
    clear hc hk hh hh1 e1 hne hf hdd hh10 hfl
    have hf := hV.flr k hk7
    have hend : ∀ n m, VAt (((w.drewN n).setCell ⟨b, 11, none⟩ (.int .i64 (h : Int))).drewN m) b { V with height := h } ∧ Ex b w (((w.drewN n).setCell ⟨b, 11, none⟩ (.int .i64 (h : Int))).drewN m) :=
      fun n m => ⟨((hV.drewN n).setHeight h (h : Int) rfl).drewN m, ((((Ex.refl b w).drewN n).setCell 11 _).drewN m)⟩
    by_cases hg0 : g = 0
    · rw [hp0 hg0]
      subst hg0
      clear hp0 hp1 hp2
      go_enter Try.func62, Try.ntmps62
      go_wp2
      go_quiet (fail)
      go_wp2
      go_quiet (fail)
      go_wp2
      go_quiet (fail)
      go_wp2
      go_ret2
      exact ⟨rfl, hend _ _⟩
    · have hgb : (g == 0) = false := by simp [hg0]
      by_cases hw0 : want = 0
      · rw [hp1 hg0 hw0]
        subst hw0
        clear hp0 hp1 hp2 hg0
        go_enter Try.func62, Try.ntmps62
        go_wp2
        go_quiet (fail)
        go_wp2
        go_quiet (fail)
        go_wp2
        go_quiet (fail)
        go_wp2
        go_ret2
        exact ⟨rfl, hend _ _⟩
      · rw [hp2 hg0 hw0]
        have hwb : (want == 0) = false := by simp [hw0]
        clear hp0 hp1 hp2 hg0 hw0
        go_enter Try.func62, Try.ntmps62
        go_wp2
        go_quiet (fail)
        go_wp2
        go_quiet (fail)
        go_wp2
        go_quiet (fail)
        go_wp2
        go_ret2
        exact ⟨rfl, hend _ _⟩

set_option maxHeartbeats 400000 in
theorem carry_any (b : Nat) (V : VS) (t : Int) (w : World) (hV : VAt w b V) (ok : V.Ok) :
    Calls Try.prog 53 #[.pointer (some ⟨b, 0, none⟩), .int .u8 t] w fun e w' => e = .returned (.bool (carryF V t).1) ∧ VAt w' b (carryF V t).2 ∧ Ex b w w' := by
  by_cases h : t = 64
  · have hp : carryF V t = (true, V) := by simp [carryF, h]
    rw [hp]
    subst h
    clear hp
    go_enter Try.func53, Try.ntmps53
    go_wp2
    go_ret
    exact ⟨rfl, hV, Ex.refl _ _⟩
  · have hp : carryF V t = ((popF V t).2.1, (popF V t).2.2) := by simp [carryF, h]
    have hb : (t == 64) = false := by simp [h]
    rw [hp]
    clear h hp
    go_enter Try.func53, Try.ntmps53
    go_wp2_with (go_at_call 62; refine (pop_any b V t _ hV ok).mono ?_; rintro e w' ⟨rfl, hV', hE'⟩)
    go_ret
    exact ⟨rfl, hV', hE'⟩

set_option maxHeartbeats 400000 in
theorem cut_any (b : Nat) (V : VS) (w : World) (hV : VAt w b V) (ok : V.Ok) :
    Calls Try.prog 52 #[.pointer (some ⟨b, 0, none⟩)] w fun e w' => e = .returned (.tuple #[]) ∧ VAt w' b (cutF V) ∧ Ex b w w' := by
  obtain ⟨k, hk⟩ : ∃ k, V.depth = k + 1 := ⟨V.depth - 1, by have := ok.d1; omega⟩
  have hk7 : (k : Int) < 7 := by have := ok.d7; omega
  have hd := hV.depth
  have hf := hV.flr k (by omega)
  have hdd := hV.dead k (by omega)
  have hh := hV.height
  have hz := hV.frz 11
  have hz2 := hV.frz (12 + k * 4 + 3)
  have hd' : w.cell? ⟨b, 40, none⟩ = some (.int .i64 ((k : Int) + 1)) := by rw [hd, hk]; simp
  have hc : cutF V = { V with height := V.flr k, dead := upd V.dead k true } := by simp [cutF, hk]
  rw [hc]
  have hend : ∀ n, VAt (((w.drewN n).setCell ⟨b, 11, none⟩ (.int .i64 (V.flr k : Int))).setCell ⟨b, 12 + k * 4 + 3, none⟩ (.bool true)) b { V with height := V.flr k, dead := upd V.dead k true } ∧ Ex b w (((w.drewN n).setCell ⟨b, 11, none⟩ (.int .i64 (V.flr k : Int))).setCell ⟨b, 12 + k * 4 + 3, none⟩ (.bool true)) :=
    fun n => ⟨((hV.drewN n).setHeight (V.flr k) _ rfl).setDead k (by omega) true, (((Ex.refl b w).drewN n).setCell 11 _).setCell _ _⟩
  clear hd hk hc
  go_enter Try.func52, Try.ntmps52
  go_wp2
  go_quiet (fail)
  go_wp2
  go_end0
  exact ⟨rfl, hend _⟩

set_option maxHeartbeats 400000 in
theorem push_any (b : Nat) (V : VS) (t : Int) (w : World) (hV : VAt w b V) :
    Calls Try.prog 58 #[.pointer (some ⟨b, 0, none⟩), .int .u8 t] w fun e w' => e = .returned (.bool (pushF V t).1) ∧ VAt w' b (pushF V t).2 ∧ Ex b w w' := by
  have hh := hV.height
  by_cases h : 10 ≤ V.height
  · have hp : pushF V t = (false, V) := by simp [pushF, h]
    rw [hp]
    clear hp
    go_enter Try.func58, Try.ntmps58
    go_wp2
    go_ret
    exact ⟨rfl, hV, Ex.refl _ _⟩
  · have hp : pushF V t = (true, { V with ops := upd V.ops V.height t, height := V.height + 1, high := max V.high ((V.height + 1 : Nat) : Int) }) := by simp [pushF, h]
    rw [hp]
    clear hp
    have h10 : (V.height : Int) < 11 := by omega
    have ho := hV.ops V.height (by omega)
    have hg := hV.high
    have z1 := hV.frz V.height
    have z2 := hV.frz 11
    have z3 := hV.frz 41
    have hend : ∀ m : Int, m = max V.high ((V.height + 1 : Nat) : Int) → VAt (((w.setCell ⟨b, V.height, none⟩ (.int .u8 t)).setCell ⟨b, 11, none⟩ (.int .i64 ((V.height : Int) + 1))).setCell ⟨b, 41, none⟩ (.int .i64 m)).drew.drew b { V with ops := upd V.ops V.height t, height := V.height + 1, high := max V.high ((V.height + 1 : Nat) : Int) }
        ∧ Ex b w (((w.setCell ⟨b, V.height, none⟩ (.int .u8 t)).setCell ⟨b, 11, none⟩ (.int .i64 ((V.height : Int) + 1))).setCell ⟨b, 41, none⟩ (.int .i64 m)).drew.drew := by
      intro m hm
      rw [← hm]
      exact ⟨(((hV.setOps V.height (by omega) t).setHeight (V.height + 1) _ (by simp)).setHigh m).drew.drew, ((((Ex.refl b w).setCell _ _).setCell _ _).setCell _ _).drew.drew⟩
    have HE := hend
    clear hend
    go_enter Try.func58, Try.ntmps58
    go_wp2
    go_region
    go_wp2
    go_region
    go_wp2
    all_goals go_ret
    all_goals exact ⟨rfl, HE _ (by omega)⟩

set_option maxHeartbeats 400000 in
theorem label_any (b : Nat) (V : VS) (l : Int) (w : World) (hV : VAt w b V) (ok : V.Ok) (h0 : 0 ≤ l) (h1 : l < V.depth) :
    Calls Try.prog 55 #[.pointer (some ⟨b, 0, none⟩), .int .i64 l] w fun e w' => e = .returned (.int .u8 (labelF V l.toNat)) ∧ ∃ n, w' = w.drewN n := by
  obtain ⟨m, rfl⟩ := Int.eq_ofNat_of_zero_le h0
  obtain ⟨k, hk⟩ : ∃ k, V.depth = k + m + 1 := ⟨V.depth - m - 1, by omega⟩
  have hk7 : (k : Int) + m < 7 := by have := ok.d7; omega
  have hd := hV.depth
  have hf := hV.cop k (by omega)
  have hr := hV.res k (by omega)
  have hd' : w.cell? ⟨b, 40, none⟩ = some (.int .i64 ((k : Int) + m + 1)) := by rw [hd, hk]; simp
  have hi1 : (k : Int) + m + 1 - 1 - m = k := by omega
  have hl : labelF V ((m : Int)).toNat = if V.cop k = 3 then 64 else V.res k := by simp [labelF, hk]
  rw [hl]
  by_cases hc : V.cop k = 3
  · rw [if_pos hc]
    rw [hc] at hf
    clear hd hk hc hl hr h1
    go_enter Try.func55, Try.ntmps55
    go_wp2
    go_quiet (fail)
    go_wp2
    go_ret
    exact ⟨rfl, _, rfl⟩
  · rw [if_neg hc]
    have hb : (V.cop k == 3) = false := by simp [hc]
    clear hd hk hc hl h1
    go_enter Try.func55, Try.ntmps55
    go_wp2
    go_quiet (fail)
    go_wp2
    go_ret
    exact ⟨rfl, _, rfl⟩

set_option maxHeartbeats 400000 in
theorem settled_any (b : Nat) (V : VS) (w : World) (hV : VAt w b V) (ok : V.Ok) :
    Calls Try.prog 54 #[.pointer (some ⟨b, 0, none⟩)] w fun e w' => e = .returned (.bool (settledF V).1) ∧ VAt w' b (settledF V).2 ∧ Ex b w w' := by
  obtain ⟨k, hk⟩ : ∃ k, V.depth = k + 1 := ⟨V.depth - 1, by have := ok.d1; omega⟩
  have hk7 : (k : Int) < 7 := by have := ok.d7; omega
  have hd := hV.depth
  have hr := hV.res k (by omega)
  have hd' : w.cell? ⟨b, 40, none⟩ = some (.int .i64 ((k : Int) + 1)) := by rw [hd, hk]; simp
  rw [settledF_snd]
  have e1 : k + 1 - 1 = k := by omega
  have hs : (settledF V).1 = ((carryF V (V.res k)).1 && decide ((carryF V (V.res k)).2.height = (carryF V (V.res k)).2.flr k)) := by
    unfold settledF
    rw [hk, e1]
    cases (carryF V (V.res k)).1 <;> simp
  have hs2 : (carryF V (V.res (V.depth - 1))).2 = (carryF V (V.res k)).2 := by rw [hk, e1]
  rw [hs, hs2]
  have ok2 := carryF_ok ok (V.res k)
  generalize hq : carryF V (V.res k) = q at *
  have HQ : Hid (carryF V (V.res k) = q) := hq
  clear hq hs hs2 hd hk e1
  cases hq1 : q.1
  · simp only [Bool.false_and]
    go_enter Try.func54, Try.ntmps54
    go_wp2
    go_quiet (fail)
    go_wp2_with (go_at_call 53; refine (carry_any b V (V.res k) _ (hV.drewN _) ok).mono ?_; rw [HQ.out, hq1]; rintro e w' ⟨rfl, hV', hE'⟩)
    go_ret
    exact ⟨rfl, hV', ((Ex.refl b w).drewN _).trans hE'⟩
  · simp only [Bool.true_and]
    go_enter Try.func54, Try.ntmps54
    go_wp2
    go_quiet (fail)
    go_wp2_with (go_at_call 53; refine (carry_any b V (V.res k) _ (hV.drewN _) ok).mono ?_; rw [HQ.out, hq1]; rintro e w' ⟨rfl, hV', hE'⟩; have c1 := hV'.height; have c2 := hV'.flr k (by omega))
    go_quiet (fail)
    go_wp2
    go_ret
    refine ⟨?_, hV'.drewN _, (((Ex.refl b w).drewN _).trans hE').drewN _⟩
    exact ret_bool (beq_cast _ _)

set_option maxHeartbeats 400000 in
theorem fits_any (b : Nat) (V : VS) (t : Int) (w : World) (hV : VAt w b V) (ok : V.Ok) :
    Calls Try.prog 56 #[.pointer (some ⟨b, 0, none⟩), .int .u8 t] w fun e w' => e = .returned (.bool (fitsF V t)) ∧ ∃ n, w' = w.drewN n := by
  by_cases ht : t = 64
  · have hp : fitsF V t = true := by simp [fitsF, ht]
    rw [hp]
    subst ht
    clear hp
    go_enter Try.func56, Try.ntmps56
    go_wp2
    go_ret
    exact ⟨rfl, 0, rfl⟩
  · obtain ⟨k, hk⟩ : ∃ k, V.depth = k + 1 := ⟨V.depth - 1, by have := ok.d1; omega⟩
    have hk7 : (k : Int) < 7 := by have := ok.d7; omega
    have hd := hV.depth
    have hh := hV.height
    have hf := hV.flr k (by omega)
    have hdd := hV.dead k (by omega)
    have hh10 := ok.h10
    have hfl := ok.fl
    have htb : (t == 64) = false := by simp [ht]
    rw [hk] at hd hfl
    have e1 : k + 1 - 1 = k := by omega
    rw [e1] at hfl
    have hd' : w.cell? ⟨b, 40, none⟩ = some (.int .i64 ((k : Int) + 1)) := by rw [hd]; simp
    by_cases hc : V.height = V.flr k
    · have hp : fitsF V t = V.dead k := by simp [fitsF, hk, hc, ht]
      rw [hp]
      have hb : ((V.height : Int) == (V.flr k : Int)) = true := by simp [hc]
      clear hc hk hp ht hd e1
      go_enter Try.func56, Try.ntmps56
      go_wp2
      go_quiet (fail)
      go_wp2
      go_quiet (fail)
      go_wp2
      go_ret
      exact ⟨rfl, _, rfl⟩
    · obtain ⟨h, hh1⟩ : ∃ h, V.height = h + 1 := ⟨V.height - 1, by omega⟩
      have hg := hV.ops h (by omega)
      have hh' : w.cell? ⟨b, 11, none⟩ = some (.int .i64 ((h : Int) + 1)) := by rw [hh, hh1]; simp
      have hb : (((h : Int) + 1) == (V.flr k : Int)) = false := by simp; omega
      have hlt : (h : Int) < 11 := by omega
      have hp0 : V.ops h = 0 → fitsF V t = true := by
        intro h0
        have : ¬ (h + 1 = V.flr k) := by omega
        simp [fitsF, hk, hh1, h0, this]
      have hp1 : ¬ V.ops h = 0 → fitsF V t = (V.ops h == t) := by
        intro h0
        have : ¬ (h + 1 = V.flr k) := by omega
        simp [fitsF, hk, hh1, h0, this, ht, Bool.beq_eq_decide_eq]
      by_cases h0 : V.ops h = 0
      · rw [hp0 h0]
        rw [h0] at hg
        clear hp0 hp1 h0 hh hh1 hc hk hd hdd hh10 hfl ht e1
        go_enter Try.func56, Try.ntmps56
        go_wp2
        go_quiet (fail)
        go_wp2
        go_quiet (fail)
        go_wp2
        go_quiet (fail)
        go_wp2
        go_ret
        exact ⟨rfl, _, rfl⟩
      · rw [hp1 h0]
        have hgb : (V.ops h == 0) = false := by simp [h0]
        clear hp0 hp1 h0 hh hh1 hc hk hd hdd hh10 hfl ht e1
        go_enter Try.func56, Try.ntmps56
        go_wp2
        go_quiet (fail)
        go_wp2
        go_quiet (fail)
        go_wp2
        go_quiet (fail)
        go_wp2
        go_ret
        exact ⟨rfl, _, rfl⟩

set_option maxHeartbeats 400000 in
theorem typed_any (ok : Bool) (w : World) : Calls Try.prog 64 #[.bool ok] w fun e w' => e = .returned (.int .i64 (typedF ok)) ∧ w' = w := by
  cases ok
  · simp only [typedF]
    go_enter Try.func64, Try.ntmps64
    go_wp2
    go_ret
    exact ⟨rfl, rfl⟩
  · simp only [typedF]
    go_enter Try.func64, Try.ntmps64
    go_wp2
    go_ret
    exact ⟨rfl, rfl⟩

set_option maxHeartbeats 400000 in
theorem sel_any (b : Nat) (V : VS) (w : World) (hV : VAt w b V) (ok : V.Ok) :
    Calls Try.prog 65 #[.pointer (some ⟨b, 0, none⟩)] w fun e w' => e = .returned (.tuple #[.int .u8 (selF V).1, .int .i64 (selF V).2.1]) ∧ VAt w' b (selF V).2.2 ∧ Ex b w w' := by
  have ok1 := carryF_ok ok 127
  have ok2 := popF_ok ok1 0
  unfold selF
  simp only []
  generalize hq : carryF V 127 = q at *
  generalize ha : popF q.2 0 = a at *
  generalize hc : popF a.2.2 a.1 = c at *
  have HQ : Hid (carryF V 127 = q) := hq
  have HA : Hid (popF q.2 0 = a) := ha
  have HC : Hid (popF a.2.2 a.1 = c) := hc
  clear hq ha hc
  cases h1 : q.1
  · simp only [Bool.false_eq_true, if_false]
    go_enter Try.func65, Try.ntmps65
    go_wp2_with (go_at_call 53; refine (carry_any b V 127 _ hV ok).mono ?_; rw [HQ.out, h1]; rintro e w1 ⟨rfl, hV1, hE1⟩)
    go_ret2
    exact ⟨rfl, hV1, hE1⟩
  · simp only [if_true]
    cases h2 : a.2.1
    · simp only [Bool.false_eq_true, if_false]
      go_enter Try.func65, Try.ntmps65
      go_wp2_with (first | (go_at_call 53; refine (carry_any b V 127 _ hV ok).mono ?_; rw [HQ.out, h1]; rintro e w1 ⟨rfl, hV1, hE1⟩) | (go_at_call 62; refine (pop_any b q.2 0 _ hV1 ok1).mono ?_; rw [HA.out, h2]; rintro e w2 ⟨rfl, hV2, hE2⟩))
      go_ret2
      exact ⟨rfl, hV2, hE1.trans hE2⟩
    · simp only [if_true]
      go_enter Try.func65, Try.ntmps65
      go_wp2_with fail
      refine (carry_any b V 127 _ hV ok).mono ?_
      rw [HQ.out, h1]
      rintro e w1 ⟨rfl, hV1, hE1⟩
      go_wp2_with fail
      refine (pop_any b q.2 0 _ hV1 ok1).mono ?_
      rw [HA.out, h2]
      rintro e w2 ⟨rfl, hV2, hE2⟩
      go_wp2_with fail
      refine (pop_any b a.2.2 a.1 _ hV2 ok2).mono ?_
      rw [HC.out]
      rintro e w3 ⟨rfl, hV3, hE3⟩
      go_wp2_with fail
      refine (typed_any _ _).mono ?_
      rintro e w4 ⟨rfl, rfl⟩
      go_wp2
      go_ret2
      exact ⟨rfl, hV3, (hE1.trans hE2).trans hE3⟩

end Go.Proofs.Qxb6500273a
