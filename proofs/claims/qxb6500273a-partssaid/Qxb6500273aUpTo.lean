/-
  WALKS: PartsUpTo, Parts.
-/
import Derived.Test.Qxb6500273aBared
import Derived.Test.Qxb6500273aOrdered
import Derived.Test.Qxb6500273aOps
import Derived.Deep.Cut
set_option linter.unusedVariables false
namespace Go.Proofs.Qxb6500273a
open Go.RowKit

theorem OpAt.keep {w w' : World} {sb so i : Nat} {K A B C : Int} {S T : List UInt8} (h : OpAt w sb so i K A B C S T) (hc : ∀ o v, w.cell? ⟨sb, o, none⟩ = some v → w'.cell? ⟨sb, o, none⟩ = some v) : OpAt w' sb so i K A B C S T :=
  ⟨hc _ _ h.c0, hc _ _ h.c1, hc _ _ h.c2, hc _ _ h.c3, hc _ _ h.c4, hc _ _ h.c5, h.wk, h.wa, h.wb, h.wc, h.s, h.t⟩

/-- what holds between two steps -/
structure UpI (w : World) (bv : Nat) (wr : World) : Prop where
  be : Below w.heap.size w wr
  v : ∃ V, VAt wr bv V
  bv : w.heap.size ≤ bv

theorem UpI.next {w : World} {bv : Nat} {wr w2 : World} (h : UpI w bv wr) (k : Kept bv wr w2) : UpI w bv w2 := by
  refine ⟨?_, k.v, h.bv⟩
  have hb := h.be
  have hx := k.ex
  have hv := h.bv
  exact ⟨hx.os.trans hb.os, hx.tape.trans hb.tape, hx.output.trans hb.output, Nat.le_trans hb.size hx.size, fun i hi => by
    rw [hx.block i (Nat.lt_of_lt_of_le hi hb.size) (by omega)]; exact hb.block i hi⟩
theorem UpI.op {w : World} {bv : Nat} {wr : World} (h : UpI w bv wr) {sb so i : Nat} {K A B C : Int} {S T : List UInt8} (o : OpAt w sb so i K A B C S T) : OpAt wr sb so i K A B C S T :=
  o.keep fun o v hv => by rw [h.be.cell (World.block_lt_of_cell? _ _ hv)]; exact hv

set_option maxRecDepth 100000 in
set_option maxHeartbeats 2000000 in
theorem upTo_any (a0 : Option Addr) (len cap : Nat) (w : World) (w0 : IsOps w a0 len cap) :
    Calls Try.prog 8 #[.slice a0 len cap] w fun e w' => e = .returned (.int .i64 (-1)) ∧ Below w.heap.size w w' := by
  have HN := new_any w
  rcases w0 with rfl | ⟨sb, so, rfl, hl, hm, hops⟩
  · go_enter Try.func8, Try.ntmps8
    go_wp2_with (go_at_call 9; refine HN.mono ?_; rintro e w1 ⟨rfl, hv1, hb1, hs1⟩)
    go_loopw [4] (fun i wr => i = .int .i64 0 ∧ Below w.heap.size w wr) (fun i _ => 0)
    case atStart => exact ⟨rfl, hb1⟩
    case round =>
      obtain ⟨rfl, hI⟩ := hrel
      go_wp2_with fail
      go_ret
      exact ⟨rfl, hI⟩
  · clear hl hm
    go_enter Try.func8, Try.ntmps8
    go_wp2_with (go_at_call 9; refine HN.mono ?_; rintro e w1 ⟨rfl, hv1, hb1, hs1⟩)
    go_loopw [4] (fun i wr => ∃ k : Nat, k ≤ len ∧ i = .int .i64 k ∧ UpI w w.heap.size wr) (fun i _ => len - (intOf i).toNat)
    case atStart =>
      exact ⟨0, by omega, rfl, hb1, ⟨_, hv1⟩, Nat.le_refl _⟩
    case round =>
      obtain ⟨k, hk, rfl, hI⟩ := hrel
      clear hb1 hv1 hs1 HN
      by_cases hlt : k < len
      · obtain ⟨K, A, B, C, S, T, ho⟩ := hops k hlt
        have ho1 := hI.op ho
        have c0 := ho1.c0
        have c1 := ho1.c1
        have c2 := ho1.c2
        have c3 := ho1.c3
        have c4 := ho1.c4
        have c5 := ho1.c5
        have hki : (k : Int) < len := by omega
        obtain ⟨V, hV⟩ := hI.v
        have HO : Hid (OpAt w sb so k K A B C S T) := ho
        clear hops ho ho1
        by_cases hmx : (k : Int) < 4398046511104
        · by_cases hK12 : K = 12
          · subst hK12
            have HC := parted_any w.heap.size V 12 A B C S T wr hV HO.out.s HO.out.t HO.out.b
            go_wp2_with (go_at_call 19; refine HC.mono ?_; rintro e w2 ⟨rfl, hK2⟩; have hI2 := hI.next hK2; have d0 := (hI2.op HO.out).c0)
            exact ⟨⟨k + 1, by omega, by simp, hI2⟩, by simp [intOf]; omega⟩
          have b12 : (K == 12) = false := by rw [beq_eq_false_iff_ne]; exact hK12
          clear hK12
          by_cases hK13 : K = 13
          · subst hK13
            have HC := bared_any w.heap.size V 13 A B C S T wr hV
            unfold BaredGoal at HC
            go_wp2_with (go_at_call 20; refine HC.mono ?_; rintro e w2 ⟨rfl, hK2⟩; have hI2 := hI.next hK2; have d0 := (hI2.op HO.out).c0)
            exact ⟨⟨k + 1, by omega, by simp, hI2⟩, by simp [intOf]; omega⟩
          have b13 : (K == 13) = false := by rw [beq_eq_false_iff_ne]; exact hK13
          clear hK13
          by_cases hK15 : K = 15
          · subst hK15
            have HC := ordered_any w.heap.size V 15 A B C S T wr hV
            go_wp2_with (go_at_call 21; refine HC.mono ?_; rintro e w2 ⟨rfl, hK2⟩; have hI2 := hI.next hK2)
            exact ⟨⟨k + 1, by omega, by simp, hI2⟩, by simp [intOf]; omega⟩
          have b15 : (K == 15) = false := by rw [beq_eq_false_iff_ne]; exact hK15
          clear hK15
          go_wp2_with fail
          exact ⟨⟨k + 1, by omega, by simp, hI⟩, by simp [intOf]; omega⟩
        · go_wp2_with fail
          go_ret
          exact ⟨rfl, hI.be⟩
      · go_wp2_with fail
        go_ret
        exact ⟨rfl, hI.be⟩

theorem parts_walk (a0 : Option Addr) (len cap : Nat) (w : World) (w0 : IsOps w a0 len cap) :
    Calls Try.prog 5 #[.slice a0 len cap] w fun e w' => e = .returned (.bool true) ∧ Below w.heap.size w w' := by
  have HU := upTo_any a0 len cap w w0
  clear w0
  go_enter Try.func5, Try.ntmps5
  go_wp2_with (go_at_call 8; refine HU.mono ?_; rintro e w1 ⟨rfl, hb1⟩)
  go_ret
  exact ⟨rfl, hb1⟩

end Go.Proofs.Qxb6500273a
