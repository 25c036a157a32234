/-
  WALKS: the small functions of the law Refuses.
-/
import Derived.Test.Qxb6500273aLeaf
import Derived.Test.Qxb6500273aFrame
import Derived.Laws.IdiomStrings
namespace Go.Proofs.Qxb6500273a
open Go.RowKit

/-- a type's byte as a text -/
def strF (n : Int) : List UInt8 := [UInt8.ofNat n.toNat]

set_option maxHeartbeats 400000 in
theorem str_any (n : Int) (h0 : 0 ≤ n) (h1 : n ≤ 255) (w : World) : Calls Try.prog 22 #[.int .u8 n] w fun e w' => e = .returned (.string ⟨(strF n).toArray⟩) ∧ w' = w.alloc (.cells #[.int .u8 n] 5) := by
  have hrun := run_convert_bytes_back (P := Try.prog) (w.alloc (.cells #[.int .u8 n] 5)) 107 9 5 ⟨w.heap.size, 0, none⟩ 1 (strF n) Try.underlying107 Try.underlying5 Try.underlying9 (fun j hj => by
    have hj0 : j = 0 := by simp [strF] at hj; omega
    subst hj0
    have := World.cell?_alloc_new w #[.int .u8 n] 5 0
    simp only [Addr.add]
    rw [if_pos trivial, this]
    simp [strF]
    omega)
  have hl : (strF n).length = 1 := rfl
  rw [hl] at hrun
  generalize strF n = s at *
  clear hl
  go_enter Try.func22, Try.ntmps22
  go_wp2
  go_ret
  exact ⟨rfl, rfl⟩

def isValF (n : Int) : Bool := n == 127 || n == 126 || n == 125 || n == 124

set_option maxHeartbeats 400000 in
theorem isVal_any (n : Int) (w : World) : Calls Try.prog 24 #[.int .u8 n] w fun e w' => e = .returned (.bool (isValF n)) ∧ w' = w := by
  unfold isValF
  cases h1 : n == 127 <;> cases h2 : n == 126 <;> cases h3 : n == 125 <;> cases h4 : n == 124
  all_goals go_enter Try.func24, Try.ntmps24
  all_goals go_wp2
  all_goals go_ret
  all_goals exact ⟨rfl, rfl⟩

def fallsF (op : Int) : Bool := op != 0 && op != 12 && op != 14 && op != 15

set_option maxHeartbeats 400000 in
theorem falls_any (op : Int) (w : World) : Calls Try.prog 15 #[.int .i64 op] w fun e w' => e = .returned (.bool (fallsF op)) ∧ w' = w := by
  unfold fallsF
  cases h1 : op != 0 <;> cases h2 : op != 12 <;> cases h3 : op != 14 <;> cases h4 : op != 15
  all_goals go_enter Try.func15, Try.ntmps15
  all_goals go_wp2
  all_goals go_ret
  all_goals exact ⟨rfl, rfl⟩

theorem cut_any2 (t y : Int) (w : World) : Calls Try.prog 44 #[.int .u8 t, .int .u64 y] w fun e w' => (∃ z : Int, e = .returned (.int .u64 z)) ∧ w' = w := by
  cases h1 : t == 127 <;> cases h2 : t == 125
  all_goals go_enter Try.func44, Try.ntmps44
  all_goals go_wp2
  all_goals go_ret
  all_goals exact ⟨⟨_, rfl⟩, rfl⟩

def endsF (st ts : List UInt8) : Bool := decide (ts.length ≤ st.length) && (st.drop (st.length - ts.length) == ts)

set_option maxHeartbeats 400000 in
theorem ends_any (st ts : List UInt8) (h1 : st.length ≤ 1000) (h2 : ts.length ≤ 1000) (w : World) : Calls Try.prog 25 #[.string ⟨st.toArray⟩, .string ⟨ts.toArray⟩] w fun e w' => e = .returned (.bool (endsF st ts)) ∧ w' = w := by
  by_cases hl : ts.length ≤ st.length
  · go_enter Try.func25, Try.ntmps25
    go_wp2
    go_ret
    refine ⟨ret_bool ?_, rfl⟩
    rw [ext_list]
    simp [endsF, hl]
  · have : endsF st ts = false := by simp [endsF, hl]
    rw [this]
    clear this
    go_enter Try.func25, Try.ntmps25
    go_wp2
    go_ret
    exact ⟨rfl, rfl⟩

/-- some text of at most ten bytes -/
def ShortS (e : Ending) : Prop := ∃ F : List UInt8, F.length ≤ 10 ∧ e = .returned (.string ⟨F.toArray⟩)

set_option maxHeartbeats 400000 in
theorem types_any (S : List UInt8) (w : World) : Calls Try.prog 23 #[.string ⟨S.toArray⟩] w fun e w' => ShortS e ∧ w' = w := by
  by_cases hl : 10 < S.length
  · go_enter Try.func23, Try.ntmps23
    go_wp2
    go_ret
    exact ⟨⟨[], by simp, rfl⟩, rfl⟩
  · go_enter Try.func23, Try.ntmps23
    go_wp2_with fail
    go_loopw [3] (fun i wr => ∃ k : Nat, k ≤ S.length ∧ i = .int .i64 k ∧ wr = w) (fun i _ => S.length - (intOf i).toNat)
    case atStart => exact ⟨0, by omega, rfl, rfl⟩
    case round =>
      obtain ⟨k, hk, rfl, hw⟩ := hrel
      subst hw
      by_cases hlt : k < S.length
      · have hki : (k : Int) < S.length := by omega
        go_wp2_with (go_at_call 24; refine (isVal_any _ _).mono ?_; rintro e w1 ⟨rfl, h41⟩; have h42 := h41.symm; clear h41; subst h42)
        · go_ret
          exact ⟨⟨[], by simp, rfl⟩, rfl⟩
        · exact ⟨⟨k + 1, by omega, by simp, trivial⟩, by simp [intOf]; omega⟩
      · go_wp2_with fail
        go_ret
        exact ⟨⟨S, by omega, rfl⟩, rfl⟩

/-- the text of the frame's type k -/
def typeT (k : Int) : List UInt8 := if k = 0 then [58] else if k = 1 then [127, 58, 127] else [127, 126, 125, 124, 58, 124]
def sidesF (k : Int) : List UInt8 × List UInt8 := splitF (typeT k)

set_option maxHeartbeats 400000 in
theorem sides_any (k : Int) (h0 : 0 ≤ k) (h2 : k ≤ 2) (w : World) : Calls Try.prog 27 #[.int .i64 k] w fun e w' => e = .returned (.tuple #[.string ⟨(sidesF k).1.toArray⟩, .string ⟨(sidesF k).2.toArray⟩]) ∧ Below w.heap.size w w' := by
  have hb : Below w.heap.size w (w.alloc (.cells #[.string ⟨#[58]⟩, .string ⟨#[127, 58, 127]⟩, .string ⟨#[127, 126, 125, 124, 58, 124]⟩] 9)) := (Below.refl _ _).alloc (Nat.le_refl _) _
  have hk : k = 0 ∨ k = 1 ∨ k = 2 := by omega
  unfold sidesF
  rcases hk with rfl | rfl | rfl
  · have HS := split_any [58] (w.alloc (.cells #[.string ⟨#[58]⟩, .string ⟨#[127, 58, 127]⟩, .string ⟨#[127, 126, 125, 124, 58, 124]⟩] 9)) (by simp)
    go_enter Try.func27, Try.ntmps27
    go_wp2_with (first | (go_at_call 28; refine (frameTypes_any _).mono ?_; rintro e w1 ⟨rfl, rfl⟩) | (go_at_call 45; refine HS.mono ?_; rintro e w1 ⟨rfl, n, rfl⟩))
    go_ret2
    exact ⟨rfl, ⟨hb.os, hb.tape, hb.output, hb.size, hb.block⟩⟩
  · have HS := split_any [127, 58, 127] (w.alloc (.cells #[.string ⟨#[58]⟩, .string ⟨#[127, 58, 127]⟩, .string ⟨#[127, 126, 125, 124, 58, 124]⟩] 9)) (by simp)
    go_enter Try.func27, Try.ntmps27
    go_wp2_with (first | (go_at_call 28; refine (frameTypes_any _).mono ?_; rintro e w1 ⟨rfl, rfl⟩) | (go_at_call 45; refine HS.mono ?_; rintro e w1 ⟨rfl, n, rfl⟩))
    go_ret2
    exact ⟨rfl, ⟨hb.os, hb.tape, hb.output, hb.size, hb.block⟩⟩
  · have HS := split_any [127, 126, 125, 124, 58, 124] (w.alloc (.cells #[.string ⟨#[58]⟩, .string ⟨#[127, 58, 127]⟩, .string ⟨#[127, 126, 125, 124, 58, 124]⟩] 9)) (by simp)
    go_enter Try.func27, Try.ntmps27
    go_wp2_with (first | (go_at_call 28; refine (frameTypes_any _).mono ?_; rintro e w1 ⟨rfl, rfl⟩) | (go_at_call 45; refine HS.mono ?_; rintro e w1 ⟨rfl, n, rfl⟩))
    go_ret2
    exact ⟨rfl, ⟨hb.os, hb.tape, hb.output, hb.size, hb.block⟩⟩

end Go.Proofs.Qxb6500273a
