/-
  WALKS: the small functions of the law Parts.
-/
import Derived.Test.Qxb6500273aFrame
namespace Go.Proofs.Qxb6500273a
open Go.RowKit

def limitedF (lo hi most : Int) : Int := if most < lo then 16 else if hi ≠ -1 ∧ hi < lo then 16 else 0
def u32F (n : Int) : Bool := decide (0 ≤ n ∧ n ≤ 4294967295)
def importTypeF (c : Int) : List UInt8 := if c = 0 then [58] else if c = 1 then [58, 127] else if c = 2 then [127, 58] else [127, 58, 127]

set_option maxHeartbeats 400000 in
theorem limited_any (lo hi most : Int) (w : World) :
    Calls Try.prog 59 #[.int .i64 lo, .int .i64 hi, .int .i64 most] w fun e w' => e = .returned (.int .i64 (limitedF lo hi most)) ∧ w' = w := by
  by_cases h : most < lo
  · rw [show limitedF lo hi most = 16 from if_pos h]
    go_enter Try.func59, Try.ntmps59
    go_wp2
    go_ret
    exact ⟨rfl, rfl⟩
  · by_cases h1 : hi = -1
    · have hb : (hi != -1) = false := by rw [bne_eq_false_iff_eq]; exact h1
      rw [show limitedF lo hi most = 0 from by unfold limitedF; rw [if_neg h, if_neg (by simp [h1])]]
      clear h1
      go_enter Try.func59, Try.ntmps59
      go_wp2
      go_ret
      exact ⟨rfl, rfl⟩
    · have hb : (hi != -1) = true := by rw [bne_iff_ne]; exact h1
      by_cases h2 : hi < lo
      · rw [show limitedF lo hi most = 16 from by unfold limitedF; rw [if_neg h, if_pos ⟨h1, h2⟩]]
        clear h1
        go_enter Try.func59, Try.ntmps59
        go_wp2
        go_ret
        exact ⟨rfl, rfl⟩
      · rw [show limitedF lo hi most = 0 from by unfold limitedF; rw [if_neg h, if_neg (fun e => h2 e.2)]]
        clear h1
        go_enter Try.func59, Try.ntmps59
        go_wp2
        go_ret
        exact ⟨rfl, rfl⟩

set_option maxHeartbeats 400000 in
theorem u32_any (n : Int) (w : World) : Calls Try.prog 40 #[.int .i64 n] w fun e w' => e = .returned (.bool (u32F n)) ∧ w' = w := by
  by_cases h0 : 0 ≤ n
  · by_cases h1 : n ≤ 4294967295
    · rw [show u32F n = true from by simp [u32F, h0, h1]]
      go_enter Try.func40, Try.ntmps40
      go_wp2
      go_ret
      exact ⟨rfl, rfl⟩
    · rw [show u32F n = false from by simp [u32F, h1]]
      go_enter Try.func40, Try.ntmps40
      go_wp2
      go_ret
      exact ⟨rfl, rfl⟩
  · rw [show u32F n = false from by simp [u32F, h0]]
    go_enter Try.func40, Try.ntmps40
    go_wp2
    go_ret
    exact ⟨rfl, rfl⟩

set_option maxHeartbeats 400000 in
theorem importType_any (c : Int) (w : World) : Calls Try.prog 60 #[.int .i64 c] w fun e w' => e = .returned (.string ⟨(importTypeF c).toArray⟩) ∧ w' = w := by
  by_cases h0 : c = 0
  · subst h0
    go_enter Try.func60, Try.ntmps60
    go_wp2
    go_ret
    exact ⟨rfl, rfl⟩
  · by_cases h1 : c = 1
    · subst h1
      go_enter Try.func60, Try.ntmps60
      go_wp2
      go_ret
      exact ⟨rfl, rfl⟩
    · by_cases h2 : c = 2
      · subst h2
        go_enter Try.func60, Try.ntmps60
        go_wp2
        go_ret
        exact ⟨rfl, rfl⟩
      · have b0 : (c == 0) = false := by rw [beq_eq_false_iff_ne]; exact h0
        have b1 : (c == 1) = false := by rw [beq_eq_false_iff_ne]; exact h1
        have b2 : (c == 2) = false := by rw [beq_eq_false_iff_ne]; exact h2
        rw [show importTypeF c = [127, 58, 127] from by simp [importTypeF, h0, h1, h2]]
        clear h0 h1 h2
        go_enter Try.func60, Try.ntmps60
        go_wp2
        go_ret
        exact ⟨rfl, rfl⟩

/-- the body that user lays -/
def userF (part : Int) : List Insn :=
  if part = 3 then [⟨65, 0, 0⟩, ⟨17, 0, 0⟩, ⟨11, 0, 0⟩] else if part = 4 then [⟨63, 0, 0⟩, ⟨26, 0, 0⟩, ⟨11, 0, 0⟩] else [⟨11, 0, 0⟩]

/-- instructions as cells -/
def insCells : List Insn → List Value
  | [] => []
  | x :: r => .int .u8 x.op :: .int .u32 x.x :: .int .u64 x.y :: insCells r

theorem insCells_len : ∀ l : List Insn, (insCells l).length = l.length * 3
  | [] => rfl
  | x :: r => by simp only [insCells, List.length_cons, insCells_len r]; omega

theorem insCells_get : ∀ (l : List Insn) (i : Nat), i < l.length → (insCells l)[i * 3]? = some (.int .u8 (l.getD i ins0).op) ∧ (insCells l)[i * 3 + 1]? = some (.int .u32 (l.getD i ins0).x) ∧ (insCells l)[i * 3 + 2]? = some (.int .u64 (l.getD i ins0).y)
  | [], i, h => by simp at h
  | x :: r, 0, _ => ⟨rfl, rfl, rfl⟩
  | x :: r, i + 1, h => by
    have := insCells_get r i (by simpa using h)
    have e : (i + 1) * 3 = i * 3 + 3 := by omega
    rw [e]
    exact this

theorem bodyAt_of {w : World} {bb : Nat} {body : List Insn} (h : ∀ j u, (insCells body)[j]? = some u → w.cell? ⟨bb, j, none⟩ = some u) : BodyAt w bb body :=
  ⟨fun i hi => h _ _ (insCells_get body i hi).1, fun i hi => h _ _ (insCells_get body i hi).2.1, fun i hi => h _ _ (insCells_get body i hi).2.2⟩

set_option maxHeartbeats 400000 in
theorem user_any (part : Int) (w : World) : Calls Try.prog 37 #[.int .i64 part] w fun e w' => e = .returned (.slice (some ⟨w.heap.size, 0, none⟩) (userF part).length (userF part).length) ∧ w' = w.alloc (.cells (insCells (userF part)).toArray 42) := by
  by_cases h3 : part = 3
  · subst h3
    go_enter Try.func37, Try.ntmps37
    go_wp2
    go_ret
    exact ⟨rfl, rfl⟩
  · by_cases h4 : part = 4
    · subst h4
      go_enter Try.func37, Try.ntmps37
      go_wp2
      go_ret
      exact ⟨rfl, rfl⟩
    · have b3 : (part == 3) = false := by rw [beq_eq_false_iff_ne]; exact h3
      have b4 : (part == 4) = false := by rw [beq_eq_false_iff_ne]; exact h4
      rw [show userF part = [⟨11, 0, 0⟩] from by simp [userF, h3, h4]]
      clear h3 h4
      go_enter Try.func37, Try.ntmps37
      go_wp2
      go_ret
      exact ⟨rfl, rfl⟩

set_option maxHeartbeats 400000 in
theorem bare_any (bv bb bc : Nat) (body : List Insn) (w : World) (hbv : bv < w.heap.size) (hb : bv < bb) (hbb : bb < w.heap.size) (hB : BodyAt w bb body) :
    Calls Try.prog 38 #[.slice (some ⟨bb, 0, none⟩) body.length bc] w fun e w' => ∃ L, e = .returned (.pointer (some ⟨L.p, 0, none⟩)) ∧ ModAt w' bv L (mod0 0 body []) ∧ ModW w' L (mod0 0 body []) ∧ Below w.heap.size w w' ∧ w.heap.size ≤ L.p ∧ L.xa = none ∧ L.xc = 0 := by
  have hBx := hB.below ((Below.refl w.heap.size w).alloc (Nat.le_refl _) (.cells #[.bool false, .int .i64 0, .slice (some ⟨bb, 0, none⟩) body.length bc, .slice none 0 0, .string ⟨#[]⟩, .slice none 0 0, .int .i64 0] 32))
  have HF := frame_any bv w.heap.size 0 body [] bb bc none 0 0 (w.alloc (.cells #[.bool false, .int .i64 0, .slice (some ⟨bb, 0, none⟩) body.length bc, .slice none 0 0, .string ⟨#[]⟩, .slice none 0 0, .int .i64 0] 32))
    (by simp; omega) hb (fun h => absurd rfl h) (World.cell?_alloc_new _ _ _ _) (World.cell?_alloc_new _ _ _ _) (World.cell?_alloc_new _ _ _ _) hBx ⟨fun i hi => by simp at hi⟩ (by simp; omega) (fun h => absurd rfl h)
  clear hBx
  go_enter Try.func38, Try.ntmps38
  go_wp2_with (go_at_call 13; refine HF.mono ?_; rintro e w1 ⟨L, rfl, h1, h2, h3, h4⟩; have H4 : Hid (_ ∧ _ ∧ _) := h4; clear h4)
  go_ret
  exact ⟨L, rfl, h1, h2, ((Below.refl _ _).alloc (Nat.le_refl _) _).trans (h3.mono (by simp)), by rw [H4.out.1]; simp, H4.out.2⟩

/-- a validator as New lays it -/
def zeroV : VS := ⟨fun _ => 0, 0, fun _ => 0, fun _ => 0, fun _ => 0, fun _ => false, 0, 0⟩

def zeroVCells : Array Value := ((List.replicate 11 (Value.int .u8 0)) ++ [Value.int .i64 0] ++ (List.replicate 7 [Value.int .u8 0, .int .u8 0, .int .i64 0, .bool false]).flatten ++ [Value.int .i64 0, .int .i64 0]).toArray

theorem zeroVAt {w : World} {b : Nat} (h : w.heap[b]? = some (.cells zeroVCells 56 (0, 0))) : VAt w b zeroV := by
  have c := fun i => cell_lit h i
  refine ⟨?_, ?_, ?_, ?_, ?_, ?_, ?_, ?_, frozen_lit h⟩
  · intro i hi
    rw [c]
    match i, hi with
    | 0, _ | 1, _ | 2, _ | 3, _ | 4, _ | 5, _ | 6, _ | 7, _ | 8, _ | 9, _ | 10, _ => rfl
  · rw [c]; rfl
  · intro i hi
    rw [c]
    match i, hi with
    | 0, _ | 1, _ | 2, _ | 3, _ | 4, _ | 5, _ | 6, _ => rfl
  · intro i hi
    rw [c]
    match i, hi with
    | 0, _ | 1, _ | 2, _ | 3, _ | 4, _ | 5, _ | 6, _ => rfl
  · intro i hi
    rw [c]
    match i, hi with
    | 0, _ | 1, _ | 2, _ | 3, _ | 4, _ | 5, _ | 6, _ => rfl
  · intro i hi
    rw [c]
    match i, hi with
    | 0, _ | 1, _ | 2, _ | 3, _ | 4, _ | 5, _ | 6, _ => rfl
  · rw [c]; rfl
  · rw [c]; rfl

set_option maxHeartbeats 400000 in
theorem new_any (w : World) : Calls Try.prog 9 #[] w fun e w' => e = .returned (.pointer (some ⟨w.heap.size, 0, none⟩)) ∧ VAt w' w.heap.size zeroV ∧ Below w.heap.size w w' ∧ w.heap.size < w'.heap.size := by
  go_enter Try.func9, Try.ntmps9
  go_wp2
  go_ret
  refine ⟨rfl, zeroVAt ?_, (Below.refl _ _).alloc (Nat.le_refl _) _, by simp⟩
  exact heap_alloc_new w _

end Go.Proofs.Qxb6500273a
