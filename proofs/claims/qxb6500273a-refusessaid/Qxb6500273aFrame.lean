/-
  WALKS: frame.
-/
import Derived.Test.Qxb6500273aFrameA
namespace Go.Proofs.Qxb6500273a
open Go.RowKit

set_option maxHeartbeats 400000 in
theorem frameTypes_any (w : World) : Calls Try.prog 28 #[] w fun e w' => e = .returned (.slice (some ⟨w.heap.size, 0, none⟩) 3 3) ∧ w' = w.alloc (.cells #[.string ⟨#[58]⟩, .string ⟨#[127, 58, 127]⟩, .string ⟨#[127, 126, 125, 124, 58, 124]⟩] 9) := by
  go_enter Try.func28, Try.ntmps28
  go_wp2
  go_ret
  exact ⟨rfl, rfl⟩

/-- memory at the head of frame's round k -/
structure FrInv (w : World) (p : Nat) (t : Int) (bb n bc : Nat) (ta : Option Addr) (m tc : Nat) (k : Nat) (v : Value) (wr : World) : Prop where
  below : Below p w wr
  bp : wr.heap[p]? = some (.cells #[.slice (some ⟨p + 1, 0, none⟩) 3 3, .slice (some ⟨p + 1 + 1, 0, none⟩) 1 1, .slice (some ⟨p + 1 + 1 + 1, 0, none⟩) 1 1, .int .i64 1, .int .i64 (-1), .int .i64 1, .int .i64 (-1), v, .slice none 0 0, .int .i64 (-1), .slice none 0 0, .slice none 0 0] 76 (0, 0))
  b1 : wr.heap[p + 1]? = some (.cells #[.string ⟨#[58]⟩, .string ⟨#[127, 58, 127]⟩, .string ⟨#[127, 126, 125, 124, 58, 124]⟩] 9 (0, 0))
  b2 : wr.heap[p + 1 + 1]? = some (.cells #[.string ⟨#[101, 110, 118]⟩, .string ⟨#[116, 97, 112, 101]⟩, .int .i64 1] 79 (0, 0))
  b3 : wr.heap[p + 1 + 1 + 1]? = some (.cells #[.int .i64 t, .string ⟨#[127, 126, 125, 124]⟩, .slice (some ⟨bb, 0, none⟩) n bc, .slice ta m tc] 81 (0, 0))
  own : wr.ownsRow (p + 4) 83 5 v k (globs k)

theorem lt_of_some {w : World} {b : Nat} {o : Obj} (h : w.heap[b]? = some o) : b < w.heap.size := by
  rcases Nat.lt_or_ge b w.heap.size with h' | h'
  · exact h'
  · rw [Array.getElem?_eq_none h'] at h; cases h

theorem cell_lit {w : World} {b : Nat} {cs : Array Value} {ty : TypeId} {fr : Nat × Nat} (h : w.heap[b]? = some (.cells cs ty fr)) (i : Nat) : w.cell? ⟨b, i, none⟩ = cs[i]? := by
  unfold World.cell?
  rw [h]
  simp

theorem frozen_lit {w : World} {b : Nat} {cs : Array Value} {ty : TypeId} (h : w.heap[b]? = some (.cells cs ty (0, 0))) (i : Nat) : w.frozen? ⟨b, i, none⟩ = false := by
  unfold World.frozen?
  rw [h]
  simp

theorem set_lit {w : World} {b : Nat} {cs : Array Value} {ty : TypeId} {fr : Nat × Nat} (h : w.heap[b]? = some (.cells cs ty fr)) (i : Nat) (u : Value) : (w.setCell ⟨b, i, none⟩ u).heap[b]? = some (.cells (cs.setIfInBounds i u) ty fr) := by
  simp [World.setCell, Array.getElem?_modify, h]

theorem FrInv.size {w wr : World} {p : Nat} {t : Int} {bb n bc : Nat} {ta : Option Addr} {m tc k : Nat} {v : Value} (h : FrInv w p t bb n bc ta m tc k v wr) : p + 4 ≤ wr.heap.size := by
  have := lt_of_some h.b3
  omega

theorem FrInv.c7 {w wr w1 : World} {p : Nat} {t : Int} {bb n bc : Nat} {ta : Option Addr} {m tc k : Nat} {v : Value} {cs : Array Value} (h : FrInv w p t bb n bc ta m tc k v wr) (hg : ((wr.alloc (.cells cs 83)).drew).grownBy w1 v.ownBlock) :
    w1.cell? ⟨p, 7, none⟩ = some v ∧ w1.frozen? ⟨p, 7, none⟩ = false := by
  have hs := h.size
  have hlt := h.own.lt
  have hb : w1.heap[p]? = wr.heap[p]? := by
    rw [hg.block p (by simp; omega) (fun e => by have := hlt p e.symm; omega)]
    exact Below.heap_alloc _ _ _ (by omega)
  exact ⟨by rw [cell_lit (hb.trans h.bp)]; rfl, frozen_lit (hb.trans h.bp) 7⟩

/-- one more global -/
theorem FrInv.next {w wr w1 : World} {p : Nat} {t : Int} {bb n bc : Nat} {ta : Option Addr} {m tc k : Nat} {v v' : Value} {cs : Array Value} (h : FrInv w p t bb n bc ta m tc k v wr)
    (hown : w1.ownsRow (p + 4) 83 5 v' (k + 1) (globs k ++ cs.toList)) (hcs : globs (k + 1) = globs k ++ cs.toList) (hg : ((wr.alloc (.cells cs 83)).drew).grownBy w1 v.ownBlock) (_hv : ∀ g, v'.ownBlock = some g → p + 4 ≤ g) :
    FrInv w p t bb n bc ta m tc (k + 1) v' (w1.setCell ⟨p, 7, none⟩ v') := by
  have hs := h.size
  have hlt := h.own.lt
  have hblk : ∀ b, p ≤ b → b < p + 4 → w1.heap[b]? = wr.heap[b]? := by
    intro b h1 h2
    rw [hg.block b (by simp; omega) (fun e => by have := hlt b e.symm; omega)]
    exact Below.heap_alloc _ _ _ (by omega)
  have hoth : ∀ b, b ≠ p → (w1.setCell ⟨p, 7, none⟩ v').heap[b]? = w1.heap[b]? := fun b hb => Below.heap_setCell _ _ _ _ hb
  refine ⟨?_, ?_, ?_, ?_, ?_, ?_⟩
  · refine ((h.below.alloc (by omega) (.cells cs 83)).drew.grown hg (by simp; omega) (fun b e => by have := hlt b e; omega)).setCell (Nat.le_refl _) _
  · rw [set_lit ((hblk p (Nat.le_refl _) (by omega)).trans h.bp)]
    rfl
  · rw [hoth _ (by omega), hblk _ (by omega) (by omega)]; exact h.b1
  · rw [hoth _ (by omega), hblk _ (by omega) (by omega)]; exact h.b2
  · rw [hoth _ (by omega), hblk _ (by omega) (by omega)]; exact h.b3
  · rw [hcs]
    exact ownsRow_setCell_below hown (by simp) _


theorem frInv_start (w : World) (p : Nat) (t : Int) (bb n bc : Nat) (ta : Option Addr) (m tc : Nat) (hp : w.heap.size = p) :
    FrInv w p t bb n bc ta m tc 0 (.slice none 0 0) ((((w.alloc (.cells #[.slice (some ⟨p + 1, 0, none⟩) 3 3, .slice (some ⟨p + 1 + 1, 0, none⟩) 1 1, .slice (some ⟨p + 1 + 1 + 1, 0, none⟩) 1 1, .int .i64 1, .int .i64 (-1), .int .i64 1, .int .i64 (-1), .slice none 0 0, .slice none 0 0, .int .i64 (-1), .slice none 0 0, .slice none 0 0] 76)).alloc (.cells #[.string ⟨#[58]⟩, .string ⟨#[127, 58, 127]⟩, .string ⟨#[127, 126, 125, 124, 58, 124]⟩] 9)).alloc (.cells #[.string ⟨#[101, 110, 118]⟩, .string ⟨#[116, 97, 112, 101]⟩, .int .i64 1] 79)).alloc (.cells #[.int .i64 t, .string ⟨#[127, 126, 125, 124]⟩, .slice (some ⟨bb, 0, none⟩) n bc, .slice ta m tc] 81)).drew := by
  subst hp
  refine ⟨((((Below.refl _ _).alloc (Nat.le_refl _) _).alloc (by simp) _).alloc (by simp; omega) _).alloc (by simp; omega) _ |>.drew, ?_, ?_, ?_, ?_, World.ownsRow_nil _ _ _ _⟩
  · show ((((w.heap.push _).push _).push _).push _)[w.heap.size]? = _
    simp only [Array.getElem?_push, Array.size_push]
    rw [if_neg (by omega), if_neg (by omega), if_neg (by omega), if_pos trivial]
  · show ((((w.heap.push _).push _).push _).push _)[w.heap.size + 1]? = _
    simp only [Array.getElem?_push, Array.size_push]
    rw [if_neg (by omega), if_neg (by omega), if_pos trivial]
  · show ((((w.heap.push _).push _).push _).push _)[w.heap.size + 1 + 1]? = _
    simp only [Array.getElem?_push, Array.size_push]
    rw [if_neg (by omega), if_pos trivial]
  · show ((((w.heap.push _).push _).push _).push _)[w.heap.size + 1 + 1 + 1]? = _
    simp only [Array.getElem?_push, Array.size_push]
    rw [if_pos trivial]

theorem frame_done (bv : Nat) (t : Int) (body : List Insn) (tabs : List Int) (bb bc : Nat) (ta : Option Addr) (tc tbk : Nat) (w : World) (p : Nat) (v : Value) (wr : World) (hp : w.heap.size = p)
    (hbv : bv < w.heap.size) (hb : bv < bb) (htk : tabs ≠ [] → bv < tbk) (hB : BodyAt w bb body) (hT : TabsAt w ta tbk tabs) (hI : FrInv w p t bb body.length bc ta tabs.length tc 4 v wr) (hbb : bb < w.heap.size) (htb : tabs ≠ [] → tbk < w.heap.size) :
    ∃ L : Lay, Ending.returned (.pointer (some ⟨p, 0, none⟩)) = .returned (.pointer (some ⟨L.p, 0, none⟩)) ∧ ModAt wr bv L (mod0 t body tabs) ∧ ModW wr L (mod0 t body tabs) ∧ Below w.heap.size w wr ∧ L.p = w.heap.size ∧ L.xa = none ∧ L.xc = 0 := by
  subst hp
  obtain ⟨g, cap, rfl, hg, hglt⟩ := hI.own.form (by omega)
  have hB' := hB.below hI.below
  have hT' := hT.below hI.below
  have ho := hI.own
  have c : ∀ j, j < 20 → wr.cell? ⟨g, j, none⟩ = (globs 4)[j]? := fun j hj => ho.cellAt j (by omega)
  have nz : ∀ {A : Type} {i : Nat}, i < ([] : List A).length → False := fun {A i} h => by simp at h
  refine ⟨⟨w.heap.size, w.heap.size + 1, w.heap.size + 1 + 1, w.heap.size + 1 + 1 + 1, g, cap, bb, bc, ta, tc, tbk, none, 0, 0, none, 0, 0, fun _ => 0, none, 0, 0⟩, rfl, ?_, ?_, hI.below, rfl, rfl, rfl⟩
  · refine ⟨?_, ?_, ?_, ?_, ?_, ?_, ?_, ?_, ?_, ?_, ?_, ?_, ?_, ?_, ?_, ?_, ?_, ?_, ?_, ?_, ?_, ?_, ?_, hB'.b0, hB'.b1, hB'.b2, hT'.t0, fun i hi => (nz hi).elim, fun i hi => (nz hi).elim, fun i hi => (nz hi).elim, fun i hi => (nz hi).elim, fun i hi => (nz hi).elim, fun i hi => (nz hi).elim, fun i hi => (nz hi).elim, ?_⟩
    · rw [cell_lit hI.bp]; rfl
    · rw [cell_lit hI.bp]; rfl
    · rw [cell_lit hI.bp]; rfl
    · rw [cell_lit hI.bp]; rfl
    · rw [cell_lit hI.bp]; rfl
    · rw [cell_lit hI.bp]; rfl
    · rw [cell_lit hI.bp]; rfl
    · rw [cell_lit hI.bp]; rfl
    · rw [cell_lit hI.bp]; rfl
    · rw [cell_lit hI.bp]; rfl
    · rw [cell_lit hI.bp]; rfl
    · rw [cell_lit hI.bp]; rfl
    · rw [cell_lit hI.b1]; rfl
    · rw [cell_lit hI.b1]; rfl
    · rw [cell_lit hI.b1]; rfl
    · rw [cell_lit hI.b2]; rfl
    · rw [cell_lit hI.b3]; rfl
    · rw [cell_lit hI.b3]; rfl
    · rw [cell_lit hI.b3]; rfl
    · rw [cell_lit hI.b3]; rfl
    · intro i hi
      match i, hi with
      | 0, _ => exact c 0 (by omega)
      | 1, _ => exact c 5 (by omega)
      | 2, _ => exact c 10 (by omega)
      | 3, _ => exact c 15 (by omega)
    · intro i hi
      match i, hi with
      | 0, _ => exact c 1 (by omega)
      | 1, _ => exact c 6 (by omega)
      | 2, _ => exact c 11 (by omega)
      | 3, _ => exact c 16 (by omega)
    · intro i hi
      match i, hi with
      | 0, _ => exact c 2 (by omega)
      | 1, _ => exact c 7 (by omega)
      | 2, _ => exact c 12 (by omega)
      | 3, _ => exact c 17 (by omega)
    · exact ⟨hbv, by simp only []; omega, by simp only []; omega, by simp only []; omega, by simp only []; omega, hb, htk, fun h => absurd rfl h, fun h => absurd rfl h, fun i hi => (nz hi).elim, fun h => absurd rfl h⟩
  · refine ⟨by simp only []; omega, by simp only []; omega, by simp only []; omega, by simp only []; omega, hbb, htb, hglt, frozen_lit hI.bp, frozen_lit hI.b1, frozen_lit hI.b2, frozen_lit hI.b3, fun o => ho.frozenAt o, fun h => absurd rfl h, fun h => absurd rfl h, fun i hi => (nz hi).elim, fun h => absurd rfl h, ?_, ?_⟩
    · intro i hi
      match i, hi with
      | 0, _ => exact ⟨_, c 3 (by omega)⟩
      | 1, _ => exact ⟨_, c 8 (by omega)⟩
      | 2, _ => exact ⟨_, c 13 (by omega)⟩
      | 3, _ => exact ⟨_, c 18 (by omega)⟩
    · intro i hi
      match i, hi with
      | 0, _ => exact ⟨_, c 4 (by omega)⟩
      | 1, _ => exact ⟨_, c 9 (by omega)⟩
      | 2, _ => exact ⟨_, c 14 (by omega)⟩
      | 3, _ => exact ⟨_, c 19 (by omega)⟩


set_option maxRecDepth 100000 in
set_option maxHeartbeats 1000000 in
theorem frame_any (bv d : Nat) (t : Int) (body : List Insn) (tabs : List Int) (bb bc : Nat) (ta : Option Addr) (tc tbk : Nat) (w : World)
    (hbv : bv < w.heap.size) (hb : bv < bb) (htk : tabs ≠ [] → bv < tbk)
    (c1 : w.cell? ⟨d, 1, none⟩ = some (.int .i64 t)) (c2 : w.cell? ⟨d, 2, none⟩ = some (.slice (some ⟨bb, 0, none⟩) body.length bc)) (c3 : w.cell? ⟨d, 3, none⟩ = some (.slice ta tabs.length tc))
    (hB : BodyAt w bb body) (hT : TabsAt w ta tbk tabs) (hbb : bb < w.heap.size) (htb : tabs ≠ [] → tbk < w.heap.size) :
    Calls Try.prog 13 #[.pointer (some ⟨d, 0, none⟩)] w fun e w' => ∃ L, e = .returned (.pointer (some ⟨L.p, 0, none⟩)) ∧ ModAt w' bv L (mod0 t body tabs) ∧ ModW w' L (mod0 t body tabs) ∧ Below w.heap.size w w' ∧ L.p = w.heap.size ∧ L.xa = none ∧ L.xc = 0 := by
  have hd : d < w.heap.size := World.block_lt_of_cell? _ _ c1
  obtain ⟨i0, hi0, hz0, hz1, hz2⟩ := info_parts Try.info83
  obtain ⟨p, hp⟩ : ∃ p, w.heap.size = p := ⟨_, rfl⟩
  have HP : Hid (w.heap.size = p) := hp
  go_enter Try.func13, Try.ntmps13
  go_wp2_with (go_at_call 28; refine (frameTypes_any _).mono ?_; rintro e w1 ⟨rfl, rfl⟩)
  go_region_held3 (fun u => u.cell? ⟨d, 1, none⟩ = some (.int .i64 t) ∧ u.cell? ⟨d, 2, none⟩ = some (.slice (some ⟨bb, 0, none⟩) body.length bc) ∧ u.cell? ⟨d, 3, none⟩ = some (.slice ta tabs.length tc)) (refine ⟨?_, ?_, ?_⟩ <;> simp only [World.cell?_drew] <;> (repeat (first | rw [oldc (by (try simp only [World.size_alloc]); omega)] | rw [pastc (by omega)] | rw [apartc (by (try simp only [World.size_alloc]); omega)])) <;> assumption) (fail)
  go_wp2
  go_loopw [4] (fun i wr => ∃ k : Nat, ∃ v : Value, k ≤ 4 ∧ i = .int .i64 k ∧ FrInv w p t bb body.length bc ta tabs.length tc k v wr) (fun i _ => 4 - (intOf i).toNat)
  case atStart =>
    refine ⟨0, .slice none 0 0, by omega, rfl, ?_⟩
    exact frInv_start w p t bb body.length bc ta tabs.length tc HP.out
  case round =>
    obtain ⟨k, v, hk, rfl, hI⟩ := hrel
    clear hp c1 c2 c3
    have c7 := cell_lit hI.bp 7
    have z7 := frozen_lit hI.bp 7
    have hsz := hI.size
    simp only [List.getElem?_toArray] at c7
    match k, hk, hI, c7, z7 with
    | 0, hk, hI, c7, z7 =>
      have hown := hI.own
      have c7a : ∀ ob, (wr.alloc ob).cell? ⟨p, 7, none⟩ = some v := fun ob => (oldc (by omega)).trans c7
      go_wp2
      go_region_law ((refine step_append_lies _ (by rfl) _ _ _ (by rfl) (p + 4) 83 i0 _ 5 24 Try.underlying71 hi0 hz0 hz1 hz2 rfl (by omega) v 0 (globs 0) (by rfl) ((hown.alloc _).drew) ⟨wr.heap.size, 0, none⟩ 1 1 [.int .u8 127, .bool true, .int .u8 65, .int .u32 0, .int .u64 0] (by rfl) (by rfl) (World.news_of_block (cs := #[.int .u8 127, .bool true, .int .u8 65, .int .u32 0, .int .u64 0]) (t := 83) (fr := (0, 0)) (heap_alloc_new wr _)) (by simp [Value.oneCell']) (by omega) (by decide) (by decide) (by simp; omega) (wr.heap.size + 1) (by simp) ?_; intro g cap w1 hown1 hgrow hat hlt; have q1 := (hI.c7 hgrow).1; have q2 := (hI.c7 hgrow).2))
      all_goals go_wp2
      all_goals (have hown2 : w1.ownsRow (p + 4) 83 5 (.slice (some ⟨g, 0, none⟩) 1 cap) 1 (globs 0 ++ [.int .u8 127, .bool true, .int .u8 65, .int .u32 0, .int .u64 0]) := hown1; have HN := hI.next (cs := #[.int .u8 127, .bool true, .int .u8 65, .int .u32 0, .int .u64 0]) hown2 rfl hgrow (fun b hb => (hown2.lt b hb).1); clear hown1 hown2 hgrow hown; exact ⟨⟨1, _, by omega, rfl, HN⟩, by simp [intOf]⟩)
    | 1, hk, hI, c7, z7 =>
      have hown := hI.own
      have c7a : ∀ ob, (wr.alloc ob).cell? ⟨p, 7, none⟩ = some v := fun ob => (oldc (by omega)).trans c7
      go_wp2
      go_region_law ((refine step_append_lies _ (by rfl) _ _ _ (by rfl) (p + 4) 83 i0 _ 5 24 Try.underlying71 hi0 hz0 hz1 hz2 rfl (by omega) v 1 (globs 1) (by rfl) ((hown.alloc _).drew) ⟨wr.heap.size, 0, none⟩ 1 1 [.int .u8 126, .bool true, .int .u8 66, .int .u32 0, .int .u64 0] (by rfl) (by rfl) (World.news_of_block (cs := #[.int .u8 126, .bool true, .int .u8 66, .int .u32 0, .int .u64 0]) (t := 83) (fr := (0, 0)) (heap_alloc_new wr _)) (by simp [Value.oneCell']) (by omega) (by decide) (by decide) (by simp; omega) (wr.heap.size + 1) (by simp) ?_; intro g cap w1 hown1 hgrow hat hlt; have q1 := (hI.c7 hgrow).1; have q2 := (hI.c7 hgrow).2))
      all_goals go_wp2
      all_goals (have hown2 : w1.ownsRow (p + 4) 83 5 (.slice (some ⟨g, 0, none⟩) 2 cap) 2 (globs 1 ++ [.int .u8 126, .bool true, .int .u8 66, .int .u32 0, .int .u64 0]) := hown1; have HN := hI.next (cs := #[.int .u8 126, .bool true, .int .u8 66, .int .u32 0, .int .u64 0]) hown2 rfl hgrow (fun b hb => (hown2.lt b hb).1); clear hown1 hown2 hgrow hown; exact ⟨⟨2, _, by omega, rfl, HN⟩, by simp [intOf]⟩)
    | 2, hk, hI, c7, z7 =>
      have hown := hI.own
      have c7a : ∀ ob, (wr.alloc ob).cell? ⟨p, 7, none⟩ = some v := fun ob => (oldc (by omega)).trans c7
      go_wp2
      go_region_law ((refine step_append_lies _ (by rfl) _ _ _ (by rfl) (p + 4) 83 i0 _ 5 24 Try.underlying71 hi0 hz0 hz1 hz2 rfl (by omega) v 2 (globs 2) (by rfl) ((hown.alloc _).drew) ⟨wr.heap.size, 0, none⟩ 1 1 [.int .u8 125, .bool true, .int .u8 67, .int .u32 0, .int .u64 0] (by rfl) (by rfl) (World.news_of_block (cs := #[.int .u8 125, .bool true, .int .u8 67, .int .u32 0, .int .u64 0]) (t := 83) (fr := (0, 0)) (heap_alloc_new wr _)) (by simp [Value.oneCell']) (by omega) (by decide) (by decide) (by simp; omega) (wr.heap.size + 1) (by simp) ?_; intro g cap w1 hown1 hgrow hat hlt; have q1 := (hI.c7 hgrow).1; have q2 := (hI.c7 hgrow).2))
      all_goals go_wp2
      all_goals (have hown2 : w1.ownsRow (p + 4) 83 5 (.slice (some ⟨g, 0, none⟩) 3 cap) 3 (globs 2 ++ [.int .u8 125, .bool true, .int .u8 67, .int .u32 0, .int .u64 0]) := hown1; have HN := hI.next (cs := #[.int .u8 125, .bool true, .int .u8 67, .int .u32 0, .int .u64 0]) hown2 rfl hgrow (fun b hb => (hown2.lt b hb).1); clear hown1 hown2 hgrow hown; exact ⟨⟨3, _, by omega, rfl, HN⟩, by simp [intOf]⟩)
    | 3, hk, hI, c7, z7 =>
      have hown := hI.own
      have c7a : ∀ ob, (wr.alloc ob).cell? ⟨p, 7, none⟩ = some v := fun ob => (oldc (by omega)).trans c7
      go_wp2
      go_region_law ((refine step_append_lies _ (by rfl) _ _ _ (by rfl) (p + 4) 83 i0 _ 5 24 Try.underlying71 hi0 hz0 hz1 hz2 rfl (by omega) v 3 (globs 3) (by rfl) ((hown.alloc _).drew) ⟨wr.heap.size, 0, none⟩ 1 1 [.int .u8 124, .bool true, .int .u8 68, .int .u32 0, .int .u64 0] (by rfl) (by rfl) (World.news_of_block (cs := #[.int .u8 124, .bool true, .int .u8 68, .int .u32 0, .int .u64 0]) (t := 83) (fr := (0, 0)) (heap_alloc_new wr _)) (by simp [Value.oneCell']) (by omega) (by decide) (by decide) (by simp; omega) (wr.heap.size + 1) (by simp) ?_; intro g cap w1 hown1 hgrow hat hlt; have q1 := (hI.c7 hgrow).1; have q2 := (hI.c7 hgrow).2))
      all_goals go_wp2
      all_goals (have hown2 : w1.ownsRow (p + 4) 83 5 (.slice (some ⟨g, 0, none⟩) 4 cap) 4 (globs 3 ++ [.int .u8 124, .bool true, .int .u8 68, .int .u32 0, .int .u64 0]) := hown1; have HN := hI.next (cs := #[.int .u8 124, .bool true, .int .u8 68, .int .u32 0, .int .u64 0]) hown2 rfl hgrow (fun b hb => (hown2.lt b hb).1); clear hown1 hown2 hgrow hown; exact ⟨⟨4, _, by omega, rfl, HN⟩, by simp [intOf]⟩)
    | 4, hk, hI, c7, z7 =>
      go_wp2
      go_ret
      exact frame_done bv t body tabs bb bc ta tc tbk w p v wr HP.out hbv hb htk hB hT hI hbb htb
    | k + 5, hk, hI, c7, z7 => omega
end Go.Proofs.Qxb6500273a
