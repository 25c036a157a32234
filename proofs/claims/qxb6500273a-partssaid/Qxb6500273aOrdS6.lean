/-
  WALKS: Ordered, a part's step.
-/
import Derived.Test.Qxb6500273aOrdB
set_option linter.unusedVariables false
set_option linter.unusedSimpArgs false
namespace Go.Proofs.Qxb6500273a
open Go.RowKit

set_option maxRecDepth 100000 in
set_option maxHeartbeats 2000000 in
theorem otail6 (bv : Nat) (w : World) (P : Nat) (v8 : Value) (B : Int) (M : Md) (L : Lay) (W : World) (r : Int × Int) (c c' : Code) (Q0 : Ending → World → Prop) (hc : OTail 9 c) (hc' : OTail 10 c') (a : Act) (hf : OFr bv w.heap.size P r (v8) a)
    (HS : OrdS bv w P B M L W) (HXT : (inF B 7 = false ∧ XNone L M) ∨ (inF B 7 = true ∧ XTwins W L M))
    (hn : ∀ a' L' W', OFr bv w.heap.size P (rw_ (inF B 6) (tw (inF B 7)) 17 r) v8 a' → OrdS bv w P B (o6 (inF B 6) (inF B 7) M) L' W' → c'.wp Try.prog (bodyPost Try.prog Try.f21 Q0) a' W') : c.wp Try.prog (bodyPost Try.prog Try.f21 Q0) a W := by
  unfold OTail at hc hc'
  simp only [Try.f21, Option.map, dropSt, Option.some.injEq] at hc hc'
  obtain ⟨s, rfl⟩ := frame21 a _ _ _ _ _ _ hf.d hf.n hf.h0 hf.h3 hf.h5 hf.h6 hf.h7 hf.h8
  clear hf
  subst hc
  have HN : Hid (∀ a' L' W', OFr bv w.heap.size P (rw_ (inF B 6) (tw (inF B 7)) 17 r) v8 a' → OrdS bv w P B (o6 (inF B 6) (inF B 7) M) L' W' → c'.wp Try.prog (bodyPost Try.prog Try.f21 Q0) a' W') := hn
  clear hn
  have HI : ∀ p : Int, 0 ≤ p → p ≤ 12 → ∀ wx, _ := fun p h1 h2 wx => in_any B p h1 h2 wx
  have bx := HS.bx
  go_upto_if 56 with (go_at_call 41; refine (HI _ (by omega) (by omega) _).mono ?_; rintro e w1 ⟨rfl, h41⟩; have h42 := h41.symm; clear h41; subst h42)
  clear bx
  go_cut [6, 7] from 9 (fun s6 s7 wc => OrdRel bv w P B (o6 (inF B 6) (inF B 7) M) (rw_ (inF B 6) (tw (inF B 7)) 17 r) s6 s7 wc)
  case first =>
    clear HN hc'
    have bx := HS.bx
    have hlt := HS.lt
    have hltp := HS.ltp
    have np : ¬ P = W.heap.size := by omega
    obtain ⟨i0, hi0, hz0, hz1, hz2⟩ := info_parts Try.info106
    have o7 := HS.m.2.o7
    cases hb : inF B 6
    · go_wp2_with fail
      go_meet
      rw [hb]
      exact ⟨rfl, rfl, L, HS⟩
    · have HS1 := HS.alloc (.cells #[.string ⟨#[98]⟩, .int .u8 0, .int .u32 9] 106)
      have k0 := World.cell?_alloc_new W #[.string ⟨#[98]⟩, .int .u8 0, .int .u32 9] 106 0
      have k1 := World.cell?_alloc_new W #[.string ⟨#[98]⟩, .int .u8 0, .int .u32 9] 106 1
      have k2 := World.cell?_alloc_new W #[.string ⟨#[98]⟩, .int .u8 0, .int .u32 9] 106 2
      have kl : W.heap.size < (W.alloc (.cells #[.string ⟨#[98]⟩, .int .u8 0, .int .u32 9] 106)).heap.size := by simp
      simp only [List.getElem?_toArray, List.getElem?_cons_zero, List.getElem?_cons_succ] at k0 k1 k2
      rcases HXT with ⟨h7, HX⟩ | ⟨h7, HX⟩
      · have c8 : (W.alloc (.cells #[.string ⟨#[98]⟩, .int .u8 0, .int .u32 9] 106)).cell? ⟨P, 8, none⟩ = some (.slice none 0 0) := by
          have := HS1.m.1.m8
          rw [HS1.p, HX.1, HX.2.1, HX.2.2] at this
          exact this
        clear HI bx
        go_upto_region 23 with fail
        generalize (W.alloc (.cells #[.string ⟨#[98]⟩, .int .u8 0, .int .u32 9] 106)) = W1 at *
        generalize W.heap.size = kb at *
        have hlp1 := HS1.ltp
        have c8a : ∀ ob, (W1.alloc ob).cell? ⟨P, 8, none⟩ = some (.slice none 0 0) := fun ob => (oldc hlp1).trans c8
        have z8a : ∀ ob, (W1.alloc ob).frozen? ⟨P, 8, none⟩ = false := fun ob => HS1.p ▸ (HS1.alloc ob).m.2.fp 8
        have k0a : ∀ ob, (W1.alloc ob).cell? ⟨kb, 0, none⟩ = some (.string ⟨#[98]⟩) := fun ob => (oldc kl).trans k0
        have k1a : ∀ ob, (W1.alloc ob).cell? ⟨kb, 1, none⟩ = some (.int .u8 0) := fun ob => (oldc kl).trans k1
        have k2a : ∀ ob, (W1.alloc ob).cell? ⟨kb, 2, none⟩ = some (.int .u32 9) := fun ob => (oldc kl).trans k2
        have HSm := (HS1.alloc (.cells #[.string ⟨#[98]⟩, .int .u8 0, .int .u32 9] 106)).drew
        have o71 := HS1.m.2.o7
        go_wp2_with fail
        go_region_law ((refine step_append_lies _ (by rfl) _ _ _ (by rfl) (L.gb + 1) 106 i0 _ 3 24 Try.underlying72 hi0 hz0 hz1 hz2 rfl (by omega) (.slice none 0 0) 0 [] (by rfl) (⟨rfl, .inl ⟨rfl, rfl⟩⟩) ⟨W1.heap.size, 0, none⟩ 1 1 [.string ⟨#[98]⟩, .int .u8 0, .int .u32 9] (by rfl) (by rfl) (World.news_of_block (cs := #[.string ⟨#[98]⟩, .int .u8 0, .int .u32 9]) (t := 106) (fr := (0, 0)) (heap_alloc_new W1 _)) (by simp [Value.oneCell']) (by omega) (by decide) (by decide) (by simp; omega) (W1.heap.size + 1) (by simp) ?_; intro g cap w1 hown1 hgrow hat hlt; have q1 : w1.cell? ⟨P, 8, none⟩ = some (.slice none 0 0) := (hgrow.cell_far ⟨P, 8, none⟩ (by simp; omega) (by simp [Value.ownBlock])).trans (c8a _); have q2 : w1.frozen? ⟨P, 8, none⟩ = false := (hgrow.frozen_far ⟨P, 8, none⟩ (by simp; omega) (by simp [Value.ownBlock])).trans (z8a _)))
        all_goals (go_wp2_with fail)
        all_goals go_meet
        all_goals (rw [hb, h7]; have g1 := (hown1.lt g rfl).1; have hc := fun j (hj : j < 3) => hown1.cellAt j (by omega); obtain ⟨L', hL'⟩ := ord6 HSm hgrow (fun b e => by simp [Value.ownBlock] at e) g cap (by omega) [⟨[98], 0, 9⟩] (one3 (hc 0 (by omega))) (one3 (hc 1 (by omega))) (one3 (hc 2 (by omega))); exact ⟨rfl, rfl, L', hL'⟩)
      · have c8 : (W.alloc (.cells #[.string ⟨#[98]⟩, .int .u8 0, .int .u32 9] 106)).cell? ⟨P, 8, none⟩ = some (.slice (some ⟨L.xb, 0, none⟩) 2 2) := by
          have := HS1.m.1.m8
          rw [HS1.p, HX.1, HX.2.1, HX.2.2.1] at this
          exact this
        clear HI bx
        have HXB := heap_old (ob := .cells #[.string ⟨#[98]⟩, .int .u8 0, .int .u32 9] 106) HX.2.2.2.1
        go_upto_region 23 with fail
        generalize (W.alloc (.cells #[.string ⟨#[98]⟩, .int .u8 0, .int .u32 9] 106)) = W1 at *
        generalize W.heap.size = kb at *
        have hlp1 := HS1.ltp
        have c8a : ∀ ob, (W1.alloc ob).cell? ⟨P, 8, none⟩ = some (.slice (some ⟨L.xb, 0, none⟩) 2 2) := fun ob => (oldc hlp1).trans c8
        have z8a : ∀ ob, (W1.alloc ob).frozen? ⟨P, 8, none⟩ = false := fun ob => HS1.p ▸ (HS1.alloc ob).m.2.fp 8
        have k0a : ∀ ob, (W1.alloc ob).cell? ⟨kb, 0, none⟩ = some (.string ⟨#[98]⟩) := fun ob => (oldc kl).trans k0
        have k1a : ∀ ob, (W1.alloc ob).cell? ⟨kb, 1, none⟩ = some (.int .u8 0) := fun ob => (oldc kl).trans k1
        have k2a : ∀ ob, (W1.alloc ob).cell? ⟨kb, 2, none⟩ = some (.int .u32 9) := fun ob => (oldc kl).trans k2
        have hxb : W1.heap[L.xb]? = some (.cells #[.string ⟨#[98]⟩, .int .u8 0, .int .u32 1, .string ⟨#[98]⟩, .int .u8 2, .int .u32 0] 106 (0, 0)) := HXB
        have hxc : L.gb < L.xb := HX.2.2.2.2.1
        have hpg : P < L.gb := by have p1 := HS1.m.2.o1; have p2 := HS1.m.2.o2; have p3 := HS1.m.2.o3; have p4 := HS1.m.2.o4; have p5 := HS1.p; omega
        have HSm := (HS1.alloc (.cells #[.string ⟨#[98]⟩, .int .u8 0, .int .u32 9] 106)).drew
        have o71 := HS1.m.2.o7
        go_wp2_with fail
        go_region_law ((refine step_append_lies _ (by rfl) _ _ _ (by rfl) (L.gb + 1) 106 i0 _ 3 24 Try.underlying72 hi0 hz0 hz1 hz2 rfl (by omega) (.slice (some ⟨L.xb, 0, none⟩) 1 2) 1 [.string ⟨#[98]⟩, .int .u8 0, .int .u32 1] (by rfl) (⟨rfl, .inr ⟨L.xb, 2, #[.string ⟨#[98]⟩, .int .u8 0, .int .u32 1, .string ⟨#[98]⟩, .int .u8 2, .int .u32 0], rfl, hxc, heap_old hxb, by omega, by decide, rfl, rfl⟩⟩) ⟨W1.heap.size, 0, none⟩ 1 1 [.string ⟨#[98]⟩, .int .u8 0, .int .u32 9] (by rfl) (by rfl) (World.news_of_block (cs := #[.string ⟨#[98]⟩, .int .u8 0, .int .u32 9]) (t := 106) (fr := (0, 0)) (heap_alloc_new W1 _)) (by simp [Value.oneCell']) (by omega) (by decide) (by decide) (by simp; omega) (W1.heap.size + 1) (by simp) ?_; intro g cap w1 hown1 hgrow hat hlt; have q1 : w1.cell? ⟨P, 8, none⟩ = some (.slice (some ⟨L.xb, 0, none⟩) 2 2) := (hgrow.cell_far ⟨P, 8, none⟩ (by simp; omega) (by simp [Value.ownBlock]; omega)).trans (c8a _); have q2 : w1.frozen? ⟨P, 8, none⟩ = false := (hgrow.frozen_far ⟨P, 8, none⟩ (by simp; omega) (by simp [Value.ownBlock]; omega)).trans (z8a _)))
        all_goals (go_wp2_with fail)
        all_goals go_meet
        all_goals (rw [hb, h7]; have g1 := (hown1.lt g rfl).1; have hc := fun j (hj : j < 6) => hown1.cellAt j (by omega); obtain ⟨L', hL'⟩ := ord6 HSm hgrow (fun b e => by (simp [Value.ownBlock] at e; subst e; exact ⟨hxc, HX.2.2.2.2.2⟩)) g cap (by omega) [⟨[98], 0, 1⟩, ⟨[98], 0, 9⟩] (two3 (hc 0 (by omega)) (hc 3 (by omega))) (two3 (hc 1 (by omega)) (hc 4 (by omega))) (two3 (hc 2 (by omega)) (hc 5 (by omega))); exact ⟨rfl, rfl, L', hL'⟩)
  case rest =>
    subst hc'
    obtain ⟨hs6, hs7, L2, HS2⟩ := hcut
    subst hs6
    subst hs7
    refine (by assumption : ∀ (a : Act) (w : World), Code.wp Try.prog _ _ a w → _) _ _ ?_
    exact HN.out _ L2 wc ⟨rfl, rfl, rfl, rfl, rfl, rfl, rfl, rfl⟩ HS2

end Go.Proofs.Qxb6500273a
