/-
  body's loop: if, else, end
-/
import Derived.Test.Qxb6500273aBodyA
set_option linter.unusedVariables false
set_option linter.unusedSimpArgs false
namespace Go.Proofs.Qxb6500273a
open Go.RowKit
section
variable (bv : Nat) (L : Lay) (M : Md) (ps : List UInt8) (R : (Int × Int) × VS) (w : World) (Q : Exit → Act → World → Prop) (c : Code) (k : Nat) (U : VS) (s : Nat → Value) (w' : World) (x : Insn)

set_option maxRecDepth 100000 in
set_option maxHeartbeats 1000000 in
theorem body_if (hc : BodyRound c) (hQ : BQ bv M R w Q) (hM : ModAt w' bv L M) (hR : BRel bv M ps R w k U w') (hlt : k < M.body.length) (hlen : M.body.length ≤ 1000) (hx : M.body.getD k ins0 = x) (hop : x.op = 4) : BGoal bv L M ps R w Q c s k w' := by
  unfold BGoal
  unfold BodyRound at hc
  simp only [Try.f30, Option.bind, firstLoop, Option.some.injEq] at hc
  subst hc
  have f2 := hM.f2
  have b0 := hM.b0 k hlt
  have b1 := hM.b1 k hlt
  have b2 := hM.b2 k hlt
  rw [hx] at b0 b1 b2
  have HX : Hid (M.body.getD k ins0 = x) := hx
  have hkl : (k : Int) < M.body.length := by omega
  have hU := hR.v
  have ok := hR.ok
  clear hx
  rw [hop] at b0
  have HOP : Hid (x.op = 4) := hop
  clear hop
  have hbl := hU.lt
  have hU1 := hU.alloc (.cells #[.int .u8 4, .int .u32 x.x, .int .u64 x.y] 42)
  have hE1 := (Ex.refl bv w').alloc (.cells #[.int .u8 4, .int .u32 x.x, .int .u64 x.y] 42)
  have HST : Hid (stepF M ps M.body.length k U x = if (carryF U 127).1 = true then openF (carryF U 127).2 k x else (some ((k : Int), 27), (carryF U 127).2)) := by show _ = _; simp [stepF, HOP.out]
  have ok1 := carryF_ok ok 127
  generalize hq : carryF U 127 = q at *
  have HQ : Hid (carryF U 127 = q) := hq
  clear hq
  cases hq1 : q.1
  · go_wp2_with (go_at_call 53; refine (carry_any bv U 127 _ hU1 ok).mono ?_; rw [HQ.out, hq1]; rintro e w1 ⟨rfl, hV1, hE2⟩)
    exact hR.done hQ hlt HX.out _ (by rw [HST.out, hq1]; rfl) hV1 (hE1.trans hE2) rfl rfl rfl
  · go_wp2_with fail
    refine (carry_any bv U 127 _ hU1 ok).mono ?_
    rw [HQ.out, hq1]
    rintro e w1 ⟨rfl, hV1, hE2⟩
    have cd := hV1.depth
    have cz := hV1.frz 40
    by_cases h6 : 6 < q.2.depth
    · go_wp2
      exact hR.done hQ hlt HX.out _ (by rw [HST.out, hq1, if_pos rfl, openF, if_pos h6]) hV1 (hE1.trans hE2) rfl rfl rfl
    · have h7 : (q.2.depth : Int) < 7 := by omega
      have c0 := hV1.cop q.2.depth (by omega)
      have c1 := hV1.res q.2.depth (by omega)
      have c2 := hV1.flr q.2.depth (by omega)
      have c3 := hV1.dead q.2.depth (by omega)
      have ch := hV1.height
      have z0 := hV1.frz (12 + q.2.depth * 4)
      have z1 := hV1.frz (12 + q.2.depth * 4 + 1)
      have z2 := hV1.frz (12 + q.2.depth * 4 + 2)
      have z3 := hV1.frz (12 + q.2.depth * 4 + 3)
      have x0 := box_cell hE2 hbl 0 _ rfl
      have x1 := box_cell hE2 hbl 1 _ rfl
      have nb : ¬ bv = w'.heap.size := by omega
      have nb2 : ¬ w'.heap.size = bv := by omega
      have HW8 : Hid (IntKind.u8.wrap x.x = x.x % 256) := IntKind.wrap_u8 _
      go_wp2
      go_region_held3 (fun u => u.cell? ⟨bv, 40, none⟩ = some (.int .i64 (q.2.depth : Int)) ∧ u.cell? ⟨w'.heap.size, 0, none⟩ = some (.int .u8 4) ∧ u.cell? ⟨w'.heap.size, 1, none⟩ = some (.int .u32 x.x) ∧ u.cell? ⟨bv, 11, none⟩ = some (.int .i64 (q.2.height : Int))) (first | (go_keep; done) | (refine ⟨?_, ?_, ?_, ?_⟩ <;> simp only [World.cell?_drew] <;> (repeat (first | rw [cell_past (by omega)] | rw [cell_apart (by omega)])) <;> (first | assumption | simp))) (fail)
      have y1 := hV1.setCop q.2.depth (by omega) 4
      have y2 := y1.setRes q.2.depth (by omega) (IntKind.u8.wrap x.x)
      have y3 := y2.setFlr q.2.depth (by omega) q.2.height _ rfl
      have y4 := y3.setDead q.2.depth (by omega) false
      have yd := y4.depth
      have yz := y4.frz 40
      simp only [] at yd
      go_wp2
      exact hR.next hlt HX.out _ (by rw [HST.out, hq1, if_pos rfl, openF, if_neg h6, HOP.out, ← HW8.out]) ((y4.setDepth (q.2.depth + 1) _ (by omega)).drew) (openF_ok ok1 (by omega) _ _) (((((((hE1.trans hE2).setCell _ _).setCell _ _).setCell _ _).setCell _ _).setCell _ _).drew) rfl rfl rfl rfl rfl rfl rfl

set_option maxRecDepth 100000 in
set_option maxHeartbeats 1000000 in
theorem body_else (hc : BodyRound c) (hQ : BQ bv M R w Q) (hM : ModAt w' bv L M) (hR : BRel bv M ps R w k U w') (hlt : k < M.body.length) (hlen : M.body.length ≤ 1000) (hx : M.body.getD k ins0 = x) (hop : x.op = 5) : BGoal bv L M ps R w Q c s k w' := by
  unfold BGoal
  unfold BodyRound at hc
  simp only [Try.f30, Option.bind, firstLoop, Option.some.injEq] at hc
  subst hc
  have f2 := hM.f2
  have b0 := hM.b0 k hlt
  have b1 := hM.b1 k hlt
  have b2 := hM.b2 k hlt
  rw [hx] at b0 b1 b2
  have HX : Hid (M.body.getD k ins0 = x) := hx
  have hkl : (k : Int) < M.body.length := by omega
  have hU := hR.v
  have ok := hR.ok
  clear hx
  rw [hop] at b0
  have HOP : Hid (x.op = 5) := hop
  clear hop
  have hbl := hU.lt
  have hU1 := hU.alloc (.cells #[.int .u8 5, .int .u32 x.x, .int .u64 x.y] 42)
  have hE1 := (Ex.refl bv w').alloc (.cells #[.int .u8 5, .int .u32 x.x, .int .u64 x.y] 42)
  have HST : Hid (stepF M ps M.body.length k U x = elseF U k) := by show _ = _; simp [stepF, HOP.out]
  have ok1 := settledF_ok ok
  generalize hq : settledF U = q at *
  have HQ : Hid (settledF U = q) := hq
  clear hq
  cases hq1 : q.1
  · go_wp2_with (go_at_call 54; refine (settled_any bv U _ hU1 ok).mono ?_; rw [HQ.out, hq1]; rintro e w1 ⟨rfl, hV1, hE2⟩)
    exact hR.done hQ hlt HX.out _ (by rw [HST.out, elseF, HQ.out]; simp [hq1]) hV1 (hE1.trans hE2) rfl rfl rfl
  · go_wp2_with fail
    refine (settled_any bv U _ hU1 ok).mono ?_
    rw [HQ.out, hq1]
    rintro e w1 ⟨rfl, hV1, hE2⟩
    have cd := hV1.depth
    obtain ⟨j, hj⟩ : ∃ j, q.2.depth = j + 1 := ⟨q.2.depth - 1, by have := ok1.d1; omega⟩
    have hj7 : (j : Int) < 7 := by have := ok1.d7; omega
    have cd' : w1.cell? ⟨bv, 40, none⟩ = some (.int .i64 ((j : Int) + 1)) := by rw [cd, hj]; simp
    have c0 := hV1.cop j (by omega)
    have c3 := hV1.dead j (by omega)
    have z0 := hV1.frz (12 + j * 4)
    have z3 := hV1.frz (12 + j * 4 + 3)
    have HJ : Hid (q.2.depth = j + 1) := hj
    clear cd hj
    by_cases hj0 : j = 0
    · subst hj0
      have bj : (((0 : Nat) : Int) + 1 == 1) = true := by decide
      go_wp2
      exact hR.done hQ hlt HX.out _ (by rw [HST.out, elseF, HQ.out]; simp [hq1, HJ.out]) hV1 (hE1.trans hE2) rfl rfl rfl
    · have bj : ((j : Int) + 1 == 1) = false := by rw [beq_eq_false_iff_ne]; omega
      by_cases h4 : q.2.cop j = 4
      · rw [h4] at c0
        have H4 : Hid (q.2.cop j = 4) := h4
        clear h4
        go_wp2
        go_quiet (fail)
        go_wp2
        exact hR.next hlt HX.out _ (by rw [HST.out, elseF, HQ.out]; simp [hq1, HJ.out, hj0, H4.out]) (((hV1.drewN _).setCop j (by omega) 5).setDead j (by omega) false) ⟨ok1.d1, ok1.d7, ok1.h10, ok1.fl, ok1.mono⟩ ((((hE1.trans hE2).drewN _).setCell _ _).setCell _ _) rfl rfl rfl rfl rfl rfl rfl
      · have b4 : (q.2.cop j != 4) = true := by rw [bne_iff_ne]; exact h4
        have H4 : Hid (¬ q.2.cop j = 4) := h4
        clear h4
        go_wp2
        go_quiet (fail)
        go_wp2
        exact hR.done hQ hlt HX.out _ (by rw [HST.out, elseF, HQ.out]; simp [hq1, HJ.out, hj0, H4.out]) (hV1.drewN _) ((hE1.trans hE2).drewN _) rfl rfl rfl

set_option maxRecDepth 100000 in
set_option maxHeartbeats 1000000 in
theorem body_end (hc : BodyRound c) (hQ : BQ bv M R w Q) (hM : ModAt w' bv L M) (hR : BRel bv M ps R w k U w') (hlt : k < M.body.length) (hlen : M.body.length ≤ 1000) (hx : M.body.getD k ins0 = x) (hop : x.op = 11) : BGoal bv L M ps R w Q c s k w' := by
  unfold BGoal
  unfold BodyRound at hc
  simp only [Try.f30, Option.bind, firstLoop, Option.some.injEq] at hc
  subst hc
  have f2 := hM.f2
  have b0 := hM.b0 k hlt
  have b1 := hM.b1 k hlt
  have b2 := hM.b2 k hlt
  rw [hx] at b0 b1 b2
  have HX : Hid (M.body.getD k ins0 = x) := hx
  have hkl : (k : Int) < M.body.length := by omega
  have hU := hR.v
  have ok := hR.ok
  clear hx
  rw [hop] at b0
  have HOP : Hid (x.op = 11) := hop
  clear hop
  have hbl := hU.lt
  have hU1 := hU.alloc (.cells #[.int .u8 11, .int .u32 x.x, .int .u64 x.y] 42)
  have hE1 := (Ex.refl bv w').alloc (.cells #[.int .u8 11, .int .u32 x.x, .int .u64 x.y] 42)
  have HST : Hid (stepF M ps M.body.length k U x = endF U M.body.length k) := by show _ = _; simp [stepF, HOP.out]
  have ok1 := settledF_ok ok
  generalize hq : settledF U = q at *
  have HQ : Hid (settledF U = q) := hq
  clear hq
  cases hq1 : q.1
  · go_wp2_with (go_at_call 54; refine (settled_any bv U _ hU1 ok).mono ?_; rw [HQ.out, hq1]; rintro e w1 ⟨rfl, hV1, hE2⟩)
    exact hR.done hQ hlt HX.out _ (by rw [HST.out, endF, HQ.out]; simp [hq1]) hV1 (hE1.trans hE2) rfl rfl rfl
  · go_wp2_with fail
    refine (settled_any bv U _ hU1 ok).mono ?_
    rw [HQ.out, hq1]
    rintro e w1 ⟨rfl, hV1, hE2⟩
    have cd := hV1.depth
    obtain ⟨j, hj⟩ : ∃ j, q.2.depth = j + 1 := ⟨q.2.depth - 1, by have := ok1.d1; omega⟩
    have hj7 : (j : Int) < 7 := by have := ok1.d7; omega
    have cd' : w1.cell? ⟨bv, 40, none⟩ = some (.int .i64 ((j : Int) + 1)) := by rw [cd, hj]; simp
    have c0 := hV1.cop j (by omega)
    have c1 := hV1.res j (by omega)
    have z0 := hV1.frz 40
    have HJ : Hid (q.2.depth = j + 1) := hj
    have hE3 := hE1.trans hE2
    have f2' := (hM.ex hE3).f2
    clear cd hj
    by_cases h4 : q.2.cop j = 4 ∧ q.2.res j ≠ 64
    · have b4 : (q.2.cop j == 4) = true := by rw [beq_iff_eq]; exact h4.1
      have b5 : (q.2.res j != 64) = true := by rw [bne_iff_ne]; exact h4.2
      have H4 : Hid (q.2.cop j = 4 ∧ q.2.res j ≠ 64) := h4
      clear h4
      go_wp2
      go_quiet (fail)
      go_wp2
      exact hR.done hQ hlt HX.out _ (by rw [HST.out, endF, HQ.out]; simp [hq1, HJ.out, H4.out]) (hV1.drewN _) (hE3.drewN _) rfl rfl rfl
    · have H4 : Hid (¬ (q.2.cop j = 4 ∧ q.2.res j ≠ 64)) := h4
      have hdis : ((q.2.cop j == 4) = false) ∨ ((q.2.cop j == 4) = true ∧ (q.2.res j != 64) = false) := by
        by_cases e : q.2.cop j = 4
        · refine .inr ⟨by rw [beq_iff_eq]; exact e, ?_⟩
          rw [bne_eq_false_iff_eq]
          exact Classical.not_not.1 (fun h => h4 ⟨e, h⟩)
        · exact .inl (by rw [beq_eq_false_iff_ne]; exact e)
      clear h4
      have hend : ∀ n, VAt ((w1.drewN n).setCell ⟨bv, 40, none⟩ (.int .i64 (j : Int))) bv { q.2 with depth := j } := fun n => (hV1.drewN n).setDepth j _ rfl
      by_cases hj0 : j = 0
      · subst hj0
        by_cases hn : k + 1 = M.body.length
        · have bn : ((k : Int) + 1 != (M.body.length : Int)) = false := by rw [bne_eq_false_iff_eq]; omega
          have HN : Hid (k + 1 = M.body.length) := hn
          clear hn
          rcases hdis with d1 | ⟨d1, d2⟩
          · go_wp2
            go_quiet (fail)
            go_wp2
            exact hR.done hQ hlt HX.out _ (by rw [HST.out, endF, HQ.out]; simp [hq1, HJ.out, H4.out, HN.out]) (hend _) ((hE3.drewN _).setCell _ _) rfl rfl rfl
          · go_wp2
            go_quiet (fail)
            go_wp2
            exact hR.done hQ hlt HX.out _ (by rw [HST.out, endF, HQ.out]; simp [hq1, HJ.out, H4.out, HN.out]) (hend _) ((hE3.drewN _).setCell _ _) rfl rfl rfl
        · have bn : ((k : Int) + 1 != (M.body.length : Int)) = true := by rw [bne_iff_ne]; omega
          have HN : Hid (¬ k + 1 = M.body.length) := hn
          clear hn
          rcases hdis with d1 | ⟨d1, d2⟩
          · go_wp2
            go_quiet (fail)
            go_wp2
            exact hR.done hQ hlt HX.out _ (by rw [HST.out, endF, HQ.out]; simp [hq1, HJ.out, H4.out, HN.out]) (hend _) ((hE3.drewN _).setCell _ _) rfl rfl rfl
          · go_wp2
            go_quiet (fail)
            go_wp2
            exact hR.done hQ hlt HX.out _ (by rw [HST.out, endF, HQ.out]; simp [hq1, HJ.out, H4.out, HN.out]) (hend _) ((hE3.drewN _).setCell _ _) rfl rfl rfl
      · have bj : ((j : Int) == 0) = false := by rw [beq_eq_false_iff_ne]; omega
        have HS2 : Hid (stepF M ps M.body.length k U x = after k (q.2.res j, 0, { q.2 with depth := j })) := by show _ = _; rw [HST.out, endF, HQ.out]; simp [hq1, HJ.out, H4.out, hj0]
        have okj : VS.Ok { q.2 with depth := j } := by
          have hj' := HJ.out
          refine ⟨by simp only []; omega, by simp only []; omega, ok1.h10, ?_, fun a b hab hb => ok1.mono a b hab (by simp only [] at hb; omega)⟩
          have m := ok1.mono (j - 1) j (by omega) (by omega)
          have f := ok1.fl
          rw [hj', Nat.add_sub_cancel] at f
          simp only []
          omega
        generalize hW : ({ q.2 with depth := j } : VS) = W at *
        rcases hdis with d1 | ⟨d1, d2⟩
        · by_cases hg : q.2.res j = 64
          · have bg : (q.2.res j != 64) = false := by rw [bne_eq_false_iff_eq]; exact hg
            have HG : Hid (q.2.res j = 64) := hg
            clear hg
            go_wp2
            go_quiet (fail)
            go_wp2
            exact hR.next hlt HX.out _ (by rw [HS2.out]; exact after_none _ _ rfl HG.out) (hend _) okj ((hE3.drewN _).setCell _ _) rfl rfl rfl rfl rfl rfl rfl
          · have bg : (q.2.res j != 64) = true := by rw [bne_iff_ne]; exact hg
            have HG : Hid (¬ q.2.res j = 64) := hg
            clear hg
            have ok9 := pushF_ok okj (q.2.res j)
            generalize hp : pushF W (q.2.res j) = p at *
            have HP : Hid (pushF W (q.2.res j) = p) := hp
            clear hp
            cases hp1 : p.1
            · go_wp2
              go_quiet (fail)
              go_wp2_with (go_at_call 58; refine (push_any bv W (q.2.res j) _ ?_).mono ?_; exact (hend _); rw [HP.out, hp1]; rintro e w9 ⟨rfl, hV9, hE9⟩)
              exact hR.done hQ hlt HX.out _ (by rw [HS2.out, after_deep _ _ rfl HG.out (by show (pushF W (q.2.res j)).1 = false; rw [HP.out]; exact hp1)]; show (_, (pushF W (q.2.res j)).2) = _; rw [HP.out]) hV9 (((hE3.drewN _).setCell _ _).trans hE9) rfl rfl rfl
            · go_wp2
              go_quiet (fail)
              go_wp2_with (go_at_call 58; refine (push_any bv W (q.2.res j) _ ?_).mono ?_; exact (hend _); rw [HP.out, hp1]; rintro e w9 ⟨rfl, hV9, hE9⟩)
              exact hR.next hlt HX.out _ (by rw [HS2.out, after_push _ _ rfl HG.out (by show (pushF W (q.2.res j)).1 = true; rw [HP.out]; exact hp1)]; show (_, (pushF W (q.2.res j)).2) = _; rw [HP.out]) hV9 ok9 (((hE3.drewN _).setCell _ _).trans hE9) rfl rfl rfl rfl rfl rfl rfl
        · have HG : Hid (q.2.res j = 64) := by show _ = _; simpa using d2
          go_wp2
          go_quiet (fail)
          go_wp2
          exact hR.next hlt HX.out _ (by rw [HS2.out]; exact after_none _ _ rfl HG.out) (hend _) okj ((hE3.drewN _).setCell _ _) rfl rfl rfl rfl rfl rfl rfl

end
end Go.Proofs.Qxb6500273a
