/-
  body's loop: nop, unreachable, return, block, loop
-/
import Derived.Test.Qxb6500273aBodyA
set_option linter.unusedVariables false
set_option linter.unusedSimpArgs false
namespace Go.Proofs.Qxb6500273a
open Go.RowKit
section
variable (bv : Nat) (L : Lay) (M : Md) (ps : List UInt8) (R : (Int × Int) × VS) (w : World) (Q : Exit → Act → World → Prop) (c : Code) (k : Nat) (U : VS) (s : Nat → Value) (w' : World) (x : Insn)

set_option maxRecDepth 100000 in
set_option maxHeartbeats 1000000 in
theorem body_nop (hc : BodyRound c) (hQ : BQ bv M R w Q) (hM : ModAt w' bv L M) (hR : BRel bv M ps R w k U w') (hlt : k < M.body.length) (hlen : M.body.length ≤ 1000) (hx : M.body.getD k ins0 = x) (hop : x.op = 1) : BGoal bv L M ps R w Q c s k w' := by
  unfold BGoal
  unfold BodyRound at hc
  simp only [Try.f30, Option.bind, firstLoop, Option.some.injEq] at hc
  subst hc
  have f2 := hM.f2
  have b0 := hM.b0 k hlt
  have b1 := hM.b1 k hlt
  have b2 := hM.b2 k hlt
  rw [hx] at b0 b1 b2
  have HX : Hid (M.body.getD k ins0 = x) := hx
  have hkl : (k : Int) < M.body.length := by omega
  have hU := hR.v
  have ok := hR.ok
  clear hx
  rw [hop] at b0
  have HOP : Hid (x.op = 1) := hop
  clear hop
  have hU1 := hU.alloc (.cells #[.int .u8 1, .int .u32 x.x, .int .u64 x.y] 42)
  have hE1 := (Ex.refl bv w').alloc (.cells #[.int .u8 1, .int .u32 x.x, .int .u64 x.y] 42)
  have hst : stepF M ps M.body.length k U x = (none, U) := by simp [stepF, HOP.out]
  have HST : Hid (stepF M ps M.body.length k U x = (none, U)) := hst
  clear hst
  go_wp2
  exact hR.next hlt HX.out _ HST.out hU1 ok hE1 rfl rfl rfl rfl rfl rfl rfl

set_option maxRecDepth 100000 in
set_option maxHeartbeats 1000000 in
theorem body_unreachable (hc : BodyRound c) (hQ : BQ bv M R w Q) (hM : ModAt w' bv L M) (hR : BRel bv M ps R w k U w') (hlt : k < M.body.length) (hlen : M.body.length ≤ 1000) (hx : M.body.getD k ins0 = x) (hop : x.op = 0) : BGoal bv L M ps R w Q c s k w' := by
  unfold BGoal
  unfold BodyRound at hc
  simp only [Try.f30, Option.bind, firstLoop, Option.some.injEq] at hc
  subst hc
  have f2 := hM.f2
  have b0 := hM.b0 k hlt
  have b1 := hM.b1 k hlt
  have b2 := hM.b2 k hlt
  rw [hx] at b0 b1 b2
  have HX : Hid (M.body.getD k ins0 = x) := hx
  have hkl : (k : Int) < M.body.length := by omega
  have hU := hR.v
  have ok := hR.ok
  clear hx
  rw [hop] at b0
  have HOP : Hid (x.op = 0) := hop
  clear hop
  have hU1 := hU.alloc (.cells #[.int .u8 0, .int .u32 x.x, .int .u64 x.y] 42)
  have hE1 := (Ex.refl bv w').alloc (.cells #[.int .u8 0, .int .u32 x.x, .int .u64 x.y] 42)
  have HST : Hid (stepF M ps M.body.length k U x = (none, cutF U)) := by show _ = _; simp [stepF, HOP.out]
  go_wp2_with (go_at_call 52; refine (cut_any bv U _ hU1 ok).mono ?_; rintro e w1 ⟨rfl, hV1, hE2⟩)
  exact hR.next hlt HX.out _ HST.out hV1 (cutF_ok ok) (hE1.trans hE2) rfl rfl rfl rfl rfl rfl rfl

set_option maxRecDepth 100000 in
set_option maxHeartbeats 1000000 in
theorem body_return (hc : BodyRound c) (hQ : BQ bv M R w Q) (hM : ModAt w' bv L M) (hR : BRel bv M ps R w k U w') (hlt : k < M.body.length) (hlen : M.body.length ≤ 1000) (hx : M.body.getD k ins0 = x) (hop : x.op = 15) : BGoal bv L M ps R w Q c s k w' := by
  unfold BGoal
  unfold BodyRound at hc
  simp only [Try.f30, Option.bind, firstLoop, Option.some.injEq] at hc
  subst hc
  have f2 := hM.f2
  have b0 := hM.b0 k hlt
  have b1 := hM.b1 k hlt
  have b2 := hM.b2 k hlt
  rw [hx] at b0 b1 b2
  have HX : Hid (M.body.getD k ins0 = x) := hx
  have hkl : (k : Int) < M.body.length := by omega
  have hU := hR.v
  have ok := hR.ok
  clear hx
  rw [hop] at b0
  have HOP : Hid (x.op = 15) := hop
  clear hop
  have hU1 := hU.alloc (.cells #[.int .u8 15, .int .u32 x.x, .int .u64 x.y] 42)
  have hE1 := (Ex.refl bv w').alloc (.cells #[.int .u8 15, .int .u32 x.x, .int .u64 x.y] 42)
  have HST : Hid (stepF M ps M.body.length k U x = retF U k) := by show _ = _; simp [stepF, HOP.out]
  have r0 := hU1.res 0 (by omega)
  have ok1 := carryF_ok ok (U.res 0)
  generalize hq : carryF U (U.res 0) = q at *
  have HQ : Hid (carryF U (U.res 0) = q) := hq
  clear hq
  cases hq1 : q.1
  · go_wp2_with (go_at_call 53; refine (carry_any bv U (U.res 0) _ hU1 ok).mono ?_; rw [HQ.out, hq1]; rintro e w1 ⟨rfl, hV1, hE2⟩)
    exact hR.done hQ hlt HX.out _ (by rw [HST.out, retF, HQ.out]; simp [hq1]) hV1 (hE1.trans hE2) rfl rfl rfl
  · go_wp2_with (first | (go_at_call 53; refine (carry_any bv U (U.res 0) _ hU1 ok).mono ?_; rw [HQ.out, hq1]; rintro e w1 ⟨rfl, hV1, hE2⟩) | (go_at_call 52; refine (cut_any bv q.2 _ hV1 ok1).mono ?_; rintro e w2 ⟨rfl, hV2, hE3⟩))
    exact hR.next hlt HX.out _ (by rw [HST.out, retF, HQ.out]; simp [hq1]) hV2 (cutF_ok ok1) ((hE1.trans hE2).trans hE3) rfl rfl rfl rfl rfl rfl rfl

set_option maxRecDepth 100000 in
set_option maxHeartbeats 1000000 in
theorem body_open2 (hc : BodyRound c) (hQ : BQ bv M R w Q) (hM : ModAt w' bv L M) (hR : BRel bv M ps R w k U w') (hlt : k < M.body.length) (hlen : M.body.length ≤ 1000) (hx : M.body.getD k ins0 = x) (hop : x.op = 2) : BGoal bv L M ps R w Q c s k w' := by
  unfold BGoal
  unfold BodyRound at hc
  simp only [Try.f30, Option.bind, firstLoop, Option.some.injEq] at hc
  subst hc
  have f2 := hM.f2
  have b0 := hM.b0 k hlt
  have b1 := hM.b1 k hlt
  have b2 := hM.b2 k hlt
  rw [hx] at b0 b1 b2
  have HX : Hid (M.body.getD k ins0 = x) := hx
  have hkl : (k : Int) < M.body.length := by omega
  have hU := hR.v
  have ok := hR.ok
  clear hx
  rw [hop] at b0
  have HOP : Hid (x.op = 2) := hop
  clear hop
  have hU1 := hU.alloc (.cells #[.int .u8 2, .int .u32 x.x, .int .u64 x.y] 42)
  have hE1 := (Ex.refl bv w').alloc (.cells #[.int .u8 2, .int .u32 x.x, .int .u64 x.y] 42)
  have HST : Hid (stepF M ps M.body.length k U x = openF U k x) := by show _ = _; simp [stepF, HOP.out]
  have cd := hU1.depth
  have cz := hU1.frz 40
  by_cases h6 : 6 < U.depth
  · go_wp2
    exact hR.done hQ hlt HX.out _ (by rw [HST.out, openF, if_pos h6]) hU1 hE1 rfl rfl rfl
  · have h7 : (U.depth : Int) < 7 := by omega
    have c0 := hU1.cop U.depth (by omega)
    have c1 := hU1.res U.depth (by omega)
    have c2 := hU1.flr U.depth (by omega)
    have c3 := hU1.dead U.depth (by omega)
    have ch := hU1.height
    have z0 := hU1.frz (12 + U.depth * 4)
    have z1 := hU1.frz (12 + U.depth * 4 + 1)
    have z2 := hU1.frz (12 + U.depth * 4 + 2)
    have z3 := hU1.frz (12 + U.depth * 4 + 3)
    have nb : ¬ bv = w'.heap.size := by have := hU.lt; omega
    have nb2 : ¬ w'.heap.size = bv := by omega
    have hw8 : IntKind.u8.wrap x.x = x.x % 256 := IntKind.wrap_u8 _
    have HW8 : Hid (IntKind.u8.wrap x.x = x.x % 256) := hw8
    clear hw8
    go_wp2
    go_region_held3 (fun u => u.cell? ⟨bv, 40, none⟩ = some (.int .i64 (U.depth : Int)) ∧ u.cell? ⟨w'.heap.size, 0, none⟩ = some (.int .u8 2) ∧ u.cell? ⟨w'.heap.size, 1, none⟩ = some (.int .u32 x.x) ∧ u.cell? ⟨bv, 11, none⟩ = some (.int .i64 (U.height : Int))) (first | (go_keep; done) | (refine ⟨?_, ?_, ?_, ?_⟩ <;> simp only [World.cell?_drew] <;> (repeat (first | rw [cell_past (by omega)] | rw [cell_apart (by omega)])) <;> (first | assumption | simp))) (fail)
    have y1 := hU1.setCop U.depth (by omega) 2
    have y2 := y1.setRes U.depth (by omega) (IntKind.u8.wrap x.x)
    have y3 := y2.setFlr U.depth (by omega) U.height _ rfl
    have y4 := y3.setDead U.depth (by omega) false
    have yd := y4.depth
    have yz := y4.frz 40
    simp only [] at yd
    go_wp2
    exact hR.next hlt HX.out _ (by rw [HST.out, openF, if_neg h6, HOP.out, ← HW8.out]) ((y4.setDepth (U.depth + 1) _ (by omega)).drew) (openF_ok ok (by omega) _ _) ((((((hE1.setCell _ _).setCell _ _).setCell _ _).setCell _ _).setCell _ _).drew) rfl rfl rfl rfl rfl rfl rfl

set_option maxRecDepth 100000 in
set_option maxHeartbeats 1000000 in
theorem body_open3 (hc : BodyRound c) (hQ : BQ bv M R w Q) (hM : ModAt w' bv L M) (hR : BRel bv M ps R w k U w') (hlt : k < M.body.length) (hlen : M.body.length ≤ 1000) (hx : M.body.getD k ins0 = x) (hop : x.op = 3) : BGoal bv L M ps R w Q c s k w' := by
  unfold BGoal
  unfold BodyRound at hc
  simp only [Try.f30, Option.bind, firstLoop, Option.some.injEq] at hc
  subst hc
  have f2 := hM.f2
  have b0 := hM.b0 k hlt
  have b1 := hM.b1 k hlt
  have b2 := hM.b2 k hlt
  rw [hx] at b0 b1 b2
  have HX : Hid (M.body.getD k ins0 = x) := hx
  have hkl : (k : Int) < M.body.length := by omega
  have hU := hR.v
  have ok := hR.ok
  clear hx
  rw [hop] at b0
  have HOP : Hid (x.op = 3) := hop
  clear hop
  have hU1 := hU.alloc (.cells #[.int .u8 3, .int .u32 x.x, .int .u64 x.y] 42)
  have hE1 := (Ex.refl bv w').alloc (.cells #[.int .u8 3, .int .u32 x.x, .int .u64 x.y] 42)
  have HST : Hid (stepF M ps M.body.length k U x = openF U k x) := by show _ = _; simp [stepF, HOP.out]
  have cd := hU1.depth
  have cz := hU1.frz 40
  by_cases h6 : 6 < U.depth
  · go_wp2
    exact hR.done hQ hlt HX.out _ (by rw [HST.out, openF, if_pos h6]) hU1 hE1 rfl rfl rfl
  · have h7 : (U.depth : Int) < 7 := by omega
    have c0 := hU1.cop U.depth (by omega)
    have c1 := hU1.res U.depth (by omega)
    have c2 := hU1.flr U.depth (by omega)
    have c3 := hU1.dead U.depth (by omega)
    have ch := hU1.height
    have z0 := hU1.frz (12 + U.depth * 4)
    have z1 := hU1.frz (12 + U.depth * 4 + 1)
    have z2 := hU1.frz (12 + U.depth * 4 + 2)
    have z3 := hU1.frz (12 + U.depth * 4 + 3)
    have nb : ¬ bv = w'.heap.size := by have := hU.lt; omega
    have nb2 : ¬ w'.heap.size = bv := by omega
    have hw8 : IntKind.u8.wrap x.x = x.x % 256 := IntKind.wrap_u8 _
    have HW8 : Hid (IntKind.u8.wrap x.x = x.x % 256) := hw8
    clear hw8
    go_wp2
    go_region_held3 (fun u => u.cell? ⟨bv, 40, none⟩ = some (.int .i64 (U.depth : Int)) ∧ u.cell? ⟨w'.heap.size, 0, none⟩ = some (.int .u8 3) ∧ u.cell? ⟨w'.heap.size, 1, none⟩ = some (.int .u32 x.x) ∧ u.cell? ⟨bv, 11, none⟩ = some (.int .i64 (U.height : Int))) (first | (go_keep; done) | (refine ⟨?_, ?_, ?_, ?_⟩ <;> simp only [World.cell?_drew] <;> (repeat (first | rw [cell_past (by omega)] | rw [cell_apart (by omega)])) <;> (first | assumption | simp))) (fail)
    have y1 := hU1.setCop U.depth (by omega) 3
    have y2 := y1.setRes U.depth (by omega) (IntKind.u8.wrap x.x)
    have y3 := y2.setFlr U.depth (by omega) U.height _ rfl
    have y4 := y3.setDead U.depth (by omega) false
    have yd := y4.depth
    have yz := y4.frz 40
    simp only [] at yd
    go_wp2
    exact hR.next hlt HX.out _ (by rw [HST.out, openF, if_neg h6, HOP.out, ← HW8.out]) ((y4.setDepth (U.depth + 1) _ (by omega)).drew) (openF_ok ok (by omega) _ _) ((((((hE1.setCell _ _).setCell _ _).setCell _ _).setCell _ _).setCell _ _).drew) rfl rfl rfl rfl rfl rfl rfl

end
end Go.Proofs.Qxb6500273a
