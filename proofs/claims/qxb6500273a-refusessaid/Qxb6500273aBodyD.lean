/-
  body's loop: br, br_if, what turns no control
-/
import Derived.Test.Qxb6500273aBodyA
set_option linter.unusedVariables false
set_option linter.unusedSimpArgs false
namespace Go.Proofs.Qxb6500273a
open Go.RowKit
section
variable (bv : Nat) (L : Lay) (M : Md) (ps : List UInt8) (R : (Int × Int) × VS) (w : World) (Q : Exit → Act → World → Prop) (c : Code) (k : Nat) (U : VS) (s : Nat → Value) (w' : World) (x : Insn)

set_option maxRecDepth 100000 in
set_option maxHeartbeats 1000000 in
theorem body_br (hc : BodyRound c) (hQ : BQ bv M R w Q) (hM : ModAt w' bv L M) (hR : BRel bv M ps R w k U w') (hlt : k < M.body.length) (hlen : M.body.length ≤ 1000) (hx : M.body.getD k ins0 = x) (hop : x.op = 12) (h0 : 0 ≤ x.x) (h1 : x.x ≤ 4294967295) : BGoal bv L M ps R w Q c s k w' := by
  unfold BGoal
  unfold BodyRound at hc
  simp only [Try.f30, Option.bind, firstLoop, Option.some.injEq] at hc
  subst hc
  have f2 := hM.f2
  have b0 := hM.b0 k hlt
  have b1 := hM.b1 k hlt
  have b2 := hM.b2 k hlt
  rw [hx] at b0 b1 b2
  have HX : Hid (M.body.getD k ins0 = x) := hx
  have hkl : (k : Int) < M.body.length := by omega
  have hU := hR.v
  have ok := hR.ok
  clear hx
  rw [hop] at b0
  have HOP : Hid (x.op = 12) := hop
  clear hop
  have hbl := hU.lt
  have hU1 := hU.alloc (.cells #[.int .u8 12, .int .u32 x.x, .int .u64 x.y] 42)
  have hE1 := (Ex.refl bv w').alloc (.cells #[.int .u8 12, .int .u32 x.x, .int .u64 x.y] 42)
  have HST : Hid (stepF M ps M.body.length k U x = brF U k x) := by show _ = _; simp [stepF, HOP.out]
  have cd := hU1.depth
  have hd7 := ok.d7
  by_cases hb : (U.depth : Int) ≤ x.x
  · go_wp2
    go_quiet (fail)
    go_wp2
    exact hR.done hQ hlt HX.out _ (by rw [HST.out, brF, if_pos hb]) (hU1.drewN _) (hE1.drewN _) rfl rfl rfl
  · have ok1 := carryF_ok ok (labelF U x.x.toNat)
    generalize hl : labelF U x.x.toNat = l at *
    have HL : Hid (labelF U x.x.toNat = l) := hl
    generalize hq : carryF U l = q at *
    have HQ : Hid (carryF U l = q) := hq
    have HB : Hid (¬ (U.depth : Int) ≤ x.x) := hb
    clear hq hl
    cases hq1 : q.1
    · go_wp2
      go_quiet (fail)
      go_wp2_with (first | (go_at_call 55; refine (label_any bv U x.x _ ?_ ok h0 (by omega)).mono ?_; exact hU1.drewN _; rw [HL.out]; rintro e w1 ⟨rfl, n, rfl⟩) | (go_at_call 53; refine (carry_any bv U l _ ?_ ok).mono ?_; exact hU1.drewN _; rw [HQ.out, hq1]; rintro e w2 ⟨rfl, hV2, hE2⟩))
      exact hR.done hQ hlt HX.out _ (by rw [HST.out, brF, if_neg (by have := HB.out; omega), HL.out, HQ.out]; simp [hq1]) hV2 ((hE1.drewN _).trans hE2) rfl rfl rfl
    · go_wp2
      go_quiet (fail)
      go_wp2_with (first | (go_at_call 55; refine (label_any bv U x.x _ ?_ ok h0 (by omega)).mono ?_; exact hU1.drewN _; rw [HL.out]; rintro e w1 ⟨rfl, n, rfl⟩) | (go_at_call 53; refine (carry_any bv U l _ ?_ ok).mono ?_; exact hU1.drewN _; rw [HQ.out, hq1]; rintro e w2 ⟨rfl, hV2, hE2⟩) | (go_at_call 52; refine (cut_any bv q.2 _ hV2 ok1).mono ?_; rintro e w3 ⟨rfl, hV3, hE3⟩))
      exact hR.next hlt HX.out _ (by rw [HST.out, brF, if_neg (by have := HB.out; omega), HL.out, HQ.out]; simp [hq1]) hV3 (cutF_ok ok1) (((hE1.drewN _).trans hE2).trans hE3) rfl rfl rfl rfl rfl rfl rfl

set_option maxRecDepth 100000 in
set_option maxHeartbeats 1000000 in
theorem body_brif (hc : BodyRound c) (hQ : BQ bv M R w Q) (hM : ModAt w' bv L M) (hR : BRel bv M ps R w k U w') (hlt : k < M.body.length) (hlen : M.body.length ≤ 1000) (hx : M.body.getD k ins0 = x) (hop : x.op = 13) (h0 : 0 ≤ x.x) (h1 : x.x ≤ 4294967295) : BGoal bv L M ps R w Q c s k w' := by
  unfold BGoal
  unfold BodyRound at hc
  simp only [Try.f30, Option.bind, firstLoop, Option.some.injEq] at hc
  subst hc
  have f2 := hM.f2
  have b0 := hM.b0 k hlt
  have b1 := hM.b1 k hlt
  have b2 := hM.b2 k hlt
  rw [hx] at b0 b1 b2
  have HX : Hid (M.body.getD k ins0 = x) := hx
  have hkl : (k : Int) < M.body.length := by omega
  have hU := hR.v
  have ok := hR.ok
  clear hx
  rw [hop] at b0
  have HOP : Hid (x.op = 13) := hop
  clear hop
  have hbl := hU.lt
  have hU1 := hU.alloc (.cells #[.int .u8 13, .int .u32 x.x, .int .u64 x.y] 42)
  have hE1 := (Ex.refl bv w').alloc (.cells #[.int .u8 13, .int .u32 x.x, .int .u64 x.y] 42)
  have HST : Hid (stepF M ps M.body.length k U x = brIfF U k x) := by show _ = _; simp [stepF, HOP.out]
  have oka := carryF_ok ok 127
  generalize hqa : carryF U 127 = qa at *
  have HQA : Hid (carryF U 127 = qa) := hqa
  clear hqa
  cases hqa1 : qa.1
  · go_wp2_with (go_at_call 53; refine (carry_any bv U 127 _ hU1 ok).mono ?_; rw [HQA.out, hqa1]; rintro e w1 ⟨rfl, hV1, hE2⟩)
    exact hR.done hQ hlt HX.out _ (by rw [HST.out, brIfF, HQA.out]; simp [hqa1]) hV1 (hE1.trans hE2) rfl rfl rfl
  · go_wp2_with fail
    refine (carry_any bv U 127 _ hU1 ok).mono ?_
    rw [HQA.out, hqa1]
    rintro e w1 ⟨rfl, hV1, hE2⟩
    have cd := hV1.depth
    have hd7 := oka.d7
    have x1 := box_cell hE2 hbl 1 _ rfl
    have hE3 := hE1.trans hE2
    by_cases hb : (qa.2.depth : Int) ≤ x.x
    · go_wp2
      go_quiet (fail)
      go_wp2
      exact hR.done hQ hlt HX.out _ (by rw [HST.out, brIfF, HQA.out]; simp [hqa1, hb]) (hV1.drewN _) (hE3.drewN _) rfl rfl rfl
    · have ok1 := carryF_ok oka (labelF qa.2 x.x.toNat)
      generalize hl : labelF qa.2 x.x.toNat = l at *
      have HL : Hid (labelF qa.2 x.x.toNat = l) := hl
      generalize hq : carryF qa.2 l = q at *
      have HQ : Hid (carryF qa.2 l = q) := hq
      have HB : Hid (¬ (qa.2.depth : Int) ≤ x.x) := hb
      clear hq hl
      cases hq1 : q.1
      · go_wp2
        go_quiet (fail)
        go_wp2_with (first | (go_at_call 55; refine (label_any bv qa.2 x.x _ ?_ oka h0 (by omega)).mono ?_; exact hV1.drewN _; rw [HL.out]; rintro e w2 ⟨rfl, n, rfl⟩) | (go_at_call 53; refine (carry_any bv qa.2 l _ ?_ oka).mono ?_; exact hV1.drewN _; rw [HQ.out, hq1]; rintro e w3 ⟨rfl, hV3, hE4⟩))
        exact hR.done hQ hlt HX.out _ (by rw [HST.out, brIfF, HQA.out]; simp [hqa1, HB.out, HL.out, HQ.out, hq1]) hV3 ((hE3.drewN _).trans hE4) rfl rfl rfl
      · have HS2 : Hid (stepF M ps M.body.length k U x = after k (l, 0, q.2)) := by show _ = _; rw [HST.out, brIfF, HQA.out]; simp [hqa1, HB.out, HL.out, HQ.out, hq1]
        go_wp2
        go_quiet (fail)
        go_wp2_with fail
        refine (label_any bv qa.2 x.x _ (hV1.drewN _) oka h0 (by omega)).mono ?_
        rw [HL.out]
        rintro e w2 ⟨rfl, n, rfl⟩
        go_wp2_with fail
        refine (carry_any bv qa.2 l _ ?_ oka).mono ?_
        · exact hV1.drewN _
        rw [HQ.out, hq1]
        rintro e w3 ⟨rfl, hV3, hE4⟩
        have hE5 := (hE3.drewN _).trans hE4
        by_cases hg : l = 64
        · have bg : (l != 64) = false := by rw [bne_eq_false_iff_eq]; exact hg
          have HG : Hid (l = 64) := hg
          clear hg
          go_wp2
          exact hR.next hlt HX.out _ (by rw [HS2.out]; exact after_none _ _ rfl HG.out) hV3 ok1 hE5 rfl rfl rfl rfl rfl rfl rfl
        · have bg : (l != 64) = true := by rw [bne_iff_ne]; exact hg
          have HG : Hid (¬ l = 64) := hg
          clear hg
          have ok9 := pushF_ok ok1 (l)
          generalize hp : pushF q.2 (l) = p at *
          have HP : Hid (pushF q.2 (l) = p) := hp
          clear hp
          cases hp1 : p.1
          · go_wp2_with (go_at_call 58; refine (push_any bv q.2 (l) _ ?_).mono ?_; exact hV3; rw [HP.out, hp1]; rintro e w9 ⟨rfl, hV9, hE9⟩)
            exact hR.done hQ hlt HX.out _ (by rw [HS2.out, after_deep _ _ rfl HG.out (by show (pushF q.2 (l)).1 = false; rw [HP.out]; exact hp1)]; show (_, (pushF q.2 (l)).2) = _; rw [HP.out]) hV9 (hE5.trans hE9) rfl rfl rfl
          · go_wp2_with (go_at_call 58; refine (push_any bv q.2 (l) _ ?_).mono ?_; exact hV3; rw [HP.out, hp1]; rintro e w9 ⟨rfl, hV9, hE9⟩)
            exact hR.next hlt HX.out _ (by rw [HS2.out, after_push _ _ rfl HG.out (by show (pushF q.2 (l)).1 = true; rw [HP.out]; exact hp1)]; show (_, (pushF q.2 (l)).2) = _; rw [HP.out]) hV9 ok9 (hE5.trans hE9) rfl rfl rfl rfl rfl rfl rfl

set_option maxRecDepth 100000 in
set_option maxHeartbeats 1000000 in
theorem body_dflt0 (hc : BodyRound c) (hQ : BQ bv M R w Q) (hM : ModAt w' bv L M) (hR : BRel bv M ps R w k U w') (hlt : k < M.body.length) (hlen : M.body.length ≤ 1000) (hx : M.body.getD k ins0 = x) (hps : ps.length ≤ 1000) (ht : M.t1.length ≤ 1000) (o0 : 6 ≤ x.op) (o1 : x.op ≤ 10) (h0 : 0 ≤ x.x) (h1 : x.x ≤ 4294967295) : BGoal bv L M ps R w Q c s k w' := by
  unfold BGoal
  unfold BodyRound at hc
  simp only [Try.f30, Option.bind, firstLoop, Option.some.injEq] at hc
  subst hc
  have f2 := hM.f2
  have b0 := hM.b0 k hlt
  have b1 := hM.b1 k hlt
  have b2 := hM.b2 k hlt
  rw [hx] at b0 b1 b2
  have HX : Hid (M.body.getD k ins0 = x) := hx
  have hkl : (k : Int) < M.body.length := by omega
  have hU := hR.v
  have ok := hR.ok
  clear hx
  have hbl := hU.lt
  have hU1 := hU.alloc (.cells #[.int .u8 x.op, .int .u32 x.x, .int .u64 x.y] 42)
  have hM1 := hM.alloc (.cells #[.int .u8 x.op, .int .u32 x.x, .int .u64 x.y] 42)
  have hE1 := (Ex.refl bv w').alloc (.cells #[.int .u8 x.op, .int .u32 x.x, .int .u64 x.y] 42)
  have HST : Hid (stepF M ps M.body.length k U x = after k (plainF M U ps x)) := by
    show _ = _
    unfold stepF
    rw [if_neg (by omega), if_neg (by omega), if_neg (by omega), if_neg (by omega), if_neg (by omega), if_neg (by omega), if_neg (by omega), if_neg (by omega), if_neg (by omega), if_neg (by omega)]
  have okp := plainF_ok M ok ps x
  have HC : ∀ wx, ModAt wx bv L M → VAt wx bv U → PlainSaid bv L M U ps x wx := fun wx a b => plain_any bv L M U ps x wx a b ok ht hps (by omega) (by omega) h0 h1
  unfold PlainSaid at HC
  generalize plainF M U ps x = r at *
  have q0 : (x.op == 0) = false := by rw [beq_eq_false_iff_ne]; omega
  have q1 : (x.op == 1) = false := by rw [beq_eq_false_iff_ne]; omega
  have q2 : (x.op == 2) = false := by rw [beq_eq_false_iff_ne]; omega
  have q3 : (x.op == 3) = false := by rw [beq_eq_false_iff_ne]; omega
  have q4 : (x.op == 4) = false := by rw [beq_eq_false_iff_ne]; omega
  have q5 : (x.op == 5) = false := by rw [beq_eq_false_iff_ne]; omega
  have q11 : (x.op == 11) = false := by rw [beq_eq_false_iff_ne]; omega
  have q12 : (x.op == 12) = false := by rw [beq_eq_false_iff_ne]; omega
  have q13 : (x.op == 13) = false := by rw [beq_eq_false_iff_ne]; omega
  have q14 : (x.op == 14) = false := by rw [beq_eq_false_iff_ne]; omega
  have q15 : (x.op == 15) = false := by rw [beq_eq_false_iff_ne]; omega
  generalize x.op = op at *
  have f1 := hM1.f1
  have x0 := World.cell?_alloc_new w' #[.int .u8 op, .int .u32 x.x, .int .u64 x.y] 42 0
  go_wp2
  go_region_held3 (fun u => u.cell? ⟨L.fb, 1, none⟩ = some (.string ⟨allFour.toArray⟩) ∧ u.cell? ⟨w'.heap.size, 0, none⟩ = some (.int .u8 op) ∧ u.cell? ⟨w'.heap.size, 1, none⟩ = some (.int .u32 x.x) ∧ u.cell? ⟨w'.heap.size, 2, none⟩ = some (.int .u64 x.y)) (first | exact ⟨((hM1.ex ((Ex.refl bv _).drew)).ex hE2).f1, box_cell (((Ex.refl bv _).drew).trans hE2) hbl 0 _ rfl, box_cell (((Ex.refl bv _).drew).trans hE2) hbl 1 _ rfl, box_cell (((Ex.refl bv _).drew).trans hE2) hbl 2 _ rfl⟩ | (go_keep; done) | (refine ⟨?_, ?_, ?_, ?_⟩ <;> simp only [World.cell?_drew] <;> (first | assumption | simp))) ((go_at_call 57; refine (HC _ ?_ ?_).mono ?_; exact hM1.ex ((Ex.refl bv _).drew); exact hU1.drew; rintro e w1 ⟨rfl, hV1, hE2⟩))
  have hE3 := (hE1.drew).trans hE2
  by_cases he : r.2.1 = 0
  · have be : (r.2.1 != 0) = false := by rw [bne_eq_false_iff_eq]; exact he
    have HE : Hid (r.2.1 = 0) := he
    clear he
    by_cases hg : r.1 = 64
    · have bg : (r.1 != 64) = false := by rw [bne_eq_false_iff_eq]; exact hg
      have HG : Hid (r.1 = 64) := hg
      clear hg
      go_wp2
      exact hR.next hlt HX.out _ (by rw [HST.out]; exact after_none _ _ HE.out HG.out) hV1 okp hE3 rfl rfl rfl rfl rfl rfl rfl
    · have bg : (r.1 != 64) = true := by rw [bne_iff_ne]; exact hg
      have HG : Hid (¬ r.1 = 64) := hg
      clear hg
      have ok9 := pushF_ok okp (r.1)
      generalize hp : pushF r.2.2 (r.1) = p at *
      have HP : Hid (pushF r.2.2 (r.1) = p) := hp
      clear hp
      cases hp1 : p.1
      · go_wp2_with (go_at_call 58; refine (push_any bv r.2.2 (r.1) _ ?_).mono ?_; exact hV1; rw [HP.out, hp1]; rintro e w9 ⟨rfl, hV9, hE9⟩)
        exact hR.done hQ hlt HX.out _ (by rw [HST.out, after_deep _ _ HE.out HG.out (by show (pushF r.2.2 (r.1)).1 = false; rw [HP.out]; exact hp1)]; show (_, (pushF r.2.2 (r.1)).2) = _; rw [HP.out]) hV9 (hE3.trans hE9) rfl rfl rfl
      · go_wp2_with (go_at_call 58; refine (push_any bv r.2.2 (r.1) _ ?_).mono ?_; exact hV1; rw [HP.out, hp1]; rintro e w9 ⟨rfl, hV9, hE9⟩)
        exact hR.next hlt HX.out _ (by rw [HST.out, after_push _ _ HE.out HG.out (by show (pushF r.2.2 (r.1)).1 = true; rw [HP.out]; exact hp1)]; show (_, (pushF r.2.2 (r.1)).2) = _; rw [HP.out]) hV9 ok9 (hE3.trans hE9) rfl rfl rfl rfl rfl rfl rfl
  · have be : (r.2.1 != 0) = true := by rw [bne_iff_ne]; exact he
    have HE : Hid (¬ r.2.1 = 0) := he
    clear he
    go_wp2
    exact hR.done hQ hlt HX.out _ (by rw [HST.out]; exact after_err _ _ HE.out) hV1 hE3 rfl rfl rfl

set_option maxRecDepth 100000 in
set_option maxHeartbeats 1000000 in
theorem body_dflt1 (hc : BodyRound c) (hQ : BQ bv M R w Q) (hM : ModAt w' bv L M) (hR : BRel bv M ps R w k U w') (hlt : k < M.body.length) (hlen : M.body.length ≤ 1000) (hx : M.body.getD k ins0 = x) (hps : ps.length ≤ 1000) (ht : M.t1.length ≤ 1000) (o0 : 16 ≤ x.op) (o1 : x.op ≤ 255) (h0 : 0 ≤ x.x) (h1 : x.x ≤ 4294967295) : BGoal bv L M ps R w Q c s k w' := by
  unfold BGoal
  unfold BodyRound at hc
  simp only [Try.f30, Option.bind, firstLoop, Option.some.injEq] at hc
  subst hc
  have f2 := hM.f2
  have b0 := hM.b0 k hlt
  have b1 := hM.b1 k hlt
  have b2 := hM.b2 k hlt
  rw [hx] at b0 b1 b2
  have HX : Hid (M.body.getD k ins0 = x) := hx
  have hkl : (k : Int) < M.body.length := by omega
  have hU := hR.v
  have ok := hR.ok
  clear hx
  have hbl := hU.lt
  have hU1 := hU.alloc (.cells #[.int .u8 x.op, .int .u32 x.x, .int .u64 x.y] 42)
  have hM1 := hM.alloc (.cells #[.int .u8 x.op, .int .u32 x.x, .int .u64 x.y] 42)
  have hE1 := (Ex.refl bv w').alloc (.cells #[.int .u8 x.op, .int .u32 x.x, .int .u64 x.y] 42)
  have HST : Hid (stepF M ps M.body.length k U x = after k (plainF M U ps x)) := by
    show _ = _
    unfold stepF
    rw [if_neg (by omega), if_neg (by omega), if_neg (by omega), if_neg (by omega), if_neg (by omega), if_neg (by omega), if_neg (by omega), if_neg (by omega), if_neg (by omega), if_neg (by omega)]
  have okp := plainF_ok M ok ps x
  have HC : ∀ wx, ModAt wx bv L M → VAt wx bv U → PlainSaid bv L M U ps x wx := fun wx a b => plain_any bv L M U ps x wx a b ok ht hps (by omega) (by omega) h0 h1
  unfold PlainSaid at HC
  generalize plainF M U ps x = r at *
  have q0 : (x.op == 0) = false := by rw [beq_eq_false_iff_ne]; omega
  have q1 : (x.op == 1) = false := by rw [beq_eq_false_iff_ne]; omega
  have q2 : (x.op == 2) = false := by rw [beq_eq_false_iff_ne]; omega
  have q3 : (x.op == 3) = false := by rw [beq_eq_false_iff_ne]; omega
  have q4 : (x.op == 4) = false := by rw [beq_eq_false_iff_ne]; omega
  have q5 : (x.op == 5) = false := by rw [beq_eq_false_iff_ne]; omega
  have q11 : (x.op == 11) = false := by rw [beq_eq_false_iff_ne]; omega
  have q12 : (x.op == 12) = false := by rw [beq_eq_false_iff_ne]; omega
  have q13 : (x.op == 13) = false := by rw [beq_eq_false_iff_ne]; omega
  have q14 : (x.op == 14) = false := by rw [beq_eq_false_iff_ne]; omega
  have q15 : (x.op == 15) = false := by rw [beq_eq_false_iff_ne]; omega
  generalize x.op = op at *
  have f1 := hM1.f1
  have x0 := World.cell?_alloc_new w' #[.int .u8 op, .int .u32 x.x, .int .u64 x.y] 42 0
  go_wp2
  go_region_held3 (fun u => u.cell? ⟨L.fb, 1, none⟩ = some (.string ⟨allFour.toArray⟩) ∧ u.cell? ⟨w'.heap.size, 0, none⟩ = some (.int .u8 op) ∧ u.cell? ⟨w'.heap.size, 1, none⟩ = some (.int .u32 x.x) ∧ u.cell? ⟨w'.heap.size, 2, none⟩ = some (.int .u64 x.y)) (first | exact ⟨((hM1.ex ((Ex.refl bv _).drew)).ex hE2).f1, box_cell (((Ex.refl bv _).drew).trans hE2) hbl 0 _ rfl, box_cell (((Ex.refl bv _).drew).trans hE2) hbl 1 _ rfl, box_cell (((Ex.refl bv _).drew).trans hE2) hbl 2 _ rfl⟩ | (go_keep; done) | (refine ⟨?_, ?_, ?_, ?_⟩ <;> simp only [World.cell?_drew] <;> (first | assumption | simp))) ((go_at_call 57; refine (HC _ ?_ ?_).mono ?_; exact hM1.ex ((Ex.refl bv _).drew); exact hU1.drew; rintro e w1 ⟨rfl, hV1, hE2⟩))
  have hE3 := (hE1.drew).trans hE2
  by_cases he : r.2.1 = 0
  · have be : (r.2.1 != 0) = false := by rw [bne_eq_false_iff_eq]; exact he
    have HE : Hid (r.2.1 = 0) := he
    clear he
    by_cases hg : r.1 = 64
    · have bg : (r.1 != 64) = false := by rw [bne_eq_false_iff_eq]; exact hg
      have HG : Hid (r.1 = 64) := hg
      clear hg
      go_wp2
      exact hR.next hlt HX.out _ (by rw [HST.out]; exact after_none _ _ HE.out HG.out) hV1 okp hE3 rfl rfl rfl rfl rfl rfl rfl
    · have bg : (r.1 != 64) = true := by rw [bne_iff_ne]; exact hg
      have HG : Hid (¬ r.1 = 64) := hg
      clear hg
      have ok9 := pushF_ok okp (r.1)
      generalize hp : pushF r.2.2 (r.1) = p at *
      have HP : Hid (pushF r.2.2 (r.1) = p) := hp
      clear hp
      cases hp1 : p.1
      · go_wp2_with (go_at_call 58; refine (push_any bv r.2.2 (r.1) _ ?_).mono ?_; exact hV1; rw [HP.out, hp1]; rintro e w9 ⟨rfl, hV9, hE9⟩)
        exact hR.done hQ hlt HX.out _ (by rw [HST.out, after_deep _ _ HE.out HG.out (by show (pushF r.2.2 (r.1)).1 = false; rw [HP.out]; exact hp1)]; show (_, (pushF r.2.2 (r.1)).2) = _; rw [HP.out]) hV9 (hE3.trans hE9) rfl rfl rfl
      · go_wp2_with (go_at_call 58; refine (push_any bv r.2.2 (r.1) _ ?_).mono ?_; exact hV1; rw [HP.out, hp1]; rintro e w9 ⟨rfl, hV9, hE9⟩)
        exact hR.next hlt HX.out _ (by rw [HST.out, after_push _ _ HE.out HG.out (by show (pushF r.2.2 (r.1)).1 = true; rw [HP.out]; exact hp1)]; show (_, (pushF r.2.2 (r.1)).2) = _; rw [HP.out]) hV9 ok9 (hE3.trans hE9) rfl rfl rfl rfl rfl rfl rfl
  · have be : (r.2.1 != 0) = true := by rw [bne_iff_ne]; exact he
    have HE : Hid (¬ r.2.1 = 0) := he
    clear he
    go_wp2
    exact hR.done hQ hlt HX.out _ (by rw [HST.out]; exact after_err _ _ HE.out) hV1 hE3 rfl rfl rfl

end
end Go.Proofs.Qxb6500273a
