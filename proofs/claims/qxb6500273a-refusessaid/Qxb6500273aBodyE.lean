/-
  body's loop: br_table
-/
import Derived.Test.Qxb6500273aBodyT
set_option linter.unusedVariables false
set_option linter.unusedSimpArgs false
namespace Go.Proofs.Qxb6500273a
open Go.RowKit
section
variable (bv : Nat) (L : Lay) (M : Md) (ps : List UInt8) (R : (Int × Int) × VS) (w : World) (Q : Exit → Act → World → Prop) (c : Code) (k : Nat) (U : VS) (s : Nat → Value) (w' : World) (x : Insn)

set_option maxRecDepth 100000 in
set_option maxHeartbeats 1000000 in
theorem body_brtable (hc : BodyRound c) (hQ : BQ bv M R w Q) (hM : ModAt w' bv L M) (hR : BRel bv M ps R w k U w') (hlt : k < M.body.length) (hlen : M.body.length ≤ 1000) (hx : M.body.getD k ins0 = x) (hop : x.op = 14) (X n : Nat) (hX : x.x = X) (hY : x.y = (n : Int) + 1) (hl : X + n < M.tabs.length) (hl2 : M.tabs.length ≤ 1000) (ht0 : ∀ i, 0 ≤ M.tabs.getD i 0 ∧ M.tabs.getD i 0 ≤ 4294967295) : BGoal bv L M ps R w Q c s k w' := by
  unfold BGoal
  unfold BodyRound at hc
  simp only [Try.f30, Option.bind, firstLoop, Option.some.injEq] at hc
  subst hc
  have f2 := hM.f2
  have b0 := hM.b0 k hlt
  have b1 := hM.b1 k hlt
  have b2 := hM.b2 k hlt
  rw [hx] at b0 b1 b2
  have HX : Hid (M.body.getD k ins0 = x) := hx
  have hkl : (k : Int) < M.body.length := by omega
  have hU := hR.v
  have ok := hR.ok
  clear hx
  have hT2 : TabRound (((Try.f30.body.bind firstLoop).bind firstLoop).getD .skip) := ⟨_, rfl, rfl⟩
  rw [hop] at b0
  have HOP : Hid (x.op = 14) := hop
  clear hop
  have hbl := hU.lt
  have hU1 := hU.alloc (.cells #[.int .u8 14, .int .u32 x.x, .int .u64 x.y] 42)
  have hE1 := (Ex.refl bv w').alloc (.cells #[.int .u8 14, .int .u32 x.x, .int .u64 x.y] 42)
  rw [hX] at b1 hU1 hE1
  rw [hY] at b2 hU1 hE1
  have HST : Hid (stepF M ps M.body.length k U x = brTableF U k M.tabs x) := by show _ = _; simp [stepF, HOP.out]
  have HX2 : Hid (x.x = X) := hX
  have HY2 : Hid (x.y = (n : Int) + 1) := hY
  clear hX hY
  have oka := carryF_ok ok 127
  generalize hqa : carryF U 127 = q at *
  have HQA : Hid (carryF U 127 = q) := hqa
  clear hqa
  cases hqa1 : q.1
  · go_wp2_with (go_at_call 53; refine (carry_any bv U 127 _ hU1 ok).mono ?_; rw [HQA.out, hqa1]; rintro e w1 ⟨rfl, hV1, hE2⟩)
    exact hR.done hQ hlt HX.out _ (by rw [HST.out, brTableF, HQA.out]; simp [hqa1]) hV1 (hE1.trans hE2) rfl rfl rfl
  · go_wp2_with fail
    refine (carry_any bv U 127 _ hU1 ok).mono ?_
    rw [HQA.out, hqa1]
    rintro e w1 ⟨rfl, hV1, hE2⟩
    have cd := hV1.depth
    have hd7 := oka.d7
    have x1 := box_cell hE2 hbl 1 _ rfl
    have x2 := box_cell hE2 hbl 2 _ rfl
    have hE3 := hE1.trans hE2
    have hM1 := hM.ex hE3
    have f3 := hM1.f3
    have t0 := hM1.t0 (X + n) (by omega)
    rw [t0.1] at f3
    have t1 := t0.2
    have hr := ht0 (X + n)
    have hbt := brTableF_eq U k M.tabs x q X n HQA.out hqa1 HX2.out HY2.out hl
    have HBT : Hid (stepF M ps M.body.length k U x = if (q.2.depth : Int) ≤ M.tabs.getD (X + n) 0 then (some ((k : Int), 25), q.2) else match tabGo q.2 (labelF q.2 (M.tabs.getD (X + n) 0).toNat) ((M.tabs.drop X).take (n + 1)) with | some e => (some ((k : Int), e), q.2) | none => (none, cutF q.2)) := by show _ = _; rw [HST.out]; exact hbt
    have y1 : decide (((n : Int) + 1) < 1) = false := by simp; omega
    have y2 : decide ((M.tabs.length : Int) < (n : Int) + 1) = false := by simp; omega
    have y3 : decide ((M.tabs.length : Int) - ((n : Int) + 1) < (X : Int)) = false := by simp; omega
    have hidx : ((X : Int) + (n : Int)).toNat = X + n := by omega
    have hi : (X : Int) + n < M.tabs.length := by omega
    clear hbt t0
    generalize M.tabs.getD (X + n) 0 = t at *
    by_cases hb : (q.2.depth : Int) ≤ t
    · go_wp2
      go_quiet (fail)
      go_wp2
      go_quiet (fail)
      go_wp2
      exact hR.done hQ hlt HX.out _ (by rw [HBT.out, if_pos hb]) ((hV1.drewN _).drewN _) ((hE3.drewN _).drewN _) rfl rfl rfl
    · have HB2 : Hid (stepF M ps M.body.length k U x = match tabGo q.2 (labelF q.2 t.toNat) ((M.tabs.drop X).take (n + 1)) with | some e => (some ((k : Int), e), q.2) | none => (none, cutF q.2)) := by show _ = _; rw [HBT.out, if_neg hb]
      generalize hlb : labelF q.2 t.toNat = dl at *
      have HL : Hid (labelF q.2 t.toNat = dl) := hlb
      clear hlb HBT
      generalize hTT : tabGo q.2 dl ((M.tabs.drop X).take (n + 1)) = T at *
      have HT : Hid (tabGo q.2 dl ((M.tabs.drop X).take (n + 1)) = T) := hTT
      clear hTT
      go_wp2
      go_quiet (fail)
      go_wp2
      go_quiet (fail)
      go_wp2_with (go_at_call 55; refine (label_any bv q.2 t _ ?_ oka (by omega) (by omega)).mono ?_; exact hV1.drewN _; rw [HL.out]; rintro e w2 ⟨rfl, n1, rfl⟩)
      refine wp_loop (TI bv L M ps k X n dl q.2 T w') (fun a _ => TMu X n a) ?_ ?_
      · exact ⟨⟨rfl, rfl, rfl, rfl, rfl, rfl, rfl⟩, congrArg (Value.int .i64) (by omega), rfl, 0, Nat.zero_le _, congrArg (Value.int .i64) (by omega), hV1.drewN _, HT.out, hE3.drewN _⟩
      · intro a wx hI
        obtain ⟨hf, h17, h18, m, hm, h19, hVx, hTx, hEx⟩ := hI
        obtain ⟨s2, rfl⟩ := frame30t a _ _ _ _ _ _ _ _ hf.d hf.s hf.h0 hf.h1 hf.h2 hf.h8 hf.h10 h17 h18 h19
        have hmu : ∀ (z : Nat → Value), TMu X n ⟨#[.pointer (some ⟨bv, 0, none⟩), .pointer (some ⟨L.p, 0, none⟩), .pointer (some ⟨L.fb, 0, none⟩), z 3, z 4, z 5, z 6, z 7, .string ⟨ps.toArray⟩, z 9, .int .i64 (k : Int), z 11, z 12, z 13, z 14, z 15, z 16, .int .i64 ((X : Int) + n), .int .u8 dl, .int .i64 ((X : Int) + m), z 20, z 21, z 22, z 23, z 24, z 25, z 26, z 27, z 28, z 29, z 30, z 31, z 32, z 33, z 34, z 35, z 36, z 37, z 38, z 39, z 40, z 41, z 42, z 43, z 44, z 45, z 46, z 47, z 48, z 49, z 50, z 51, z 52, z 53, z 54, z 55, z 56, z 57, z 58, z 59, z 60, z 61, z 62, z 63, z 64, z 65, z 66, z 67, z 68, z 69, z 70, z 71, z 72, z 73, z 74, z 75, z 76, z 77, z 78, z 79, z 80, z 81, z 82, z 83, z 84, z 85, z 86, z 87, z 88, z 89, z 90, z 91, z 92, z 93, z 94, z 95, z 96, z 97, z 98, z 99, z 100, z 101, z 102, z 103, z 104, z 105, z 106, z 107, z 108, z 109, z 110, z 111, z 112, z 113, z 114, z 115, z 116, z 117, z 118, z 119, z 120, z 121, z 122, z 123, z 124, z 125, z 126, z 127, z 128, z 129, z 130, z 131, z 132, z 133, z 134, z 135, z 136, z 137, z 138, z 139, z 140, z 141, z 142, z 143, z 144, z 145, z 146, z 147, z 148, z 149, z 150, z 151, z 152, z 153, z 154, z 155, z 156, z 157, z 158, z 159, z 160, z 161, z 162, z 163, z 164, z 165, z 166, z 167, z 168, z 169, z 170, z 171, z 172, z 173, z 174, z 175, z 176, z 177, z 178, z 179, z 180, z 181, z 182, z 183, z 184, z 185, z 186, z 187, z 188, z 189, z 190, z 191, z 192, z 193, z 194, z 195, z 196, z 197, z 198, z 199, z 200, z 201, z 202, z 203, z 204, z 205, z 206, z 207, z 208, z 209, z 210, z 211, z 212, z 213, z 214, z 215, z 216, z 217, z 218, z 219, z 220, z 221, z 222, z 223, z 224, z 225, z 226, z 227, z 228, z 229, z 230, z 231, z 232, z 233, z 234, z 235, z 236, z 237, z 238, z 239, z 240, z 241, z 242, z 243, z 244, z 245, z 246, z 247, z 248, z 249, z 250, z 251, z 252, z 253, z 254, z 255, z 256, z 257, z 258, z 259, z 260, z 261, z 262, z 263, z 264, z 265, z 266, z 267, z 268, z 269, z 270, z 271, z 272, z 273, z 274, z 275, z 276, z 277, z 278, z 279, z 280, z 281, z 282, z 283, z 284, z 285, z 286, z 287, z 288, z 289, z 290, z 291, z 292, z 293, z 294, z 295, z 296, z 297, z 298, z 299, z 300, z 301, z 302, z 303, z 304, z 305, z 306, z 307, z 308, z 309, z 310, z 311, z 312, z 313, z 314, z 315, z 316, z 317, z 318, z 319, z 320, z 321, z 322, z 323, z 324, z 325, z 326, z 327, z 328, z 329, z 330, z 331, z 332, z 333, z 334, z 335, z 336, z 337, z 338, z 339, z 340, z 341, z 342, z 343, z 344, z 345, z 346, z 347, z 348, z 349, z 350, z 351, z 352, z 353, z 354, z 355, z 356, z 357, z 358, z 359, z 360, z 361, z 362, z 363, z 364, z 365, z 366, z 367, z 368, z 369, z 370, z 371, z 372, z 373, z 374, z 375, z 376, z 377, z 378, z 379, z 380, z 381, z 382, z 383, z 384, z 385, z 386, z 387, z 388, z 389, z 390, z 391, z 392, z 393, z 394, z 395, z 396, z 397, z 398, z 399, z 400, z 401, z 402, z 403, z 404, z 405, z 406, z 407, z 408, z 409], []⟩ = n - m := by
          intro z
          show X + n - (intOf (.int .i64 ((X : Int) + m))).toNat = n - m
          simp only [intOf]; omega
        refine wp_then_mono (tab_round bv L M ps k X n m dl q.2 T w' _ _ s2 wx hT2 ?_ (hM.ex hEx) hVx oka hm hl hl2 ht0 hTx hEx) ?_
        · refine ⟨fun a wz e hT hd h6 h7 hV hE => ?_, fun a wz hT hf2 hV hE => ?_⟩
          · exact hR.done hQ hlt HX.out a (by rw [HB2.out, hT]) hV hE hd h6 h7
          · obtain ⟨s3, rfl⟩ := frame30 a _ _ _ _ _ hf2.d hf2.s hf2.h0 hf2.h1 hf2.h2 hf2.h8 hf2.h10
            have HTN : Hid (T = none) := hT
            clear hT hf hf2 h17 h18 h19 hTx hmu
            go_wp2
            exact hR.next hlt HX.out _ (by rw [HB2.out, HTN.out]) hV (cutF_ok oka) hE rfl rfl rfl rfl rfl rfl rfl
        · intro a wz hz
          rw [hmu s2]
          exact hz

end
end Go.Proofs.Qxb6500273a
