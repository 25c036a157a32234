/-
  The loop over a br_table's labels: one round.
-/
import Derived.Test.Qxb6500273aBodyA
namespace Go.Proofs.Qxb6500273a
open Go.RowKit

/-- c is the round of the loop over a br_table's labels -/
def TabRound (c2 : Code) : Prop := ∃ c, BodyRound c ∧ firstLoop c = some c2

set_option maxRecDepth 100000 in
theorem frame30t (a : Act) (v0 v1 v2 v8 v10 v17 v18 v19 : Value) (hd : a.defers = []) (hs : a.tmps.size = 410) (h0 : a.tmps.getD 0 undef = v0) (h1 : a.tmps.getD 1 undef = v1) (h2 : a.tmps.getD 2 undef = v2) (h8 : a.tmps.getD 8 undef = v8) (h10 : a.tmps.getD 10 undef = v10) (h17 : a.tmps.getD 17 undef = v17) (h18 : a.tmps.getD 18 undef = v18) (h19 : a.tmps.getD 19 undef = v19) :
    ∃ s : Nat → Value, a = ⟨#[v0, v1, v2, s 3, s 4, s 5, s 6, s 7, v8, s 9, v10, s 11, s 12, s 13, s 14, s 15, s 16, v17, v18, v19, s 20, s 21, s 22, s 23, s 24, s 25, s 26, s 27, s 28, s 29, s 30, s 31, s 32, s 33, s 34, s 35, s 36, s 37, s 38, s 39, s 40, s 41, s 42, s 43, s 44, s 45, s 46, s 47, s 48, s 49, s 50, s 51, s 52, s 53, s 54, s 55, s 56, s 57, s 58, s 59, s 60, s 61, s 62, s 63, s 64, s 65, s 66, s 67, s 68, s 69, s 70, s 71, s 72, s 73, s 74, s 75, s 76, s 77, s 78, s 79, s 80, s 81, s 82, s 83, s 84, s 85, s 86, s 87, s 88, s 89, s 90, s 91, s 92, s 93, s 94, s 95, s 96, s 97, s 98, s 99, s 100, s 101, s 102, s 103, s 104, s 105, s 106, s 107, s 108, s 109, s 110, s 111, s 112, s 113, s 114, s 115, s 116, s 117, s 118, s 119, s 120, s 121, s 122, s 123, s 124, s 125, s 126, s 127, s 128, s 129, s 130, s 131, s 132, s 133, s 134, s 135, s 136, s 137, s 138, s 139, s 140, s 141, s 142, s 143, s 144, s 145, s 146, s 147, s 148, s 149, s 150, s 151, s 152, s 153, s 154, s 155, s 156, s 157, s 158, s 159, s 160, s 161, s 162, s 163, s 164, s 165, s 166, s 167, s 168, s 169, s 170, s 171, s 172, s 173, s 174, s 175, s 176, s 177, s 178, s 179, s 180, s 181, s 182, s 183, s 184, s 185, s 186, s 187, s 188, s 189, s 190, s 191, s 192, s 193, s 194, s 195, s 196, s 197, s 198, s 199, s 200, s 201, s 202, s 203, s 204, s 205, s 206, s 207, s 208, s 209, s 210, s 211, s 212, s 213, s 214, s 215, s 216, s 217, s 218, s 219, s 220, s 221, s 222, s 223, s 224, s 225, s 226, s 227, s 228, s 229, s 230, s 231, s 232, s 233, s 234, s 235, s 236, s 237, s 238, s 239, s 240, s 241, s 242, s 243, s 244, s 245, s 246, s 247, s 248, s 249, s 250, s 251, s 252, s 253, s 254, s 255, s 256, s 257, s 258, s 259, s 260, s 261, s 262, s 263, s 264, s 265, s 266, s 267, s 268, s 269, s 270, s 271, s 272, s 273, s 274, s 275, s 276, s 277, s 278, s 279, s 280, s 281, s 282, s 283, s 284, s 285, s 286, s 287, s 288, s 289, s 290, s 291, s 292, s 293, s 294, s 295, s 296, s 297, s 298, s 299, s 300, s 301, s 302, s 303, s 304, s 305, s 306, s 307, s 308, s 309, s 310, s 311, s 312, s 313, s 314, s 315, s 316, s 317, s 318, s 319, s 320, s 321, s 322, s 323, s 324, s 325, s 326, s 327, s 328, s 329, s 330, s 331, s 332, s 333, s 334, s 335, s 336, s 337, s 338, s 339, s 340, s 341, s 342, s 343, s 344, s 345, s 346, s 347, s 348, s 349, s 350, s 351, s 352, s 353, s 354, s 355, s 356, s 357, s 358, s 359, s 360, s 361, s 362, s 363, s 364, s 365, s 366, s 367, s 368, s 369, s 370, s 371, s 372, s 373, s 374, s 375, s 376, s 377, s 378, s 379, s 380, s 381, s 382, s 383, s 384, s 385, s 386, s 387, s 388, s 389, s 390, s 391, s 392, s 393, s 394, s 395, s 396, s 397, s 398, s 399, s 400, s 401, s 402, s 403, s 404, s 405, s 406, s 407, s 408, s 409], []⟩ := by
  have h := act_slots 410 a hd hs
  subst h0 h1 h2 h8 h10 h17 h18 h19
  exact ⟨fun i => a.tmps.getD i undef, h⟩

/-- the frame of a round over the labels -/
structure TF (bv : Nat) (L : Lay) (ps : List UInt8) (k : Nat) (a : Act) : Prop where
  d : a.defers = []
  s : a.tmps.size = 410
  h0 : a.tmps.getD 0 undef = .pointer (some ⟨bv, 0, none⟩)
  h1 : a.tmps.getD 1 undef = .pointer (some ⟨L.p, 0, none⟩)
  h2 : a.tmps.getD 2 undef = .pointer (some ⟨L.fb, 0, none⟩)
  h8 : a.tmps.getD 8 undef = .string ⟨ps.toArray⟩
  h10 : a.tmps.getD 10 undef = .int .i64 (k : Int)

structure TI (bv : Nat) (L : Lay) (M : Md) (ps : List UInt8) (k X n : Nat) (dl : Int) (q : VS) (T : Option Int) (w' : World) (a : Act) (wx : World) : Prop where
  f : TF bv L ps k a
  h17 : a.tmps.getD 17 undef = .int .i64 ((X : Int) + n)
  h18 : a.tmps.getD 18 undef = .int .u8 dl
  rel : ∃ m : Nat, m ≤ n ∧ a.tmps.getD 19 undef = .int .i64 ((X : Int) + m) ∧ VAt wx bv q ∧ tabGo q dl ((M.tabs.drop (X + m)).take (n + 1 - m)) = T ∧ Ex bv w' wx

def TMu (X n : Nat) (a : Act) : Nat := X + n - (intOf (a.tmps.getD 19 undef)).toNat

structure TQ (bv : Nat) (L : Lay) (ps : List UInt8) (k : Nat) (q : VS) (T : Option Int) (w' : World) (Q : Exit → Act → World → Prop) : Prop where
  ret : ∀ a wx e, T = some e → a.defers = [] → a.tmps.getD 6 undef = .int .i64 (k : Int) → a.tmps.getD 7 undef = .int .i64 e → VAt wx bv q → Ex bv w' wx → Q .ret a wx
  cont : ∀ a wx, T = none → TF bv L ps k a → VAt wx bv (cutF q) → Ex bv w' wx → Q (.exit 1) a wx

def TGoal (bv : Nat) (L : Lay) (M : Md) (ps : List UInt8) (k X n m : Nat) (dl : Int) (q : VS) (T : Option Int) (w' : World) (Q : Exit → Act → World → Prop) (c2 : Code) (s : Nat → Value) (wx : World) : Prop :=
  Code.wp Try.prog c2 (Exit.then (fun a' w'' => TI bv L M ps k X n dl q T w' a' w'' ∧ TMu X n a' < n - m) Q) ⟨#[.pointer (some ⟨bv, 0, none⟩), .pointer (some ⟨L.p, 0, none⟩), .pointer (some ⟨L.fb, 0, none⟩), s 3, s 4, s 5, s 6, s 7, .string ⟨ps.toArray⟩, s 9, .int .i64 (k : Int), s 11, s 12, s 13, s 14, s 15, s 16, .int .i64 ((X : Int) + n), .int .u8 dl, .int .i64 ((X : Int) + m), s 20, s 21, s 22, s 23, s 24, s 25, s 26, s 27, s 28, s 29, s 30, s 31, s 32, s 33, s 34, s 35, s 36, s 37, s 38, s 39, s 40, s 41, s 42, s 43, s 44, s 45, s 46, s 47, s 48, s 49, s 50, s 51, s 52, s 53, s 54, s 55, s 56, s 57, s 58, s 59, s 60, s 61, s 62, s 63, s 64, s 65, s 66, s 67, s 68, s 69, s 70, s 71, s 72, s 73, s 74, s 75, s 76, s 77, s 78, s 79, s 80, s 81, s 82, s 83, s 84, s 85, s 86, s 87, s 88, s 89, s 90, s 91, s 92, s 93, s 94, s 95, s 96, s 97, s 98, s 99, s 100, s 101, s 102, s 103, s 104, s 105, s 106, s 107, s 108, s 109, s 110, s 111, s 112, s 113, s 114, s 115, s 116, s 117, s 118, s 119, s 120, s 121, s 122, s 123, s 124, s 125, s 126, s 127, s 128, s 129, s 130, s 131, s 132, s 133, s 134, s 135, s 136, s 137, s 138, s 139, s 140, s 141, s 142, s 143, s 144, s 145, s 146, s 147, s 148, s 149, s 150, s 151, s 152, s 153, s 154, s 155, s 156, s 157, s 158, s 159, s 160, s 161, s 162, s 163, s 164, s 165, s 166, s 167, s 168, s 169, s 170, s 171, s 172, s 173, s 174, s 175, s 176, s 177, s 178, s 179, s 180, s 181, s 182, s 183, s 184, s 185, s 186, s 187, s 188, s 189, s 190, s 191, s 192, s 193, s 194, s 195, s 196, s 197, s 198, s 199, s 200, s 201, s 202, s 203, s 204, s 205, s 206, s 207, s 208, s 209, s 210, s 211, s 212, s 213, s 214, s 215, s 216, s 217, s 218, s 219, s 220, s 221, s 222, s 223, s 224, s 225, s 226, s 227, s 228, s 229, s 230, s 231, s 232, s 233, s 234, s 235, s 236, s 237, s 238, s 239, s 240, s 241, s 242, s 243, s 244, s 245, s 246, s 247, s 248, s 249, s 250, s 251, s 252, s 253, s 254, s 255, s 256, s 257, s 258, s 259, s 260, s 261, s 262, s 263, s 264, s 265, s 266, s 267, s 268, s 269, s 270, s 271, s 272, s 273, s 274, s 275, s 276, s 277, s 278, s 279, s 280, s 281, s 282, s 283, s 284, s 285, s 286, s 287, s 288, s 289, s 290, s 291, s 292, s 293, s 294, s 295, s 296, s 297, s 298, s 299, s 300, s 301, s 302, s 303, s 304, s 305, s 306, s 307, s 308, s 309, s 310, s 311, s 312, s 313, s 314, s 315, s 316, s 317, s 318, s 319, s 320, s 321, s 322, s 323, s 324, s 325, s 326, s 327, s 328, s 329, s 330, s 331, s 332, s 333, s 334, s 335, s 336, s 337, s 338, s 339, s 340, s 341, s 342, s 343, s 344, s 345, s 346, s 347, s 348, s 349, s 350, s 351, s 352, s 353, s 354, s 355, s 356, s 357, s 358, s 359, s 360, s 361, s 362, s 363, s 364, s 365, s 366, s 367, s 368, s 369, s 370, s 371, s 372, s 373, s 374, s 375, s 376, s 377, s 378, s 379, s 380, s 381, s 382, s 383, s 384, s 385, s 386, s 387, s 388, s 389, s 390, s 391, s 392, s 393, s 394, s 395, s 396, s 397, s 398, s 399, s 400, s 401, s 402, s 403, s 404, s 405, s 406, s 407, s 408, s 409], []⟩ wx

theorem tabs_cons (l : List Int) (X m n : Nat) (hm : m ≤ n) (hl : X + n < l.length) : (l.drop (X + m)).take (n + 1 - m) = l.getD (X + m) 0 :: (l.drop (X + (m + 1))).take (n + 1 - (m + 1)) := by
  rw [List.drop_eq_getElem_cons (by omega), show n + 1 - m = (n + 1 - (m + 1)) + 1 from by omega, List.take_succ_cons, List.getD_eq_getElem?_getD, List.getElem?_eq_getElem (by omega)]
  rfl

theorem wp_then_mono {c : Code} {N N' : Act → World → Prop} {Q : Exit → Act → World → Prop} {a : Act} {w : World} (h : Code.wp Try.prog c (Exit.then N Q) a w) (hn : ∀ a w, N a w → N' a w) : Code.wp Try.prog c (Exit.then N' Q) a w :=
  wp_mono h fun e a w => by cases e <;> first | exact hn a w | exact id

theorem brTableF_eq (U : VS) (k : Nat) (tabs : List Int) (x : Insn) (q : Bool × VS) (X n : Nat) (hq : carryF U 127 = q) (h1 : q.1 = true) (hX : x.x = X) (hY : x.y = (n : Int) + 1) (hl : X + n < tabs.length) :
    brTableF U k tabs x = if (q.2.depth : Int) ≤ tabs.getD (X + n) 0 then (some ((k : Int), 25), q.2) else match tabGo q.2 (labelF q.2 (tabs.getD (X + n) 0).toNat) ((tabs.drop X).take (n + 1)) with | some e => (some ((k : Int), e), q.2) | none => (none, cutF q.2) := by
  have e1 : ((X : Int)).toNat = X := by omega
  have e2 : ((n : Int) + 1).toNat = n + 1 := by omega
  have e3 : ((X : Int) + ((n : Int) + 1) - 1).toNat = X + n := by omega
  unfold brTableF
  simp only [hq, h1, if_true]
  rw [if_neg (by rw [hX, hY]; omega), hX, hY, e1, e2, e3]
  rfl

set_option maxRecDepth 100000 in
set_option maxHeartbeats 1000000 in
theorem tab_round (bv : Nat) (L : Lay) (M : Md) (ps : List UInt8) (k X n m : Nat) (dl : Int) (q : VS) (T : Option Int) (w' : World) (Q : Exit → Act → World → Prop) (c2 : Code) (s : Nat → Value) (wx : World)
    (hc : TabRound c2) (hQ : TQ bv L ps k q T w' Q) (hM : ModAt wx bv L M) (hq : VAt wx bv q) (ok : q.Ok) (hm : m ≤ n) (hl : X + n < M.tabs.length) (hl2 : M.tabs.length ≤ 1000) (ht0 : ∀ i, 0 ≤ M.tabs.getD i 0 ∧ M.tabs.getD i 0 ≤ 4294967295)
    (hT : tabGo q dl ((M.tabs.drop (X + m)).take (n + 1 - m)) = T) (hE : Ex bv w' wx) : TGoal bv L M ps k X n m dl q T w' Q c2 s wx := by
  unfold TGoal
  obtain ⟨c, hc, h2⟩ := hc
  unfold BodyRound at hc
  simp only [Try.f30, Option.bind, firstLoop, Option.some.injEq] at hc
  subst hc
  simp only [firstLoop, Option.some.injEq] at h2
  subst h2
  have f3 := hM.f3
  have t0 := hM.t0 (X + m) (by omega)
  rw [t0.1] at f3
  have t1 := t0.2
  have hr := ht0 (X + m)
  rw [tabs_cons M.tabs X m n hm hl] at hT
  generalize M.tabs.getD (X + m) 0 = t at *
  have hi : (X : Int) + m < M.tabs.length := by omega
  have cd := hq.depth
  have hd7 := ok.d7
  have hidx : ((X : Int) + (m : Int)).toNat = X + m := by omega
  clear t0
  by_cases hb : (q.depth : Int) ≤ t
  · have HT : Hid (T = some 25) := by show _ = _; rw [← hT]; unfold tabGo; rw [if_pos hb]
    clear hT
    go_wp2
    go_quiet (fail)
    go_wp2
    exact hQ.ret _ _ _ HT.out rfl rfl rfl (hq.drewN _) (hE.drewN _)
  · have HB : Hid (¬ (q.depth : Int) ≤ t) := hb
    have hT2 : T = if decide (labelF q t.toNat = 64) ≠ decide (dl = 64) then some 27 else if fitsF q (labelF q t.toNat) = true then tabGo q dl ((M.tabs.drop (X + (m + 1))).take (n + 1 - (m + 1))) else some 27 := by
      rw [← hT]; conv => lhs; unfold tabGo
      rw [if_neg hb]
    clear hT
    generalize hlb : labelF q t.toNat = l at *
    have HL : Hid (labelF q t.toNat = l) := hlb
    clear hlb
    have HBL : Hid ((l == 64) = decide (l = 64)) := rfl
    have HBD : Hid ((dl == 64) = decide (dl = 64)) := rfl
    cases hbl : (l == 64) <;> cases hbd : (dl == 64)
    · rw [if_neg (by rw [← HBL.out, ← HBD.out, hbl, hbd]; decide)] at hT2
      generalize hf : fitsF q l = fb at *
      have HF : Hid (fitsF q l = fb) := hf
      clear hf
      cases fb
      · have HT : Hid (T = some 27) := by show _ = _; rw [hT2]; rfl
        clear hT2
        go_wp2
        go_quiet (fail)
        go_wp2_with (first | (go_at_call 55; refine (label_any bv q t _ ?_ ok (by omega) (by omega)).mono ?_; exact hq.drewN _; rw [HL.out]; rintro e w1 ⟨rfl, n1, rfl⟩) | (go_at_call 56; refine (fits_any bv q l _ ?_ ok).mono ?_; exact hq.drewN _; rw [HF.out]; rintro e w2 ⟨rfl, n2, rfl⟩))
        exact hQ.ret _ _ _ HT.out rfl rfl rfl (hq.drewN _) (hE.drewN _)
      · rw [if_pos rfl] at hT2
        by_cases hmn : m = n
        · subst hmn
          have HT : Hid (T = none) := by show _ = _; rw [hT2, Nat.sub_self, List.take_zero]; rfl
          clear hT2
          go_wp2
          go_quiet (fail)
          go_wp2_with (first | (go_at_call 55; refine (label_any bv q t _ ?_ ok (by omega) (by omega)).mono ?_; exact hq.drewN _; rw [HL.out]; rintro e w1 ⟨rfl, n1, rfl⟩) | (go_at_call 56; refine (fits_any bv q l _ ?_ ok).mono ?_; exact hq.drewN _; rw [HF.out]; rintro e w2 ⟨rfl, n2, rfl⟩) | (go_at_call 52; refine (cut_any bv q _ ?_ ok).mono ?_; exact hq.drewN _; rintro e w3 ⟨rfl, hV3, hE3⟩))
          exact hQ.cont _ _ HT.out ⟨rfl, rfl, rfl, rfl, rfl, rfl, rfl⟩ hV3 ((hE.drewN _).trans hE3)
        · have HT : Hid (tabGo q dl ((M.tabs.drop (X + (m + 1))).take (n + 1 - (m + 1))) = T) := hT2.symm
          have bi : (((X : Int) + (m : Int)) == ((X : Int) + (n : Int))) = false := by rw [beq_eq_false_iff_ne]; omega
          clear hT2
          go_wp2
          go_quiet (fail)
          go_wp2_with (first | (go_at_call 55; refine (label_any bv q t _ ?_ ok (by omega) (by omega)).mono ?_; exact hq.drewN _; rw [HL.out]; rintro e w1 ⟨rfl, n1, rfl⟩) | (go_at_call 56; refine (fits_any bv q l _ ?_ ok).mono ?_; exact hq.drewN _; rw [HF.out]; rintro e w2 ⟨rfl, n2, rfl⟩))
          refine ⟨⟨⟨rfl, rfl, rfl, rfl, rfl, rfl, rfl⟩, rfl, rfl, m + 1, by omega, ?_, hq.drewN _, HT.out, hE.drewN _⟩, ?_⟩
          · exact congrArg (Value.int .i64) (by omega)
          · show X + n - (intOf (.int .i64 ((X : Int) + m + 1))).toNat < n - m
            simp only [intOf]; omega
    · have HT : Hid (T = some 27) := by show _ = _; rw [hT2, if_pos (by rw [← HBL.out, ← HBD.out, hbl, hbd]; decide)]
      clear hT2
      go_wp2
      go_quiet (fail)
      go_wp2_with (go_at_call 55; refine (label_any bv q t _ ?_ ok (by omega) (by omega)).mono ?_; exact hq.drewN _; rw [HL.out]; rintro e w1 ⟨rfl, n1, rfl⟩)
      exact hQ.ret _ _ _ HT.out rfl rfl rfl (hq.drewN _) (hE.drewN _)
    · have HT : Hid (T = some 27) := by show _ = _; rw [hT2, if_pos (by rw [← HBL.out, ← HBD.out, hbl, hbd]; decide)]
      clear hT2
      go_wp2
      go_quiet (fail)
      go_wp2_with (go_at_call 55; refine (label_any bv q t _ ?_ ok (by omega) (by omega)).mono ?_; exact hq.drewN _; rw [HL.out]; rintro e w1 ⟨rfl, n1, rfl⟩)
      exact hQ.ret _ _ _ HT.out rfl rfl rfl (hq.drewN _) (hE.drewN _)
    · rw [if_neg (by rw [← HBL.out, ← HBD.out, hbl, hbd]; decide)] at hT2
      generalize hf : fitsF q l = fb at *
      have HF : Hid (fitsF q l = fb) := hf
      clear hf
      cases fb
      · have HT : Hid (T = some 27) := by show _ = _; rw [hT2]; rfl
        clear hT2
        go_wp2
        go_quiet (fail)
        go_wp2_with (first | (go_at_call 55; refine (label_any bv q t _ ?_ ok (by omega) (by omega)).mono ?_; exact hq.drewN _; rw [HL.out]; rintro e w1 ⟨rfl, n1, rfl⟩) | (go_at_call 56; refine (fits_any bv q l _ ?_ ok).mono ?_; exact hq.drewN _; rw [HF.out]; rintro e w2 ⟨rfl, n2, rfl⟩))
        exact hQ.ret _ _ _ HT.out rfl rfl rfl (hq.drewN _) (hE.drewN _)
      · rw [if_pos rfl] at hT2
        by_cases hmn : m = n
        · subst hmn
          have HT : Hid (T = none) := by show _ = _; rw [hT2, Nat.sub_self, List.take_zero]; rfl
          clear hT2
          go_wp2
          go_quiet (fail)
          go_wp2_with (first | (go_at_call 55; refine (label_any bv q t _ ?_ ok (by omega) (by omega)).mono ?_; exact hq.drewN _; rw [HL.out]; rintro e w1 ⟨rfl, n1, rfl⟩) | (go_at_call 56; refine (fits_any bv q l _ ?_ ok).mono ?_; exact hq.drewN _; rw [HF.out]; rintro e w2 ⟨rfl, n2, rfl⟩) | (go_at_call 52; refine (cut_any bv q _ ?_ ok).mono ?_; exact hq.drewN _; rintro e w3 ⟨rfl, hV3, hE3⟩))
          exact hQ.cont _ _ HT.out ⟨rfl, rfl, rfl, rfl, rfl, rfl, rfl⟩ hV3 ((hE.drewN _).trans hE3)
        · have HT : Hid (tabGo q dl ((M.tabs.drop (X + (m + 1))).take (n + 1 - (m + 1))) = T) := hT2.symm
          have bi : (((X : Int) + (m : Int)) == ((X : Int) + (n : Int))) = false := by rw [beq_eq_false_iff_ne]; omega
          clear hT2
          go_wp2
          go_quiet (fail)
          go_wp2_with (first | (go_at_call 55; refine (label_any bv q t _ ?_ ok (by omega) (by omega)).mono ?_; exact hq.drewN _; rw [HL.out]; rintro e w1 ⟨rfl, n1, rfl⟩) | (go_at_call 56; refine (fits_any bv q l _ ?_ ok).mono ?_; exact hq.drewN _; rw [HF.out]; rintro e w2 ⟨rfl, n2, rfl⟩))
          refine ⟨⟨⟨rfl, rfl, rfl, rfl, rfl, rfl, rfl⟩, rfl, rfl, m + 1, by omega, ?_, hq.drewN _, HT.out, hE.drewN _⟩, ?_⟩
          · exact congrArg (Value.int .i64) (by omega)
          · show X + n - (intOf (.int .i64 ((X : Int) + m + 1))).toNat < n - m
            simp only [intOf]; omega

end Go.Proofs.Qxb6500273a
