/-
  lay: its frame, its end, its head.
-/
import Derived.Test.Qxb6500273aSpoilt
import Derived.Test.Qxb6500273aMf
set_option linter.unusedVariables false
set_option linter.unusedSimpArgs false
namespace Go.Proofs.Qxb6500273a
open Go.RowKit

def LTail (n : Nat) (c : Code) : Prop := Try.f10.body.map (dropC n) = some c

set_option maxRecDepth 100000 in
theorem frame10 (a : Act) (v0 v3 v4 v5 v6 : Value) (hd : a.defers = []) (hs : a.tmps.size = 522) (h0 : a.tmps.getD 0 undef = v0) (h3 : a.tmps.getD 3 undef = v3) (h4 : a.tmps.getD 4 undef = v4) (h5 : a.tmps.getD 5 undef = v5) (h6 : a.tmps.getD 6 undef = v6) :
    ∃ s : Nat → Value, a = ⟨#[v0, s 1, s 2, v3, v4, v5, v6, s 7, s 8, s 9, s 10, s 11, s 12, s 13, s 14, s 15, s 16, s 17, s 18, s 19, s 20, s 21, s 22, s 23, s 24, s 25, s 26, s 27, s 28, s 29, s 30, s 31, s 32, s 33, s 34, s 35, s 36, s 37, s 38, s 39, s 40, s 41, s 42, s 43, s 44, s 45, s 46, s 47, s 48, s 49, s 50, s 51, s 52, s 53, s 54, s 55, s 56, s 57, s 58, s 59, s 60, s 61, s 62, s 63, s 64, s 65, s 66, s 67, s 68, s 69, s 70, s 71, s 72, s 73, s 74, s 75, s 76, s 77, s 78, s 79, s 80, s 81, s 82, s 83, s 84, s 85, s 86, s 87, s 88, s 89, s 90, s 91, s 92, s 93, s 94, s 95, s 96, s 97, s 98, s 99, s 100, s 101, s 102, s 103, s 104, s 105, s 106, s 107, s 108, s 109, s 110, s 111, s 112, s 113, s 114, s 115, s 116, s 117, s 118, s 119, s 120, s 121, s 122, s 123, s 124, s 125, s 126, s 127, s 128, s 129, s 130, s 131, s 132, s 133, s 134, s 135, s 136, s 137, s 138, s 139, s 140, s 141, s 142, s 143, s 144, s 145, s 146, s 147, s 148, s 149, s 150, s 151, s 152, s 153, s 154, s 155, s 156, s 157, s 158, s 159, s 160, s 161, s 162, s 163, s 164, s 165, s 166, s 167, s 168, s 169, s 170, s 171, s 172, s 173, s 174, s 175, s 176, s 177, s 178, s 179, s 180, s 181, s 182, s 183, s 184, s 185, s 186, s 187, s 188, s 189, s 190, s 191, s 192, s 193, s 194, s 195, s 196, s 197, s 198, s 199, s 200, s 201, s 202, s 203, s 204, s 205, s 206, s 207, s 208, s 209, s 210, s 211, s 212, s 213, s 214, s 215, s 216, s 217, s 218, s 219, s 220, s 221, s 222, s 223, s 224, s 225, s 226, s 227, s 228, s 229, s 230, s 231, s 232, s 233, s 234, s 235, s 236, s 237, s 238, s 239, s 240, s 241, s 242, s 243, s 244, s 245, s 246, s 247, s 248, s 249, s 250, s 251, s 252, s 253, s 254, s 255, s 256, s 257, s 258, s 259, s 260, s 261, s 262, s 263, s 264, s 265, s 266, s 267, s 268, s 269, s 270, s 271, s 272, s 273, s 274, s 275, s 276, s 277, s 278, s 279, s 280, s 281, s 282, s 283, s 284, s 285, s 286, s 287, s 288, s 289, s 290, s 291, s 292, s 293, s 294, s 295, s 296, s 297, s 298, s 299, s 300, s 301, s 302, s 303, s 304, s 305, s 306, s 307, s 308, s 309, s 310, s 311, s 312, s 313, s 314, s 315, s 316, s 317, s 318, s 319, s 320, s 321, s 322, s 323, s 324, s 325, s 326, s 327, s 328, s 329, s 330, s 331, s 332, s 333, s 334, s 335, s 336, s 337, s 338, s 339, s 340, s 341, s 342, s 343, s 344, s 345, s 346, s 347, s 348, s 349, s 350, s 351, s 352, s 353, s 354, s 355, s 356, s 357, s 358, s 359, s 360, s 361, s 362, s 363, s 364, s 365, s 366, s 367, s 368, s 369, s 370, s 371, s 372, s 373, s 374, s 375, s 376, s 377, s 378, s 379, s 380, s 381, s 382, s 383, s 384, s 385, s 386, s 387, s 388, s 389, s 390, s 391, s 392, s 393, s 394, s 395, s 396, s 397, s 398, s 399, s 400, s 401, s 402, s 403, s 404, s 405, s 406, s 407, s 408, s 409, s 410, s 411, s 412, s 413, s 414, s 415, s 416, s 417, s 418, s 419, s 420, s 421, s 422, s 423, s 424, s 425, s 426, s 427, s 428, s 429, s 430, s 431, s 432, s 433, s 434, s 435, s 436, s 437, s 438, s 439, s 440, s 441, s 442, s 443, s 444, s 445, s 446, s 447, s 448, s 449, s 450, s 451, s 452, s 453, s 454, s 455, s 456, s 457, s 458, s 459, s 460, s 461, s 462, s 463, s 464, s 465, s 466, s 467, s 468, s 469, s 470, s 471, s 472, s 473, s 474, s 475, s 476, s 477, s 478, s 479, s 480, s 481, s 482, s 483, s 484, s 485, s 486, s 487, s 488, s 489, s 490, s 491, s 492, s 493, s 494, s 495, s 496, s 497, s 498, s 499, s 500, s 501, s 502, s 503, s 504, s 505, s 506, s 507, s 508, s 509, s 510, s 511, s 512, s 513, s 514, s 515, s 516, s 517, s 518, s 519, s 520, s 521], []⟩ := by
  have h := act_slots 522 a hd hs
  subst h0 h3 h4 h5 h6
  exact ⟨fun i => a.tmps.getD i undef, h⟩

structure LFr (db b3 b5 : Nat) (A : Int) (a : Act) : Prop where
  d : a.defers = []
  n : a.tmps.size = 522
  h0 : a.tmps.getD 0 undef = .pointer (some ⟨db, 0, none⟩)
  h3 : a.tmps.getD 3 undef = .pointer (some ⟨b3, 0, none⟩)
  h4 : a.tmps.getD 4 undef = .int .i64 A
  h5 : a.tmps.getD 5 undef = .pointer (some ⟨b5, 0, none⟩)
  h6 : a.tmps.getD 6 undef = .string ⟨#[127]⟩

/-- one step of the derivation; z: the Y of a plain instruction -/
def layL (D : Dv) (A B z : Int) : Dv :=
  if D.on = false ∨ 95 ≤ D.body.length ∨ A < 0 ∨ 255 < A then D
  else if A = 2 ∨ A = 3 ∨ A = 4 then
    if B ≠ 64 ∧ isValF B = false then D
    else if A = 4 ∧ endsF D.st [127] = false then D
    else if 6 ≤ D.ctl.length then D
    else if 10 < D.below + (if A = 4 then D.st.take (D.st.length - 1) else D.st).length + (if B = 64 then [] else strF B).length then D
    else { D with body := D.body ++ [⟨A, B, 0⟩], ctl := D.ctl ++ [⟨A, if B = 64 then [] else strF B, if A = 4 then D.st.take (D.st.length - 1) else D.st⟩], below := D.below + (if A = 4 then D.st.take (D.st.length - 1) else D.st).length, st := [] }
  else if A = 5 then
    if D.ctl.length = 0 ∨ (lastB D).op ≠ 4 ∨ D.st ≠ (lastB D).res then D
    else { D with body := D.body ++ [⟨5, 0, 0⟩], ctl := D.ctl.take (D.ctl.length - 1) ++ [⟨5, (lastB D).res, (lastB D).outer⟩], st := [] }
  else if A = 11 then
    if D.ctl.length = 0 ∨ D.st ≠ (lastB D).res ∨ ((lastB D).op = 4 ∧ (lastB D).res ≠ []) then D
    else { D with body := D.body ++ [⟨11, 0, 0⟩], ctl := D.ctl.take (D.ctl.length - 1), below := D.below - (lastB D).outer.length, st := (lastB D).outer ++ (lastB D).res }
  else if A = 13 then
    if (labelL D B).2 = false ∨ endsF D.st ((labelL D B).1 ++ [127]) = false then D
    else { D with body := D.body ++ [⟨13, B, 0⟩], st := D.st.take (D.st.length - 1) }
  else
    if (plainL D.t D.st A B).2.2.2 = false ∨ endsF D.st (plainL D.t D.st A B).1 = false ∨ (10 : Int) < (D.below : Int) + D.st.length - (plainL D.t D.st A B).1.length + (plainL D.t D.st A B).2.1.length then D
    else { D with body := D.body ++ [⟨A, (plainL D.t D.st A B).2.2.1, z⟩], st := D.st.take (D.st.length - (plainL D.t D.st A B).1.length) ++ (plainL D.t D.st A B).2.1 }

def LayRes (db : Nat) (w : World) (D : Dv) (A B : Int) (e : Ending) (w' : World) : Prop :=
  e = .returned (.tuple #[]) ∧ (∃ z vb vt vc, DAt w' db (layL D A B z) vb vt vc) ∧ Below db w w'

def LPost (db : Nat) (w : World) (D : Dv) (A B : Int) : Exit → Act → World → Prop := bodyPost Try.prog Try.f10 (fun e w' => LayRes db w D A B e w')

/-- the world behind lay's head -/
structure LyW (w W : World) (db b3 b5 : Nat) (D : Dv) (vb vt vc : Value) (K A B C : Int) (S T : List UInt8) : Prop where
  be : Below w.heap.size w W
  at_ : DAt w db D vb vt vc
  o1 : w.heap.size ≤ b3
  o2 : b3 < b5
  o4 : b5 < W.heap.size
  e0 : W.cell? ⟨b3, 0, none⟩ = some (.int .i64 K)
  e1 : W.cell? ⟨b3, 1, none⟩ = some (.int .i64 A)
  e2 : W.cell? ⟨b3, 2, none⟩ = some (.int .i64 B)
  e3 : W.cell? ⟨b3, 3, none⟩ = some (.int .i64 C)
  e4 : W.cell? ⟨b3, 4, none⟩ = some (.string ⟨S.toArray⟩)
  e5 : W.cell? ⟨b3, 5, none⟩ = some (.string ⟨T.toArray⟩)
  x0 : W.cell? ⟨b5, 0, none⟩ = some (.int .u8 A)
  x1 : W.cell? ⟨b5, 1, none⟩ = some (.int .u32 0)
  x2 : W.cell? ⟨b5, 2, none⟩ = some (.int .u64 0)
  xf : ∀ o, W.frozen? ⟨b5, o, none⟩ = false

theorem LyW.next {w W W' : World} {db b3 b5 : Nat} {D : Dv} {vb vt vc : Value} {K A B C : Int} {S T : List UInt8} (hb : Below W.heap.size W W') (h : LyW w W db b3 b5 D vb vt vc K A B C S T) : LyW w W' db b3 b5 D vb vt vc K A B C S T := by
  have o1 := h.o1
  have o2 := h.o2
  have o4 := h.o4
  have hs := hb.size
  have hw := h.be.size
  have k : ∀ b o, b ≤ b5 → W'.cell? ⟨b, o, none⟩ = W.cell? ⟨b, o, none⟩ := fun b o hb' => hb.cell (p := ⟨b, o, none⟩) (by simp only []; omega)
  have z : ∀ b o, b ≤ b5 → W'.frozen? ⟨b, o, none⟩ = W.frozen? ⟨b, o, none⟩ := fun b o hb' => hb.frozen (p := ⟨b, o, none⟩) (by simp only []; omega)
  exact ⟨h.be.trans (hb.mono (by omega)), h.at_, o1, o2, by omega, (k _ _ (by omega)).trans h.e0, (k _ _ (by omega)).trans h.e1, (k _ _ (by omega)).trans h.e2, (k _ _ (by omega)).trans h.e3, (k _ _ (by omega)).trans h.e4, (k _ _ (by omega)).trans h.e5,
    (k _ _ (by omega)).trans h.x0, (k _ _ (by omega)).trans h.x1, (k _ _ (by omega)).trans h.x2, fun o => (z _ _ (by omega)).trans (h.xf o)⟩
theorem LyW.now {w W : World} {db b3 b5 : Nat} {D : Dv} {vb vt vc : Value} {K A B C : Int} {S T : List UInt8} (h : LyW w W db b3 b5 D vb vt vc K A B C S T) : DAt W db D vb vt vc := h.at_.below h.be
theorem LyW.bed {w W : World} {db b3 b5 : Nat} {D : Dv} {vb vt vc : Value} {K A B C : Int} {S T : List UInt8} (h : LyW w W db b3 b5 D vb vt vc K A B C S T) : Below db w W := h.be.mono (Nat.le_of_lt h.at_.lt)
/-- the rows' blocks are old -/
theorem own_lt {w : World} {base : Nat} {e : TypeId} {size : Nat} {v : Value} {n : Nat} {xs : List Value} (h : w.ownsRow base e size v n xs) {g : Nat} (hg : v.ownBlock = some g) : g < w.heap.size := by
  obtain ⟨_, cur, fr, h2⟩ := ownsRow_block h hg
  rcases Nat.lt_or_ge g w.heap.size with h7 | h7
  · exact h7
  · rw [Array.getElem?_eq_none h7] at h2; exact absurd h2 (by simp)

def LGoal (w W : World) (db b3 b5 : Nat) (D : Dv) (A B : Int) : Prop :=
  ∀ (c : Code) (a : Act), LTail 7 c → LFr db b3 b5 A a → c.wp Try.prog (LPost db w D A B) a W

set_option maxRecDepth 100000 in
set_option maxHeartbeats 4000000 in
theorem lay_end (db b5 : Nat) (w : World) (D E : Dv) (A B z xo xx xy : Int) (vb vt vc : Value) (W1 : World) (c : Code) (hc : LTail 8 c) (a : Act) (hd : a.defers = []) (hn : a.tmps.size = 522) (h0 : a.tmps.getD 0 undef = .pointer (some ⟨db, 0, none⟩)) (h5 : a.tmps.getD 5 undef = .pointer (some ⟨b5, 0, none⟩))
    (hD1 : DAt W1 db E vb vt vc) (hbe : Below db w W1) (k0 : W1.cell? ⟨b5, 0, none⟩ = some (.int .u8 xo)) (k1 : W1.cell? ⟨b5, 1, none⟩ = some (.int .u32 xx)) (k2 : W1.cell? ⟨b5, 2, none⟩ = some (.int .u64 xy)) (hlen : E.body.length ≤ 900)
    (hE : ({ E with body := E.body ++ [⟨xo, xx, xy⟩] } : Dv) = layL D A B z) : c.wp Try.prog (LPost db w D A B) a W1 := by
  obtain ⟨i0, hi0, hz0, hz1, hz2⟩ := info_parts Try.info42
  unfold LTail at hc
  simp only [Try.f10, Option.map, dropC, Option.some.injEq] at hc
  obtain ⟨v3, h3⟩ : ∃ v, a.tmps.getD 3 undef = v := ⟨_, rfl⟩
  obtain ⟨v4, h4⟩ : ∃ v, a.tmps.getD 4 undef = v := ⟨_, rfl⟩
  obtain ⟨v6, h6⟩ : ∃ v, a.tmps.getD 6 undef = v := ⟨_, rfl⟩
  obtain ⟨s, rfl⟩ := frame10 a _ v3 v4 _ v6 hd hn h0 h3 h4 h5 h6
  clear hd hn h0 h5 h3 h4 h6
  subst hc
  unfold LPost
  have kl : b5 < W1.heap.size := World.block_lt_of_cell? _ _ k0
  have hlp1 := hD1.lt
  have c2 := hD1.c2
  have c2a : ∀ ob, (W1.alloc ob).cell? ⟨db, 2, none⟩ = some vb := fun ob => (hD1.alloc ob).c2
  have z2a : ∀ ob, (W1.alloc ob).frozen? ⟨db, 2, none⟩ = false := fun ob => (hD1.alloc ob).fz 2
  have k0a : ∀ ob, (W1.alloc ob).cell? ⟨b5, 0, none⟩ = some (.int .u8 xo) := fun ob => (oldc kl).trans k0
  have k1a : ∀ ob, (W1.alloc ob).cell? ⟨b5, 1, none⟩ = some (.int .u32 xx) := fun ob => (oldc kl).trans k1
  have k2a : ∀ ob, (W1.alloc ob).cell? ⟨b5, 2, none⟩ = some (.int .u64 xy) := fun ob => (oldc kl).trans k2
  have HDm : Hid (DAt (W1.alloc (.cells #[.int .u8 xo, .int .u32 xx, .int .u64 xy] 42)).drew db E vb vt vc) := (hD1.alloc _).drew
  have hbm : Hid (Below db w (W1.alloc (.cells #[.int .u8 xo, .int .u32 xx, .int .u64 xy] 42)).drew) := (hbe.alloc (by have := hbe.size; omega) _).drew
  have HE : Hid (({ E with body := E.body ++ [⟨xo, xx, xy⟩] } : Dv) = layL D A B z) := hE
  clear hD1 hE hbe
  go_wp2_with fail
  go_region_law ((refine step_append_lies _ (by rfl) _ _ _ (by rfl) (db + 1) 42 i0 _ 3 16 Try.underlying28 hi0 hz0 hz1 hz2 rfl (by omega) vb E.body.length (insCells E.body) (by rfl) HDm.out.ob ⟨W1.heap.size, 0, none⟩ 1 1 [.int .u8 xo, .int .u32 xx, .int .u64 xy] (by rfl) (by rfl) (World.news_of_block (cs := #[.int .u8 xo, .int .u32 xx, .int .u64 xy]) (t := 42) (fr := (0, 0)) (heap_alloc_new W1 _)) (by simp [Value.oneCell']) (by omega) (by unfold maxLen; omega) (by omega) (by simp; omega) (W1.heap.size + 1) (by simp) ?_; intro g cap w1 hown1 hgrow hat hlt; have q1 : w1.cell? ⟨db, 2, none⟩ = some vb := (hgrow.cell_far ⟨db, 2, none⟩ (by simp; omega) (far HDm.out.ob (Nat.le_refl _))).trans (c2a _); have q2 : w1.frozen? ⟨db, 2, none⟩ = false := (hgrow.frozen_far ⟨db, 2, none⟩ (by simp; omega) (far HDm.out.ob (Nat.le_refl _))).trans (z2a _)))
  all_goals (go_wp2_with fail)
  all_goals go_end0
  all_goals exact ⟨rfl, ⟨z, _, _, _, HE.out ▸ HDm.out.pushBody hgrow ⟨xo, xx, xy⟩ g cap hown1⟩, hbm.out.trans (grown_below HDm.out hgrow _ _)⟩

theorem lyw0 {w : World} {db : Nat} {D : Dv} {vb vt vc : Value} (K A B C : Int) (S T : List UInt8) (hD : DAt w db D vb vt vc) :
    LyW w ((w.alloc (.cells #[.int .i64 K, .int .i64 A, .int .i64 B, .int .i64 C, .string ⟨S.toArray⟩, .string ⟨T.toArray⟩] 34)).alloc (.cells #[.int .u8 A, .int .u32 0, .int .u64 0] 42)) db w.heap.size (w.heap.size + 1) D vb vt vc K A B C S T := by
  have s1 : (w.alloc (.cells #[.int .i64 K, .int .i64 A, .int .i64 B, .int .i64 C, .string ⟨S.toArray⟩, .string ⟨T.toArray⟩] 34)).heap.size = w.heap.size + 1 := World.size_alloc _ _
  have a1 := World.cell?_alloc_new w #[.int .i64 K, .int .i64 A, .int .i64 B, .int .i64 C, .string ⟨S.toArray⟩, .string ⟨T.toArray⟩] 34
  have a2 := World.cell?_alloc_new (w.alloc (.cells #[.int .i64 K, .int .i64 A, .int .i64 B, .int .i64 C, .string ⟨S.toArray⟩, .string ⟨T.toArray⟩] 34)) #[.int .u8 A, .int .u32 0, .int .u64 0] 42
  have z2 := fun o => World.frozen?_alloc_at (w := w.alloc (.cells #[.int .i64 K, .int .i64 A, .int .i64 B, .int .i64 C, .string ⟨S.toArray⟩, .string ⟨T.toArray⟩] 34)) #[.int .u8 A, .int .u32 0, .int .u64 0] 42 _ o rfl
  rw [s1] at a2 z2
  generalize (Obj.cells #[.int .u8 A, .int .u32 0, .int .u64 0] 42) = o2 at *
  generalize (Obj.cells #[.int .i64 K, .int .i64 A, .int .i64 B, .int .i64 C, .string ⟨S.toArray⟩, .string ⟨T.toArray⟩] 34) = o1 at *
  refine ⟨((Below.refl _ _).alloc (Nat.le_refl _) _).alloc (by omega) _, hD, Nat.le_refl _, by omega, by rw [World.size_alloc, s1]; omega, ?_, ?_, ?_, ?_, ?_, ?_, a2 0, a2 1, a2 2, z2⟩
  · rw [oldc (by omega)]; exact a1 0
  · rw [oldc (by omega)]; exact a1 1
  · rw [oldc (by omega)]; exact a1 2
  · rw [oldc (by omega)]; exact a1 3
  · rw [oldc (by omega)]; exact a1 4
  · rw [oldc (by omega)]; exact a1 5

end Go.Proofs.Qxb6500273a
