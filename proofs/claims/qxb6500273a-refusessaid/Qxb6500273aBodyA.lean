/-
  The great loop of 'body': its frame.
-/
import Derived.Test.Qxb6500273aPlain
import Derived.Deep.RegionWith
import Derived.Deep.RegionHeld3
namespace Go.Proofs.Qxb6500273a
open Go.RowKit

/-- the first loop within a code -/
def firstLoop : Code → Option Code
  | .loop c => some c
  | .seq a b => match firstLoop a with
    | some c => some c
    | none => firstLoop b
  | .block _ c => firstLoop c
  | .scope c => firstLoop c
  | .cond _ a b => match firstLoop a with
    | some c => some c
    | none => firstLoop b
  | _ => none

/-- c is the round of body's loop -/
def BodyRound (c : Code) : Prop := Try.f30.body.bind firstLoop = some c

theorem cell_past {w : World} {b o o' : Nat} {v : Value} (h : o ≠ o') : (w.setCell ⟨b, o, none⟩ v).cell? ⟨b, o', none⟩ = w.cell? ⟨b, o', none⟩ :=
  World.cell?_setCell_other _ _ _ _ (fun e => h (congrArg Addr.off e))

theorem cell_apart {w : World} {b b' o o' : Nat} {v : Value} (h : b ≠ b') : (w.setCell ⟨b, o, none⟩ v).cell? ⟨b', o', none⟩ = w.cell? ⟨b', o', none⟩ :=
  World.cell?_setCell_other _ _ _ _ (fun e => h (congrArg Addr.block e))

theorem list_slots {A : Type} (d : A) (l : List A) : l = (List.range l.length).map (fun i => l.getD i d) := by
  apply List.ext_getElem
  · simp
  · intro i h1 h2
    simp [h1]

theorem act_slots (n : Nat) (a : Act) (hd : a.defers = []) (hs : a.tmps.size = n) : a = ⟨((List.range n).map (fun i => a.tmps.getD i undef)).toArray, []⟩ := by
  obtain ⟨t, d⟩ := a
  simp only at hd hs
  subst hd
  have h := list_slots undef t.toList
  have e : t = (t.toList).toArray := by simp
  rw [Act.mk.injEq]
  refine ⟨?_, rfl⟩
  conv => lhs; rw [e, h]
  simp [hs]

set_option maxRecDepth 100000 in
theorem frame30 (a : Act) (v0 v1 v2 v8 v10 : Value) (hd : a.defers = []) (hs : a.tmps.size = 410) (h0 : a.tmps.getD 0 undef = v0) (h1 : a.tmps.getD 1 undef = v1) (h2 : a.tmps.getD 2 undef = v2) (h8 : a.tmps.getD 8 undef = v8) (h10 : a.tmps.getD 10 undef = v10) :
    ∃ s : Nat → Value, a = ⟨#[v0, v1, v2, s 3, s 4, s 5, s 6, s 7, v8, s 9, v10, s 11, s 12, s 13, s 14, s 15, s 16, s 17, s 18, s 19, s 20, s 21, s 22, s 23, s 24, s 25, s 26, s 27, s 28, s 29, s 30, s 31, s 32, s 33, s 34, s 35, s 36, s 37, s 38, s 39, s 40, s 41, s 42, s 43, s 44, s 45, s 46, s 47, s 48, s 49, s 50, s 51, s 52, s 53, s 54, s 55, s 56, s 57, s 58, s 59, s 60, s 61, s 62, s 63, s 64, s 65, s 66, s 67, s 68, s 69, s 70, s 71, s 72, s 73, s 74, s 75, s 76, s 77, s 78, s 79, s 80, s 81, s 82, s 83, s 84, s 85, s 86, s 87, s 88, s 89, s 90, s 91, s 92, s 93, s 94, s 95, s 96, s 97, s 98, s 99, s 100, s 101, s 102, s 103, s 104, s 105, s 106, s 107, s 108, s 109, s 110, s 111, s 112, s 113, s 114, s 115, s 116, s 117, s 118, s 119, s 120, s 121, s 122, s 123, s 124, s 125, s 126, s 127, s 128, s 129, s 130, s 131, s 132, s 133, s 134, s 135, s 136, s 137, s 138, s 139, s 140, s 141, s 142, s 143, s 144, s 145, s 146, s 147, s 148, s 149, s 150, s 151, s 152, s 153, s 154, s 155, s 156, s 157, s 158, s 159, s 160, s 161, s 162, s 163, s 164, s 165, s 166, s 167, s 168, s 169, s 170, s 171, s 172, s 173, s 174, s 175, s 176, s 177, s 178, s 179, s 180, s 181, s 182, s 183, s 184, s 185, s 186, s 187, s 188, s 189, s 190, s 191, s 192, s 193, s 194, s 195, s 196, s 197, s 198, s 199, s 200, s 201, s 202, s 203, s 204, s 205, s 206, s 207, s 208, s 209, s 210, s 211, s 212, s 213, s 214, s 215, s 216, s 217, s 218, s 219, s 220, s 221, s 222, s 223, s 224, s 225, s 226, s 227, s 228, s 229, s 230, s 231, s 232, s 233, s 234, s 235, s 236, s 237, s 238, s 239, s 240, s 241, s 242, s 243, s 244, s 245, s 246, s 247, s 248, s 249, s 250, s 251, s 252, s 253, s 254, s 255, s 256, s 257, s 258, s 259, s 260, s 261, s 262, s 263, s 264, s 265, s 266, s 267, s 268, s 269, s 270, s 271, s 272, s 273, s 274, s 275, s 276, s 277, s 278, s 279, s 280, s 281, s 282, s 283, s 284, s 285, s 286, s 287, s 288, s 289, s 290, s 291, s 292, s 293, s 294, s 295, s 296, s 297, s 298, s 299, s 300, s 301, s 302, s 303, s 304, s 305, s 306, s 307, s 308, s 309, s 310, s 311, s 312, s 313, s 314, s 315, s 316, s 317, s 318, s 319, s 320, s 321, s 322, s 323, s 324, s 325, s 326, s 327, s 328, s 329, s 330, s 331, s 332, s 333, s 334, s 335, s 336, s 337, s 338, s 339, s 340, s 341, s 342, s 343, s 344, s 345, s 346, s 347, s 348, s 349, s 350, s 351, s 352, s 353, s 354, s 355, s 356, s 357, s 358, s 359, s 360, s 361, s 362, s 363, s 364, s 365, s 366, s 367, s 368, s 369, s 370, s 371, s 372, s 373, s 374, s 375, s 376, s 377, s 378, s 379, s 380, s 381, s 382, s 383, s 384, s 385, s 386, s 387, s 388, s 389, s 390, s 391, s 392, s 393, s 394, s 395, s 396, s 397, s 398, s 399, s 400, s 401, s 402, s 403, s 404, s 405, s 406, s 407, s 408, s 409], []⟩ := by
  have h := act_slots 410 a hd hs
  subst h0 h1 h2 h8 h10
  exact ⟨fun i => a.tmps.getD i undef, h⟩


/-- what holds at the head of a round -/
structure BRel (bv : Nat) (M : Md) (ps : List UInt8) (R : (Int × Int) × VS) (w : World) (k : Nat) (U : VS) (w' : World) : Prop where
  le : k ≤ M.body.length
  v : VAt w' bv U
  ok : U.Ok
  run : runF M ps M.body.length k U (M.body.drop k) = R
  ex : Ex bv w w'

structure BI (bv : Nat) (L : Lay) (M : Md) (ps : List UInt8) (R : (Int × Int) × VS) (w : World) (a : Act) (w' : World) : Prop where
  d : a.defers = []
  s : a.tmps.size = 410
  h0 : a.tmps.getD 0 undef = .pointer (some ⟨bv, 0, none⟩)
  h1 : a.tmps.getD 1 undef = .pointer (some ⟨L.p, 0, none⟩)
  h2 : a.tmps.getD 2 undef = .pointer (some ⟨L.fb, 0, none⟩)
  h8 : a.tmps.getD 8 undef = .string ⟨ps.toArray⟩
  rel : ∃ (k : Nat) (U : VS), a.tmps.getD 10 undef = .int .i64 (k : Int) ∧ BRel bv M ps R w k U w'

/-- the measure -/
def BMu (M : Md) (a : Act) : Nat := M.body.length - (intOf (a.tmps.getD 10 undef)).toNat

/-- what stands behind the loop wants no more than the answer -/
structure BQ (bv : Nat) (M : Md) (R : (Int × Int) × VS) (w : World) (Q : Exit → Act → World → Prop) : Prop where
  ret : ∀ a w', a.defers = [] → a.tmps.getD 6 undef = .int .i64 R.1.1 → a.tmps.getD 7 undef = .int .i64 R.1.2 → VAt w' bv R.2 → Ex bv w w' → Q .ret a w'

/-- a round from the frame s at place k -/
def BGoal (bv : Nat) (L : Lay) (M : Md) (ps : List UInt8) (R : (Int × Int) × VS) (w : World) (Q : Exit → Act → World → Prop) (c : Code) (s : Nat → Value) (k : Nat) (w' : World) : Prop :=
  Code.wp Try.prog c (Exit.then (fun a' w'' => BI bv L M ps R w a' w'' ∧ BMu M a' < M.body.length - k) Q) ⟨#[.pointer (some ⟨bv, 0, none⟩), .pointer (some ⟨L.p, 0, none⟩), .pointer (some ⟨L.fb, 0, none⟩), s 3, s 4, s 5, s 6, s 7, .string ⟨ps.toArray⟩, s 9, .int .i64 (k : Int), s 11, s 12, s 13, s 14, s 15, s 16, s 17, s 18, s 19, s 20, s 21, s 22, s 23, s 24, s 25, s 26, s 27, s 28, s 29, s 30, s 31, s 32, s 33, s 34, s 35, s 36, s 37, s 38, s 39, s 40, s 41, s 42, s 43, s 44, s 45, s 46, s 47, s 48, s 49, s 50, s 51, s 52, s 53, s 54, s 55, s 56, s 57, s 58, s 59, s 60, s 61, s 62, s 63, s 64, s 65, s 66, s 67, s 68, s 69, s 70, s 71, s 72, s 73, s 74, s 75, s 76, s 77, s 78, s 79, s 80, s 81, s 82, s 83, s 84, s 85, s 86, s 87, s 88, s 89, s 90, s 91, s 92, s 93, s 94, s 95, s 96, s 97, s 98, s 99, s 100, s 101, s 102, s 103, s 104, s 105, s 106, s 107, s 108, s 109, s 110, s 111, s 112, s 113, s 114, s 115, s 116, s 117, s 118, s 119, s 120, s 121, s 122, s 123, s 124, s 125, s 126, s 127, s 128, s 129, s 130, s 131, s 132, s 133, s 134, s 135, s 136, s 137, s 138, s 139, s 140, s 141, s 142, s 143, s 144, s 145, s 146, s 147, s 148, s 149, s 150, s 151, s 152, s 153, s 154, s 155, s 156, s 157, s 158, s 159, s 160, s 161, s 162, s 163, s 164, s 165, s 166, s 167, s 168, s 169, s 170, s 171, s 172, s 173, s 174, s 175, s 176, s 177, s 178, s 179, s 180, s 181, s 182, s 183, s 184, s 185, s 186, s 187, s 188, s 189, s 190, s 191, s 192, s 193, s 194, s 195, s 196, s 197, s 198, s 199, s 200, s 201, s 202, s 203, s 204, s 205, s 206, s 207, s 208, s 209, s 210, s 211, s 212, s 213, s 214, s 215, s 216, s 217, s 218, s 219, s 220, s 221, s 222, s 223, s 224, s 225, s 226, s 227, s 228, s 229, s 230, s 231, s 232, s 233, s 234, s 235, s 236, s 237, s 238, s 239, s 240, s 241, s 242, s 243, s 244, s 245, s 246, s 247, s 248, s 249, s 250, s 251, s 252, s 253, s 254, s 255, s 256, s 257, s 258, s 259, s 260, s 261, s 262, s 263, s 264, s 265, s 266, s 267, s 268, s 269, s 270, s 271, s 272, s 273, s 274, s 275, s 276, s 277, s 278, s 279, s 280, s 281, s 282, s 283, s 284, s 285, s 286, s 287, s 288, s 289, s 290, s 291, s 292, s 293, s 294, s 295, s 296, s 297, s 298, s 299, s 300, s 301, s 302, s 303, s 304, s 305, s 306, s 307, s 308, s 309, s 310, s 311, s 312, s 313, s 314, s 315, s 316, s 317, s 318, s 319, s 320, s 321, s 322, s 323, s 324, s 325, s 326, s 327, s 328, s 329, s 330, s 331, s 332, s 333, s 334, s 335, s 336, s 337, s 338, s 339, s 340, s 341, s 342, s 343, s 344, s 345, s 346, s 347, s 348, s 349, s 350, s 351, s 352, s 353, s 354, s 355, s 356, s 357, s 358, s 359, s 360, s 361, s 362, s 363, s 364, s 365, s 366, s 367, s 368, s 369, s 370, s 371, s 372, s 373, s 374, s 375, s 376, s 377, s 378, s 379, s 380, s 381, s 382, s 383, s 384, s 385, s 386, s 387, s 388, s 389, s 390, s 391, s 392, s 393, s 394, s 395, s 396, s 397, s 398, s 399, s 400, s 401, s 402, s 403, s 404, s 405, s 406, s 407, s 408, s 409], []⟩ w'

theorem openF_ok {V : VS} (ok : V.Ok) (h : V.depth < 7) (o r : Int) : VS.Ok { V with cop := upd V.cop V.depth o, res := upd V.res V.depth r, flr := upd V.flr V.depth V.height, dead := upd V.dead V.depth false, depth := V.depth + 1 } := by
  refine ⟨by simp only []; omega, by simp only []; omega, ok.h10, ?_, ?_⟩
  · simp [upd]
  · intro i j hij hj
    have hj' : j < V.depth + 1 := hj
    clear hj
    simp only [upd]
    have := ok.fl
    by_cases e : j = V.depth
    · subst e
      simp only [if_true]
      split
      · exact Nat.le_refl _
      · have := ok.mono i (V.depth - 1) (by omega) (by omega)
        omega
    · rw [if_neg e, if_neg (by omega)]
      exact ok.mono i j hij (by omega)

/-- the boxed instruction reads as it was while the validator's block alone is written -/
theorem box_cell {bv : Nat} {w' w1 : World} {cs : Array Value} {t : TypeId} (hE : Ex bv (w'.alloc (.cells cs t)) w1) (hb : bv < w'.heap.size) (i : Nat) (v : Value) (h : cs[i]? = some v) : w1.cell? ⟨w'.heap.size, i, none⟩ = some v := by
  rw [hE.cell (p := ⟨w'.heap.size, i, none⟩) (by simp) (by simp only [ne_eq]; omega), World.cell?_alloc_new, h]

theorem box_frozen {bv : Nat} {w' w1 : World} {cs : Array Value} {t : TypeId} (hE : Ex bv (w'.alloc (.cells cs t)) w1) (hb : bv < w'.heap.size) (i : Nat) : w1.frozen? ⟨w'.heap.size, i, none⟩ = false := by
  rw [hE.frozen (p := ⟨w'.heap.size, i, none⟩) (by simp) (by simp only [ne_eq]; omega), World.frozen?_alloc_new]

theorem after_err (pc : Nat) (r : Int × Int × VS) (h : r.2.1 ≠ 0) : after pc r = (some ((pc : Int), r.2.1), r.2.2) := by unfold after; rw [if_pos h]
theorem after_none (pc : Nat) (r : Int × Int × VS) (h : r.2.1 = 0) (h2 : r.1 = 64) : after pc r = (none, r.2.2) := by unfold after; rw [if_neg (by simp [h]), if_neg (by simp [h2])]
theorem after_push (pc : Nat) (r : Int × Int × VS) (h : r.2.1 = 0) (h2 : r.1 ≠ 64) (h3 : (pushF r.2.2 r.1).1 = true) : after pc r = (none, (pushF r.2.2 r.1).2) := by unfold after; rw [if_neg (by simp [h]), if_pos h2, if_pos h3]
theorem after_deep (pc : Nat) (r : Int × Int × VS) (h : r.2.1 = 0) (h2 : r.1 ≠ 64) (h3 : (pushF r.2.2 r.1).1 = false) : after pc r = (some ((pc : Int), 28), (pushF r.2.2 r.1).2) := by unfold after; rw [if_neg (by simp [h]), if_pos h2, if_neg (by simp [h3])]

theorem runF_step (M : Md) (ps : List UInt8) (n k : Nat) (U : VS) (x : Insn) (hlt : k < M.body.length) (hx : M.body.getD k ins0 = x) :
    runF M ps n k U (M.body.drop k) = match stepF M ps n k U x with
      | (some e, V') => (e, V')
      | (none, V') => runF M ps n (k + 1) V' (M.body.drop (k + 1)) := by
  have e : M.body.drop k = x :: M.body.drop (k + 1) := by
    rw [List.drop_eq_getElem_cons hlt, ← hx, List.getD_eq_getElem?_getD, List.getElem?_eq_getElem hlt]
    rfl
  rw [e]
  rfl

section
variable {bv : Nat} {L : Lay} {M : Md} {ps : List UInt8} {R : (Int × Int) × VS} {w w' w'' : World} {Q : Exit → Act → World → Prop} {k : Nat} {U U' : VS} {x : Insn}

/-- a round that goes on -/
theorem BRel.next (hR : BRel bv M ps R w k U w') (hlt : k < M.body.length) (hx : M.body.getD k ins0 = x) (a : Act) (hst : stepF M ps M.body.length k U x = (none, U')) (hV : VAt w'' bv U') (ok : U'.Ok) (hE : Ex bv w' w'')
    (d : a.defers = []) (s : a.tmps.size = 410) (h0 : a.tmps.getD 0 undef = .pointer (some ⟨bv, 0, none⟩)) (h1 : a.tmps.getD 1 undef = .pointer (some ⟨L.p, 0, none⟩)) (h2 : a.tmps.getD 2 undef = .pointer (some ⟨L.fb, 0, none⟩))
    (h8 : a.tmps.getD 8 undef = .string ⟨ps.toArray⟩) (h10 : a.tmps.getD 10 undef = .int .i64 ((k : Int) + 1)) : BI bv L M ps R w a w'' ∧ BMu M a < M.body.length - k := by
  refine ⟨⟨d, s, h0, h1, h2, h8, k + 1, U', ?_, ⟨hlt, hV, ok, ?_, hR.ex.trans hE⟩⟩, ?_⟩
  · rw [h10]; simp
  · have := hR.run
    rw [runF_step M ps _ k U x hlt hx, hst] at this
    exact this
  · unfold BMu
    rw [h10]
    simp only [intOf]
    omega

/-- a round that answers -/
theorem BRel.done (hR : BRel bv M ps R w k U w') (hQ : BQ bv M R w Q) (hlt : k < M.body.length) (hx : M.body.getD k ins0 = x) {e1 e2 : Int} (a : Act) (hst : stepF M ps M.body.length k U x = (some (e1, e2), U')) (hV : VAt w'' bv U') (hE : Ex bv w' w'')
    (d : a.defers = []) (h6 : a.tmps.getD 6 undef = .int .i64 e1) (h7 : a.tmps.getD 7 undef = .int .i64 e2) : Q .ret a w'' := by
  have := hR.run
  rw [runF_step M ps _ k U x hlt hx, hst] at this
  subst this
  exact hQ.ret a w'' d h6 h7 hV (hR.ex.trans hE)

end

end Go.Proofs.Qxb6500273a
