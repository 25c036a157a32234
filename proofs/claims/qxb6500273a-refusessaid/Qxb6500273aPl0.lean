/-
  plain: its frame and its world behind the head.
-/
import Derived.Test.Qxb6500273aOwed
import Derived.Test.Qxb6500273aBodyA
import Derived.Test.Qxb6500273aSim2
import Derived.Deep.Cut
set_option linter.unusedVariables false
set_option linter.unusedSimpArgs false
namespace Go.Proofs.Qxb6500273a
open Go.RowKit

/-- a sequence without its first n statements -/
def dropC : Nat → Code → Code
  | 0, c => c
  | n + 1, .seq _ b => dropC n b
  | _ + 1, c => c

/-- a step as it is handed -/
def opD (K A B C : Int) (S T : List UInt8) : Value := .agg #[.int .i64 K, .int .i64 A, .int .i64 B, .int .i64 C, .string ⟨S.toArray⟩, .string ⟨T.toArray⟩]

def PTail (c : Code) : Prop := Try.f26.body.map (dropC 10) = some c

set_option maxRecDepth 100000 in
theorem frame26 (a : Act) (v0 v3 v4 v5 v6 v7 v8 v9 v12 v13 v16 v17 v19 v20 v21 : Value) (hd : a.defers = []) (hs : a.tmps.size = 341) (h0 : a.tmps.getD 0 undef = v0) (h3 : a.tmps.getD 3 undef = v3) (h4 : a.tmps.getD 4 undef = v4) (h5 : a.tmps.getD 5 undef = v5) (h6 : a.tmps.getD 6 undef = v6) (h7 : a.tmps.getD 7 undef = v7) (h8 : a.tmps.getD 8 undef = v8) (h9 : a.tmps.getD 9 undef = v9) (h12 : a.tmps.getD 12 undef = v12) (h13 : a.tmps.getD 13 undef = v13) (h16 : a.tmps.getD 16 undef = v16) (h17 : a.tmps.getD 17 undef = v17) (h19 : a.tmps.getD 19 undef = v19) (h20 : a.tmps.getD 20 undef = v20) (h21 : a.tmps.getD 21 undef = v21) :
    ∃ s : Nat → Value, a = ⟨#[v0, s 1, s 2, v3, v4, v5, v6, v7, v8, v9, s 10, s 11, v12, v13, s 14, s 15, v16, v17, s 18, v19, v20, v21, s 22, s 23, s 24, s 25, s 26, s 27, s 28, s 29, s 30, s 31, s 32, s 33, s 34, s 35, s 36, s 37, s 38, s 39, s 40, s 41, s 42, s 43, s 44, s 45, s 46, s 47, s 48, s 49, s 50, s 51, s 52, s 53, s 54, s 55, s 56, s 57, s 58, s 59, s 60, s 61, s 62, s 63, s 64, s 65, s 66, s 67, s 68, s 69, s 70, s 71, s 72, s 73, s 74, s 75, s 76, s 77, s 78, s 79, s 80, s 81, s 82, s 83, s 84, s 85, s 86, s 87, s 88, s 89, s 90, s 91, s 92, s 93, s 94, s 95, s 96, s 97, s 98, s 99, s 100, s 101, s 102, s 103, s 104, s 105, s 106, s 107, s 108, s 109, s 110, s 111, s 112, s 113, s 114, s 115, s 116, s 117, s 118, s 119, s 120, s 121, s 122, s 123, s 124, s 125, s 126, s 127, s 128, s 129, s 130, s 131, s 132, s 133, s 134, s 135, s 136, s 137, s 138, s 139, s 140, s 141, s 142, s 143, s 144, s 145, s 146, s 147, s 148, s 149, s 150, s 151, s 152, s 153, s 154, s 155, s 156, s 157, s 158, s 159, s 160, s 161, s 162, s 163, s 164, s 165, s 166, s 167, s 168, s 169, s 170, s 171, s 172, s 173, s 174, s 175, s 176, s 177, s 178, s 179, s 180, s 181, s 182, s 183, s 184, s 185, s 186, s 187, s 188, s 189, s 190, s 191, s 192, s 193, s 194, s 195, s 196, s 197, s 198, s 199, s 200, s 201, s 202, s 203, s 204, s 205, s 206, s 207, s 208, s 209, s 210, s 211, s 212, s 213, s 214, s 215, s 216, s 217, s 218, s 219, s 220, s 221, s 222, s 223, s 224, s 225, s 226, s 227, s 228, s 229, s 230, s 231, s 232, s 233, s 234, s 235, s 236, s 237, s 238, s 239, s 240, s 241, s 242, s 243, s 244, s 245, s 246, s 247, s 248, s 249, s 250, s 251, s 252, s 253, s 254, s 255, s 256, s 257, s 258, s 259, s 260, s 261, s 262, s 263, s 264, s 265, s 266, s 267, s 268, s 269, s 270, s 271, s 272, s 273, s 274, s 275, s 276, s 277, s 278, s 279, s 280, s 281, s 282, s 283, s 284, s 285, s 286, s 287, s 288, s 289, s 290, s 291, s 292, s 293, s 294, s 295, s 296, s 297, s 298, s 299, s 300, s 301, s 302, s 303, s 304, s 305, s 306, s 307, s 308, s 309, s 310, s 311, s 312, s 313, s 314, s 315, s 316, s 317, s 318, s 319, s 320, s 321, s 322, s 323, s 324, s 325, s 326, s 327, s 328, s 329, s 330, s 331, s 332, s 333, s 334, s 335, s 336, s 337, s 338, s 339, s 340], []⟩ := by
  have h := act_slots 341 a hd hs
  subst h0 h3 h4 h5 h6 h7 h8 h9 h12 h13 h16 h17 h19 h20 h21
  exact ⟨fun i => a.tmps.getD i undef, h⟩

/-- the frame behind plain's head -/
structure PFr (db b3 b6 b9 : Nat) (ps : List UInt8) (A : Int) (a : Act) : Prop where
  d : a.defers = []
  n : a.tmps.size = 341
  h0 : a.tmps.getD 0 undef = .pointer (some ⟨db, 0, none⟩)
  h3 : a.tmps.getD 3 undef = .pointer (some ⟨b3, 0, none⟩)
  h4 : a.tmps.getD 4 undef = .string ⟨#[]⟩
  h5 : a.tmps.getD 5 undef = .string ⟨#[]⟩
  h6 : a.tmps.getD 6 undef = .pointer (some ⟨b6, 0, none⟩)
  h7 : a.tmps.getD 7 undef = .bool false
  h8 : a.tmps.getD 8 undef = .int .i64 A
  h9 : a.tmps.getD 9 undef = .pointer (some ⟨b9, 0, none⟩)
  h12 : a.tmps.getD 12 undef = .string ⟨(ps ++ allFour).toArray⟩
  h13 : a.tmps.getD 13 undef = .int .i64 (numSigF A).1
  h16 : a.tmps.getD 16 undef = .int .i64 (memSigF A).1
  h17 : a.tmps.getD 17 undef = .int .u8 (memSigF A).2.1
  h19 : a.tmps.getD 19 undef = .string ⟨#[127]⟩
  h20 : a.tmps.getD 20 undef = .string ⟨(strF (numSigF A).2.1).toArray⟩
  h21 : a.tmps.getD 21 undef = .string ⟨(strF (numSigF A).2.2).toArray⟩

/-- the world behind plain's head -/
structure PlW (w W : World) (db b3 b6 b9 : Nat) (D : Dv) (A B C : Int) : Prop where
  be : Below w.heap.size w W
  o0 : db < w.heap.size
  o1 : w.heap.size ≤ b3
  o2 : b3 < b6
  o3 : b6 < b9
  o4 : b9 < W.heap.size
  d1 : W.cell? ⟨db, 1, none⟩ = some (.int .i64 D.t)
  d4 : W.cell? ⟨db, 4, none⟩ = some (.string ⟨D.st.toArray⟩)
  e1 : W.cell? ⟨b3, 1, none⟩ = some (.int .i64 A)
  e2 : W.cell? ⟨b3, 2, none⟩ = some (.int .i64 B)
  e3 : W.cell? ⟨b3, 3, none⟩ = some (.int .i64 C)
  r0 : W.cell? ⟨b6, 0, none⟩ = some (.int .u8 0)
  r1 : W.cell? ⟨b6, 1, none⟩ = some (.int .u32 0)
  r2 : W.cell? ⟨b6, 2, none⟩ = some (.int .u64 0)
  rf : ∀ o, W.frozen? ⟨b6, o, none⟩ = false
  x0 : W.cell? ⟨b9, 0, none⟩ = some (.int .u8 A)
  x1 : W.cell? ⟨b9, 1, none⟩ = some (.int .u32 0)
  x2 : W.cell? ⟨b9, 2, none⟩ = some (.int .u64 0)
  xf : ∀ o, W.frozen? ⟨b9, o, none⟩ = false

theorem PlW.next {w W W' : World} {db b3 b6 b9 : Nat} {D : Dv} {A B C : Int} (hb : Below W.heap.size W W') (h : PlW w W db b3 b6 b9 D A B C) : PlW w W' db b3 b6 b9 D A B C := by
  have o0 := h.o0
  have o1 := h.o1
  have o2 := h.o2
  have o3 := h.o3
  have o4 := h.o4
  have hs := hb.size
  have hw := h.be.size
  have k : ∀ b o, b ≤ b9 → W'.cell? ⟨b, o, none⟩ = W.cell? ⟨b, o, none⟩ := fun b o hb' => hb.cell (p := ⟨b, o, none⟩) (by simp only []; omega)
  have z : ∀ b o, b ≤ b9 → W'.frozen? ⟨b, o, none⟩ = W.frozen? ⟨b, o, none⟩ := fun b o hb' => hb.frozen (p := ⟨b, o, none⟩) (by simp only []; omega)
  exact ⟨h.be.trans (hb.mono (by omega)), o0, o1, o2, o3, by omega, (k _ _ (by omega)).trans h.d1, (k _ _ (by omega)).trans h.d4, (k _ _ (by omega)).trans h.e1, (k _ _ (by omega)).trans h.e2, (k _ _ (by omega)).trans h.e3,
    (k _ _ (by omega)).trans h.r0, (k _ _ (by omega)).trans h.r1, (k _ _ (by omega)).trans h.r2, fun o => (z _ _ (by omega)).trans (h.rf o), (k _ _ (by omega)).trans h.x0, (k _ _ (by omega)).trans h.x1, (k _ _ (by omega)).trans h.x2, fun o => (z _ _ (by omega)).trans (h.xf o)⟩
theorem PlW.alloc {w W : World} {db b3 b6 b9 : Nat} {D : Dv} {A B C : Int} (h : PlW w W db b3 b6 b9 D A B C) (o : Obj) : PlW w (W.alloc o) db b3 b6 b9 D A B C := h.next ((Below.refl _ _).alloc (Nat.le_refl _) o)

theorem plw0 {w : World} {db : Nat} {D : Dv} (K A B C : Int) (S T : List UInt8) (hd : db < w.heap.size)
    (c1 : (((w.alloc (.cells #[.int .i64 K, .int .i64 A, .int .i64 B, .int .i64 C, .string ⟨S.toArray⟩, .string ⟨T.toArray⟩] 34)).alloc (.cells #[.int .u8 0, .int .u32 0, .int .u64 0] 42)).alloc (.cells #[.int .u8 A, .int .u32 0, .int .u64 0] 42)).cell? ⟨db, 1, none⟩ = some (.int .i64 D.t))
    (c4 : (((w.alloc (.cells #[.int .i64 K, .int .i64 A, .int .i64 B, .int .i64 C, .string ⟨S.toArray⟩, .string ⟨T.toArray⟩] 34)).alloc (.cells #[.int .u8 0, .int .u32 0, .int .u64 0] 42)).alloc (.cells #[.int .u8 A, .int .u32 0, .int .u64 0] 42)).cell? ⟨db, 4, none⟩ = some (.string ⟨D.st.toArray⟩)) :
    PlW w (((w.alloc (.cells #[.int .i64 K, .int .i64 A, .int .i64 B, .int .i64 C, .string ⟨S.toArray⟩, .string ⟨T.toArray⟩] 34)).alloc (.cells #[.int .u8 0, .int .u32 0, .int .u64 0] 42)).alloc (.cells #[.int .u8 A, .int .u32 0, .int .u64 0] 42)) db w.heap.size (w.heap.size + 1) (w.heap.size + 1 + 1) D A B C := by
  have s1 : (w.alloc (.cells #[.int .i64 K, .int .i64 A, .int .i64 B, .int .i64 C, .string ⟨S.toArray⟩, .string ⟨T.toArray⟩] 34)).heap.size = w.heap.size + 1 := World.size_alloc _ _
  have s2 : ((w.alloc (.cells #[.int .i64 K, .int .i64 A, .int .i64 B, .int .i64 C, .string ⟨S.toArray⟩, .string ⟨T.toArray⟩] 34)).alloc (.cells #[.int .u8 0, .int .u32 0, .int .u64 0] 42)).heap.size = w.heap.size + 1 + 1 := by rw [World.size_alloc, s1]
  have a1 := World.cell?_alloc_new w #[.int .i64 K, .int .i64 A, .int .i64 B, .int .i64 C, .string ⟨S.toArray⟩, .string ⟨T.toArray⟩] 34
  have a2 := World.cell?_alloc_new (w.alloc (.cells #[.int .i64 K, .int .i64 A, .int .i64 B, .int .i64 C, .string ⟨S.toArray⟩, .string ⟨T.toArray⟩] 34)) #[.int .u8 0, .int .u32 0, .int .u64 0] 42
  have a3 := World.cell?_alloc_new ((w.alloc (.cells #[.int .i64 K, .int .i64 A, .int .i64 B, .int .i64 C, .string ⟨S.toArray⟩, .string ⟨T.toArray⟩] 34)).alloc (.cells #[.int .u8 0, .int .u32 0, .int .u64 0] 42)) #[.int .u8 A, .int .u32 0, .int .u64 0] 42
  have z2 := fun o => World.frozen?_alloc_at (w := w.alloc (.cells #[.int .i64 K, .int .i64 A, .int .i64 B, .int .i64 C, .string ⟨S.toArray⟩, .string ⟨T.toArray⟩] 34)) #[.int .u8 0, .int .u32 0, .int .u64 0] 42 _ o rfl
  have z3 := fun o => World.frozen?_alloc_at (w := (w.alloc (.cells #[.int .i64 K, .int .i64 A, .int .i64 B, .int .i64 C, .string ⟨S.toArray⟩, .string ⟨T.toArray⟩] 34)).alloc (.cells #[.int .u8 0, .int .u32 0, .int .u64 0] 42)) #[.int .u8 A, .int .u32 0, .int .u64 0] 42 _ o rfl
  rw [s1] at a2 z2
  rw [s2] at a3 z3
  generalize (Obj.cells #[.int .u8 A, .int .u32 0, .int .u64 0] 42) = o3 at *
  generalize (Obj.cells #[.int .u8 0, .int .u32 0, .int .u64 0] 42) = o2 at *
  generalize (Obj.cells #[.int .i64 K, .int .i64 A, .int .i64 B, .int .i64 C, .string ⟨S.toArray⟩, .string ⟨T.toArray⟩] 34) = o1 at *
  refine ⟨(((Below.refl _ _).alloc (Nat.le_refl _) _).alloc (by omega) _).alloc (by omega) _, hd, Nat.le_refl _, by omega, by omega, by rw [World.size_alloc, s2]; omega, c1, c4, ?_, ?_, ?_, ?_, ?_, ?_, ?_, a3 0, a3 1, a3 2, z3⟩
  · rw [oldc (by omega), oldc (by omega)]; exact a1 1
  · rw [oldc (by omega), oldc (by omega)]; exact a1 2
  · rw [oldc (by omega), oldc (by omega)]; exact a1 3
  · rw [oldc (by omega)]; exact a2 0
  · rw [oldc (by omega)]; exact a2 1
  · rw [oldc (by omega)]; exact a2 2
  · intro o
    rw [((Below.refl _ _).alloc (Nat.le_refl _) o3).frozen (p := ⟨w.heap.size + 1, o, none⟩) (by simp only []; omega)]
    exact z2 o

/-- what plain answers -/
def PlainRes (t : Int) (st : List UInt8) (A B : Int) (e : Ending) : Prop :=
  ∃ z : Int, e = .returned (.tuple #[.string ⟨(plainL t st A B).1.toArray⟩, .string ⟨(plainL t st A B).2.1.toArray⟩, .agg #[.int .u8 A, .int .u32 (plainL t st A B).2.2.1, .int .u64 z], .bool (plainL t st A B).2.2.2])

def PPost (w : World) (t : Int) (st : List UInt8) (A B : Int) : Exit → Act → World → Prop := bodyPost Try.prog Try.f26 (fun e w' => PlainRes t st A B e ∧ Below w.heap.size w w')

theorem numSig_byte (op : Int) : (0 ≤ (numSigF op).2.1 ∧ (numSigF op).2.1 ≤ 255) ∧ (0 ≤ (numSigF op).2.2 ∧ (numSigF op).2.2 ≤ 255) := by
  unfold numSigF
  repeat' (refine ite_ind (P := fun p : Int × Int × Int => (0 ≤ p.2.1 ∧ p.2.1 ≤ 255) ∧ (0 ≤ p.2.2 ∧ p.2.2 ≤ 255)) (fun _ => ?_) (fun _ => ?_))
  all_goals decide

theorem results26c {tmps : Array Value} {w : World} {b6 : Nat} (x0 x1 x2 : Value) (h6 : tmps.getD 6 undef = .pointer (some ⟨b6, 0, none⟩)) (c0 : w.cell? ⟨b6, 0, none⟩ = some x0) (c1 : w.cell? ⟨b6, 1, none⟩ = some x1) (c2 : w.cell? ⟨b6, 2, none⟩ = some x2) :
    (results Try.f26 tmps).run Try.prog w = .ok (.tuple #[tmps.getD 4 undef, tmps.getD 5 undef, .agg #[x0, x1, x2], tmps.getD 7 undef]) w := by
  have h6' : tmps[6]?.getD undef = .pointer (some ⟨b6, 0, none⟩) := by simpa using h6
  simp [results, h6', go_sem, c0, c1, c2]

theorem ret4 {a a' b b' x c c' : Value} (h4 : a = a') (h5 : b = b') (h7 : c = c') : Ending.returned (.tuple #[a, b, x, c]) = Ending.returned (.tuple #[a', b', x, c']) := by rw [h4, h5, h7]
theorem ext_one (st : List UInt8) (t : UInt8) : (ByteArray.mk (st ++ [t]).toArray).extract st.length (st.length + 1) = ByteArray.mk [t].toArray := by
  rw [ext_list]; simp [List.take_append, List.drop_append]
theorem ext_mid (st : List UInt8) (x y z : UInt8) : (ByteArray.mk (st ++ [x, y, z]).toArray).extract (st.length + 1) (st.length + 2) = ByteArray.mk [y].toArray := by
  rw [ext_list]; simp [List.take_append, List.drop_append]
theorem ext_mid3 (st : List UInt8) (x y z : UInt8) : (ByteArray.mk (st ++ [x, y, z]).toArray).extract (st.length + 1) (st.length + 2) ++ (ByteArray.mk (st ++ [x, y, z]).toArray).extract (st.length + 1) (st.length + 2) ++ ByteArray.mk #[127] = ByteArray.mk [y, y, 127].toArray := by
  rw [ext_mid]; rfl
theorem ext_at (lo : List UInt8) (k : Nat) : (ByteArray.mk lo.toArray).extract k (k + 1) = ByteArray.mk ((lo.drop k).take 1).toArray := by
  rw [ext_list, List.drop_take]; simp

/-- the tail, by a way's goal -/
def PGoal (w W : World) (db b3 b6 b9 : Nat) (D : Dv) (A B C : Int) : Prop :=
  ∀ (c : Code) (a : Act), PTail c → PFr db b3 b6 b9 (sidesF D.t).1 A a → c.wp Try.prog (PPost w D.t D.st A B) a W

end Go.Proofs.Qxb6500273a
