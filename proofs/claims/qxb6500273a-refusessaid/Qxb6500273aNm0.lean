/-
  nameless: its frame, its head.
-/
import Derived.Test.Qxb6500273aMf0
set_option linter.unusedVariables false
set_option linter.unusedSimpArgs false
namespace Go.Proofs.Qxb6500273a
open Go.RowKit

def NTail (c : Code) : Prop := Try.f31.body.map (dropC 6) = some c

set_option maxRecDepth 100000 in
theorem frame31 (a : Act) (v0 v3 v4 v5 v6 v7 v9 : Value) (hd : a.defers = []) (hs : a.tmps.size = 140) (h0 : a.tmps.getD 0 undef = v0) (h3 : a.tmps.getD 3 undef = v3) (h4 : a.tmps.getD 4 undef = v4) (h5 : a.tmps.getD 5 undef = v5) (h6 : a.tmps.getD 6 undef = v6) (h7 : a.tmps.getD 7 undef = v7) (h9 : a.tmps.getD 9 undef = v9) :
    ∃ s : Nat → Value, a = ⟨#[v0, s 1, s 2, v3, v4, v5, v6, v7, s 8, v9, s 10, s 11, s 12, s 13, s 14, s 15, s 16, s 17, s 18, s 19, s 20, s 21, s 22, s 23, s 24, s 25, s 26, s 27, s 28, s 29, s 30, s 31, s 32, s 33, s 34, s 35, s 36, s 37, s 38, s 39, s 40, s 41, s 42, s 43, s 44, s 45, s 46, s 47, s 48, s 49, s 50, s 51, s 52, s 53, s 54, s 55, s 56, s 57, s 58, s 59, s 60, s 61, s 62, s 63, s 64, s 65, s 66, s 67, s 68, s 69, s 70, s 71, s 72, s 73, s 74, s 75, s 76, s 77, s 78, s 79, s 80, s 81, s 82, s 83, s 84, s 85, s 86, s 87, s 88, s 89, s 90, s 91, s 92, s 93, s 94, s 95, s 96, s 97, s 98, s 99, s 100, s 101, s 102, s 103, s 104, s 105, s 106, s 107, s 108, s 109, s 110, s 111, s 112, s 113, s 114, s 115, s 116, s 117, s 118, s 119, s 120, s 121, s 122, s 123, s 124, s 125, s 126, s 127, s 128, s 129, s 130, s 131, s 132, s 133, s 134, s 135, s 136, s 137, s 138, s 139], []⟩ := by
  have h := act_slots 140 a hd hs
  subst h0 h3 h4 h5 h6 h7 h9
  exact ⟨fun i => a.tmps.getD i undef, h⟩

structure NFr (db b3 b6 b9 : Nat) (ps : List UInt8) (A : Int) (a : Act) : Prop where
  d : a.defers = []
  n : a.tmps.size = 140
  h0 : a.tmps.getD 0 undef = .pointer (some ⟨db, 0, none⟩)
  h3 : a.tmps.getD 3 undef = .pointer (some ⟨b3, 0, none⟩)
  h4 : a.tmps.getD 4 undef = .pointer (some ⟨b6, 0, none⟩)
  h5 : a.tmps.getD 5 undef = .int .i64 0
  h6 : a.tmps.getD 6 undef = .pointer (some ⟨b9, 0, none⟩)
  h7 : a.tmps.getD 7 undef = .string ⟨ps.toArray⟩
  h9 : a.tmps.getD 9 undef = .int .i64 (memSigF A).1

/-- the error that a name which is not there owes -/
def nameErr (D : Dv) (A B : Int) : Int :=
  if 32 ≤ A ∧ A ≤ 34 then if ((sidesF D.t).1.length : Int) + 4 ≤ B then 22 else 0
  else if A = 35 ∨ A = 36 then if 4 ≤ B then 23 else 0
  else if A = 16 then if 2 ≤ B then 15 else 0
  else if A = 17 then if 3 ≤ B then 14 else 0
  else if (memSigF A).1 ≠ 0 then if 3 < B ∨ above (memSigF A).1 B = true then 26 else 0
  else if A = 12 then if (D.ctl.length : Int) < B then 25 else 0
  else if A = 13 then if (D.ctl.length : Int) < B then (if endsF D.st [127] = true then 25 else 27) else 0
  else 0
def namelessL (D : Dv) (A B : Int) : Int × Int :=
  if B < 0 ∨ 4294967295 < B then (0, 0) else (B, nameErr D A B)

def NPost (w : World) (D : Dv) (A B : Int) : Exit → Act → World → Prop := bodyPost Try.prog Try.f31 (fun e w' => e = .returned (.tuple #[.agg #[.int .u8 A, .int .u32 (namelessL D A B).1, .int .u64 0], .int .i64 (namelessL D A B).2]) ∧ Below w.heap.size w w')

theorem results31c {tmps : Array Value} {w : World} {b6 : Nat} (x0 x1 x2 : Value) (h6 : tmps.getD 4 undef = .pointer (some ⟨b6, 0, none⟩)) (c0 : w.cell? ⟨b6, 0, none⟩ = some x0) (c1 : w.cell? ⟨b6, 1, none⟩ = some x1) (c2 : w.cell? ⟨b6, 2, none⟩ = some x2) :
    (results Try.f31 tmps).run Try.prog w = .ok (.tuple #[.agg #[x0, x1, x2], tmps.getD 5 undef]) w := by
  have h6' : tmps[4]?.getD undef = .pointer (some ⟨b6, 0, none⟩) := by simpa using h6
  simp [results, h6', go_sem, c0, c1, c2]

/-- the world behind nameless's head -/
structure NmW (w W : World) (db b3 b6 b9 : Nat) (D : Dv) (A B : Int) : Prop where
  be : Below w.heap.size w W
  o0 : db < w.heap.size
  o1 : w.heap.size ≤ b3
  o2 : b3 < b6
  o3 : b6 < b9
  o4 : b9 < W.heap.size
  d4 : W.cell? ⟨db, 4, none⟩ = some (.string ⟨D.st.toArray⟩)
  d5 : ∃ ca cc, W.cell? ⟨db, 5, none⟩ = some (.slice ca D.ctl.length cc)
  e1 : W.cell? ⟨b3, 1, none⟩ = some (.int .i64 A)
  e2 : W.cell? ⟨b3, 2, none⟩ = some (.int .i64 B)
  r0 : W.cell? ⟨b6, 0, none⟩ = some (.int .u8 0)
  r1 : W.cell? ⟨b6, 1, none⟩ = some (.int .u32 0)
  r2 : W.cell? ⟨b6, 2, none⟩ = some (.int .u64 0)
  rf : ∀ o, W.frozen? ⟨b6, o, none⟩ = false
  x0 : W.cell? ⟨b9, 0, none⟩ = some (.int .u8 A)
  x1 : W.cell? ⟨b9, 1, none⟩ = some (.int .u32 B)
  x2 : W.cell? ⟨b9, 2, none⟩ = some (.int .u64 0)

def NGoal (w W : World) (db b3 b6 b9 : Nat) (D : Dv) (A B : Int) : Prop :=
  ∀ (c : Code) (a : Act), NTail c → NFr db b3 b6 b9 (sidesF D.t).1 A a → c.wp Try.prog (NPost w D A B) a W

theorem NmW.next {w W W' : World} {db b3 b6 b9 : Nat} {D : Dv} {A B : Int} (hb : Below W.heap.size W W') (h : NmW w W db b3 b6 b9 D A B) : NmW w W' db b3 b6 b9 D A B := by
  have o0 := h.o0
  have o1 := h.o1
  have o2 := h.o2
  have o3 := h.o3
  have o4 := h.o4
  have hs := hb.size
  have hw := h.be.size
  have k : ∀ b o, b ≤ b9 → W'.cell? ⟨b, o, none⟩ = W.cell? ⟨b, o, none⟩ := fun b o hb' => hb.cell (p := ⟨b, o, none⟩) (by simp only []; omega)
  have z : ∀ b o, b ≤ b9 → W'.frozen? ⟨b, o, none⟩ = W.frozen? ⟨b, o, none⟩ := fun b o hb' => hb.frozen (p := ⟨b, o, none⟩) (by simp only []; omega)
  obtain ⟨ca, cc, d5⟩ := h.d5
  exact ⟨h.be.trans (hb.mono (by omega)), o0, o1, o2, o3, by omega, (k _ _ (by omega)).trans h.d4, ⟨ca, cc, (k _ _ (by omega)).trans d5⟩, (k _ _ (by omega)).trans h.e1, (k _ _ (by omega)).trans h.e2,
    (k _ _ (by omega)).trans h.r0, (k _ _ (by omega)).trans h.r1, (k _ _ (by omega)).trans h.r2, fun o => (z _ _ (by omega)).trans (h.rf o), (k _ _ (by omega)).trans h.x0, (k _ _ (by omega)).trans h.x1, (k _ _ (by omega)).trans h.x2⟩

theorem nmw0 {w : World} {db : Nat} {D : Dv} (K A B C : Int) (S T : List UInt8) (hd : db < w.heap.size) {ca : Option Addr} {cc : Nat}
    (c4 : ∀ o1 o2 o3, (((w.alloc o1).alloc o2).alloc o3).cell? ⟨db, 4, none⟩ = some (.string ⟨D.st.toArray⟩)) (c5 : ∀ o1 o2 o3, (((w.alloc o1).alloc o2).alloc o3).cell? ⟨db, 5, none⟩ = some (.slice ca D.ctl.length cc)) :
    NmW w (((w.alloc (.cells #[.int .i64 K, .int .i64 A, .int .i64 B, .int .i64 C, .string ⟨S.toArray⟩, .string ⟨T.toArray⟩] 34)).alloc (.cells #[.int .u8 0, .int .u32 0, .int .u64 0] 42)).alloc (.cells #[.int .u8 A, .int .u32 B, .int .u64 0] 42)) db w.heap.size (w.heap.size + 1) (w.heap.size + 1 + 1) D A B := by
  have s1 : (w.alloc (.cells #[.int .i64 K, .int .i64 A, .int .i64 B, .int .i64 C, .string ⟨S.toArray⟩, .string ⟨T.toArray⟩] 34)).heap.size = w.heap.size + 1 := World.size_alloc _ _
  have s2 : ((w.alloc (.cells #[.int .i64 K, .int .i64 A, .int .i64 B, .int .i64 C, .string ⟨S.toArray⟩, .string ⟨T.toArray⟩] 34)).alloc (.cells #[.int .u8 0, .int .u32 0, .int .u64 0] 42)).heap.size = w.heap.size + 1 + 1 := by rw [World.size_alloc, s1]
  have a1 := World.cell?_alloc_new w #[.int .i64 K, .int .i64 A, .int .i64 B, .int .i64 C, .string ⟨S.toArray⟩, .string ⟨T.toArray⟩] 34
  have a2 := World.cell?_alloc_new (w.alloc (.cells #[.int .i64 K, .int .i64 A, .int .i64 B, .int .i64 C, .string ⟨S.toArray⟩, .string ⟨T.toArray⟩] 34)) #[.int .u8 0, .int .u32 0, .int .u64 0] 42
  have a3 := World.cell?_alloc_new ((w.alloc (.cells #[.int .i64 K, .int .i64 A, .int .i64 B, .int .i64 C, .string ⟨S.toArray⟩, .string ⟨T.toArray⟩] 34)).alloc (.cells #[.int .u8 0, .int .u32 0, .int .u64 0] 42)) #[.int .u8 A, .int .u32 B, .int .u64 0] 42
  have z2 := fun o => World.frozen?_alloc_at (w := w.alloc (.cells #[.int .i64 K, .int .i64 A, .int .i64 B, .int .i64 C, .string ⟨S.toArray⟩, .string ⟨T.toArray⟩] 34)) #[.int .u8 0, .int .u32 0, .int .u64 0] 42 _ o rfl
  rw [s1] at a2 z2
  rw [s2] at a3
  have c4' := c4 (.cells #[.int .i64 K, .int .i64 A, .int .i64 B, .int .i64 C, .string ⟨S.toArray⟩, .string ⟨T.toArray⟩] 34) (.cells #[.int .u8 0, .int .u32 0, .int .u64 0] 42) (.cells #[.int .u8 A, .int .u32 B, .int .u64 0] 42)
  have c5' := c5 (.cells #[.int .i64 K, .int .i64 A, .int .i64 B, .int .i64 C, .string ⟨S.toArray⟩, .string ⟨T.toArray⟩] 34) (.cells #[.int .u8 0, .int .u32 0, .int .u64 0] 42) (.cells #[.int .u8 A, .int .u32 B, .int .u64 0] 42)
  generalize (Obj.cells #[.int .u8 A, .int .u32 B, .int .u64 0] 42) = o3 at *
  generalize (Obj.cells #[.int .u8 0, .int .u32 0, .int .u64 0] 42) = o2 at *
  generalize (Obj.cells #[.int .i64 K, .int .i64 A, .int .i64 B, .int .i64 C, .string ⟨S.toArray⟩, .string ⟨T.toArray⟩] 34) = o1 at *
  refine ⟨(((Below.refl _ _).alloc (Nat.le_refl _) _).alloc (by omega) _).alloc (by omega) _, hd, Nat.le_refl _, by omega, by omega, by rw [World.size_alloc, s2]; omega, c4', ⟨_, _, c5'⟩, ?_, ?_, ?_, ?_, ?_, ?_, a3 0, a3 1, a3 2⟩
  · rw [oldc (by omega), oldc (by omega)]; exact a1 1
  · rw [oldc (by omega), oldc (by omega)]; exact a1 2
  · rw [oldc (by omega)]; exact a2 0
  · rw [oldc (by omega)]; exact a2 1
  · rw [oldc (by omega)]; exact a2 2
  · intro o
    rw [((Below.refl _ _).alloc (Nat.le_refl _) o3).frozen (p := ⟨w.heap.size + 1, o, none⟩) (by simp only []; omega)]
    exact z2 o

set_option maxRecDepth 100000 in
set_option maxHeartbeats 2000000 in
theorem nameless_head (db : Nat) (D : Dv) (vb vt vc : Value) (K A B C : Int) (S T : List UInt8) (w : World) (hD : DAt w db D vb vt vc) (ht0 : 0 ≤ D.t) (ht2 : D.t ≤ 2) (hA : 0 ≤ A) (hA2 : A ≤ 255)
    (hG : ∀ W b3 b6 b9, 0 ≤ B → B ≤ 4294967295 → NmW w W db b3 b6 b9 D A B → NGoal w W db b3 b6 b9 D A B) :
    Calls Try.prog 31 #[.pointer (some ⟨db, 0, none⟩), opD K A B C S T] w fun e w' => e = .returned (.tuple #[.agg #[.int .u8 A, .int .u32 (namelessL D A B).1, .int .u64 0], .int .i64 (namelessL D A B).2]) ∧ Below w.heap.size w w' := by
  obtain ⟨ca, cc, hvc⟩ := hD.ctlV
  have c1 : ∀ o1 o2 o3, (((w.alloc o1).alloc o2).alloc o3).cell? ⟨db, 1, none⟩ = some (.int .i64 D.t) := fun o1 o2 o3 => (((hD.alloc o1).alloc o2).alloc o3).c1
  have c4 : ∀ o1 o2 o3, (((w.alloc o1).alloc o2).alloc o3).cell? ⟨db, 4, none⟩ = some (.string ⟨D.st.toArray⟩) := fun o1 o2 o3 => (((hD.alloc o1).alloc o2).alloc o3).c4
  have c5 : ∀ o1 o2 o3, (((w.alloc o1).alloc o2).alloc o3).cell? ⟨db, 5, none⟩ = some (.slice ca D.ctl.length cc) := fun o1 o2 o3 => by rw [← hvc]; exact (((hD.alloc o1).alloc o2).alloc o3).c5
  have HS : ∀ wx, _ := fun wx => sides_any D.t ht0 ht2 wx
  have HM : ∀ wx, _ := fun wx => memSig_any A wx
  have hdl := hD.lt
  have n2 : ¬ db = w.heap.size + 1 + 1 := by omega
  clear hD hvc
  have HNW := nmw0 (D := D) K A B C S T hdl c4 c5
  have HNW : Hid (NmW w _ db w.heap.size (w.heap.size + 1) (w.heap.size + 1 + 1) D A B) := HNW
  have HG : Hid (∀ W b3 b6 b9, 0 ≤ B → B ≤ 4294967295 → NmW w W db b3 b6 b9 D A B → NGoal w W db b3 b6 b9 D A B) := hG
  clear hG
  unfold opD
  by_cases hb : B < 0
  · have HL : Hid (namelessL D A B = (0, 0)) := show namelessL D A B = (0, 0) from if_pos (.inl hb)
    have hbe : Hid (Below w.heap.size w (((w.alloc (.cells #[.int .i64 K, .int .i64 A, .int .i64 B, .int .i64 C, .string ⟨S.toArray⟩, .string ⟨T.toArray⟩] 34)).alloc (.cells #[.int .u8 A, .int .u32 0, .int .u64 0] 42)).alloc (.cells #[.int .u8 A, .int .u32 0, .int .u64 0] 42))) := (((Below.refl _ _).alloc (Nat.le_refl _) _).alloc (by simp) _).alloc (by simp; omega) _
    have hd : decide (B < 0) = true := decide_eq_true hb
    go_enter Try.func31, Try.ntmps31
    go_wp2
    all_goals (try simp only [Exit.inBlock, Exit.then])
    all_goals refine bodyPost_ret (results31c (b6 := w.heap.size + 1) (.int .u8 A) (.int .u32 0) (.int .u64 0) rfl ?_ ?_ ?_) rfl ⟨?_, ?_⟩
    all_goals first
      | (simp [go_sem]; done)
      | (rw [HL.out]; done)
      | (rw [HL.out]; rfl)
      | exact hbe.out
  by_cases hb2 : 4294967295 < B
  · have HL : Hid (namelessL D A B = (0, 0)) := show namelessL D A B = (0, 0) from if_pos (.inr hb2)
    have hbe : Hid (Below w.heap.size w (((w.alloc (.cells #[.int .i64 K, .int .i64 A, .int .i64 B, .int .i64 C, .string ⟨S.toArray⟩, .string ⟨T.toArray⟩] 34)).alloc (.cells #[.int .u8 A, .int .u32 0, .int .u64 0] 42)).alloc (.cells #[.int .u8 A, .int .u32 0, .int .u64 0] 42))) := (((Below.refl _ _).alloc (Nat.le_refl _) _).alloc (by simp) _).alloc (by simp; omega) _
    have hd : decide (B < 0) = false := decide_eq_false hb
    have hd2 : decide (4294967295 < B) = true := decide_eq_true hb2
    clear hb
    go_enter Try.func31, Try.ntmps31
    go_wp2
    all_goals (try simp only [Exit.inBlock, Exit.then])
    all_goals refine bodyPost_ret (results31c (b6 := w.heap.size + 1) (.int .u8 A) (.int .u32 0) (.int .u64 0) rfl ?_ ?_ ?_) rfl ⟨?_, ?_⟩
    all_goals first
      | (simp [go_sem]; done)
      | (rw [HL.out]; done)
      | (rw [HL.out]; rfl)
      | exact hbe.out
  have hd : decide (B < 0) = false := decide_eq_false hb
  have hd2 : decide (4294967295 < B) = false := decide_eq_false hb2
  have hBm : B % 4294967296 = B := by omega
  have hB0 : Hid (0 ≤ B ∧ B ≤ 4294967295) := ⟨by omega, by omega⟩
  clear hb hb2
  clear c4 c5
  go_enter Try.func31, Try.ntmps31
  go_upto_region 6 with (go_at_call 27; refine (HS _).mono ?_; rintro e w1 ⟨rfl, hb1⟩)
  have HNW2 := HNW.out.next hb1
  have e1 := HNW2.e1
  clear hb1 HNW HS c1
  go_cut [9, 10, 11] from 12 (fun s9 s10 s11 wc => s9 = .int .i64 (memSigF A).1 ∧ wc = w1)
  case first =>
    go_wp2_with (go_at_call 43; refine (HM _).mono ?_; rintro e w3 ⟨rfl, h41⟩; have h42 := h41.symm; clear h41; subst h42)
    go_meet
    exact ⟨rfl, rfl⟩
  case rest =>
    obtain ⟨rfl, rfl⟩ := hcut
    refine (by assumption : ∀ (a : Act) (w : World), Code.wp Try.prog _ _ a w → _) _ _ ?_
    refine HG.out _ _ _ _ hB0.out.1 hB0.out.2 HNW2 _ _ rfl ?_
    exact ⟨rfl, rfl, rfl, rfl, rfl, rfl, rfl, rfl, rfl⟩

end Go.Proofs.Qxb6500273a
