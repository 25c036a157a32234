/-
  misfit: its frame, its head.
-/
import Derived.Test.Qxb6500273aPl0
set_option linter.unusedVariables false
set_option linter.unusedSimpArgs false
namespace Go.Proofs.Qxb6500273a
open Go.RowKit

def MTail (c : Code) : Prop := Try.f33.body.map (dropC 3) = some c

set_option maxRecDepth 100000 in
theorem frame33 (a : Act) (v0 v3 v4 v5 v6 v7 : Value) (hd : a.defers = []) (hs : a.tmps.size = 182) (h0 : a.tmps.getD 0 undef = v0) (h3 : a.tmps.getD 3 undef = v3) (h4 : a.tmps.getD 4 undef = v4) (h5 : a.tmps.getD 5 undef = v5) (h6 : a.tmps.getD 6 undef = v6) (h7 : a.tmps.getD 7 undef = v7) :
    ∃ s : Nat → Value, a = ⟨#[v0, s 1, s 2, v3, v4, v5, v6, v7, s 8, s 9, s 10, s 11, s 12, s 13, s 14, s 15, s 16, s 17, s 18, s 19, s 20, s 21, s 22, s 23, s 24, s 25, s 26, s 27, s 28, s 29, s 30, s 31, s 32, s 33, s 34, s 35, s 36, s 37, s 38, s 39, s 40, s 41, s 42, s 43, s 44, s 45, s 46, s 47, s 48, s 49, s 50, s 51, s 52, s 53, s 54, s 55, s 56, s 57, s 58, s 59, s 60, s 61, s 62, s 63, s 64, s 65, s 66, s 67, s 68, s 69, s 70, s 71, s 72, s 73, s 74, s 75, s 76, s 77, s 78, s 79, s 80, s 81, s 82, s 83, s 84, s 85, s 86, s 87, s 88, s 89, s 90, s 91, s 92, s 93, s 94, s 95, s 96, s 97, s 98, s 99, s 100, s 101, s 102, s 103, s 104, s 105, s 106, s 107, s 108, s 109, s 110, s 111, s 112, s 113, s 114, s 115, s 116, s 117, s 118, s 119, s 120, s 121, s 122, s 123, s 124, s 125, s 126, s 127, s 128, s 129, s 130, s 131, s 132, s 133, s 134, s 135, s 136, s 137, s 138, s 139, s 140, s 141, s 142, s 143, s 144, s 145, s 146, s 147, s 148, s 149, s 150, s 151, s 152, s 153, s 154, s 155, s 156, s 157, s 158, s 159, s 160, s 161, s 162, s 163, s 164, s 165, s 166, s 167, s 168, s 169, s 170, s 171, s 172, s 173, s 174, s 175, s 176, s 177, s 178, s 179, s 180, s 181], []⟩ := by
  have h := act_slots 182 a hd hs
  subst h0 h3 h4 h5 h6 h7
  exact ⟨fun i => a.tmps.getD i undef, h⟩

/-- the frame behind misfit's head -/
structure MFr (db b3 b6 b9 : Nat) (A : Int) (a : Act) : Prop where
  d : a.defers = []
  n : a.tmps.size = 182
  h0 : a.tmps.getD 0 undef = .pointer (some ⟨db, 0, none⟩)
  h3 : a.tmps.getD 3 undef = .pointer (some ⟨b3, 0, none⟩)
  h4 : a.tmps.getD 4 undef = .pointer (some ⟨b6, 0, none⟩)
  h5 : a.tmps.getD 5 undef = .bool false
  h6 : a.tmps.getD 6 undef = .pointer (some ⟨b9, 0, none⟩)
  h7 : a.tmps.getD 7 undef = .string ⟨#[127]⟩

/-- the instruction as it is laid (its X), and whether its rule does not apply -/
def misfitL (D : Dv) (A B : Int) : Int × Bool :=
  if A = 26 then (0, decide ((D.st.length : Int) < 1))
  else if A = 4 then (64, decide (D.ctl.length < 6) && !endsF D.st [127])
  else if A = 11 then (0, (owedL D).2 || !(D.st == (owedL D).1))
  else if A = 5 then if D.ctl.length = 0 then (0, false) else (0, decide ((lastB D).op = 4) && !(D.st == (lastB D).res))
  else if A = 12 ∨ A = 13 then if (labelL D B).2 = false then (0, false) else (B, !endsF D.st (if A = 13 then (labelL D B).1 ++ [127] else (labelL D B).1))
  else if A = 15 then (0, !endsF D.st (sidesF D.t).2)
  else if A = 27 ∧ D.st.length < 3 then (0, true)
  else ((plainL D.t D.st A B).2.2.1, (plainL D.t D.st A B).2.2.2 && !endsF D.st (plainL D.t D.st A B).1)

def MisRes (D : Dv) (A B : Int) (e : Ending) : Prop :=
  ∃ z : Int, e = .returned (.tuple #[.agg #[.int .u8 A, .int .u32 (misfitL D A B).1, .int .u64 z], .bool (misfitL D A B).2])

def MPost (w : World) (D : Dv) (A B : Int) : Exit → Act → World → Prop := bodyPost Try.prog Try.f33 (fun e w' => MisRes D A B e ∧ Below w.heap.size w w')

theorem results33c {tmps : Array Value} {w : World} {b6 : Nat} (x0 x1 x2 : Value) (h6 : tmps.getD 4 undef = .pointer (some ⟨b6, 0, none⟩)) (c0 : w.cell? ⟨b6, 0, none⟩ = some x0) (c1 : w.cell? ⟨b6, 1, none⟩ = some x1) (c2 : w.cell? ⟨b6, 2, none⟩ = some x2) :
    (results Try.f33 tmps).run Try.prog w = .ok (.tuple #[.agg #[x0, x1, x2], tmps.getD 5 undef]) w := by
  have h6' : tmps[4]?.getD undef = .pointer (some ⟨b6, 0, none⟩) := by simpa using h6
  simp [results, h6', go_sem, c0, c1, c2]

theorem ret2b {x c c' : Value} (h7 : c = c') : Ending.returned (.tuple #[x, c]) = Ending.returned (.tuple #[x, c']) := by rw [h7]

/-- the tail, by a way's goal -/
def MGoal (w W : World) (db b3 b6 b9 : Nat) (D : Dv) (A B C : Int) : Prop :=
  ∀ (c : Code) (a : Act), MTail c → MFr db b3 b6 b9 A a → c.wp Try.prog (MPost w D A B) a W

set_option maxRecDepth 100000 in
set_option maxHeartbeats 2000000 in
theorem misfit_head (db : Nat) (D : Dv) (vb vt vc : Value) (K A B C : Int) (S T : List UInt8) (w : World) (hD : DAt w db D vb vt vc) (hA : 0 ≤ A) (hA2 : A ≤ 255)
    (hG : ∀ W b3 b6 b9, PlW w W db b3 b6 b9 D A B C → W.cell? ⟨b3, 0, none⟩ = some (.int .i64 K) → W.cell? ⟨b3, 4, none⟩ = some (.string ⟨S.toArray⟩) → W.cell? ⟨b3, 5, none⟩ = some (.string ⟨T.toArray⟩) → MGoal w W db b3 b6 b9 D A B C) :
    Calls Try.prog 33 #[.pointer (some ⟨db, 0, none⟩), opD K A B C S T] w fun e w' => MisRes D A B e ∧ Below w.heap.size w w' := by
  have c1 : ∀ o1 o2 o3, (((w.alloc o1).alloc o2).alloc o3).cell? ⟨db, 1, none⟩ = some (.int .i64 D.t) := fun o1 o2 o3 => (((hD.alloc o1).alloc o2).alloc o3).c1
  have c4 : ∀ o1 o2 o3, (((w.alloc o1).alloc o2).alloc o3).cell? ⟨db, 4, none⟩ = some (.string ⟨D.st.toArray⟩) := fun o1 o2 o3 => (((hD.alloc o1).alloc o2).alloc o3).c4
  have HT : ∀ wx, _ := fun wx => str_any 127 (by omega) (by omega) wx
  have hdl := hD.lt
  clear hD
  have HG : Hid (∀ W b3 b6 b9, PlW w W db b3 b6 b9 D A B C → W.cell? ⟨b3, 0, none⟩ = some (.int .i64 K) → W.cell? ⟨b3, 4, none⟩ = some (.string ⟨S.toArray⟩) → W.cell? ⟨b3, 5, none⟩ = some (.string ⟨T.toArray⟩) → MGoal w W db b3 b6 b9 D A B C) := hG
  clear hG
  have HW : ∀ oa, Hid (PlW w ((((w.alloc (.cells #[.int .i64 K, .int .i64 A, .int .i64 B, .int .i64 C, .string ⟨S.toArray⟩, .string ⟨T.toArray⟩] 34)).alloc (.cells #[.int .u8 0, .int .u32 0, .int .u64 0] 42)).alloc (.cells #[.int .u8 A, .int .u32 0, .int .u64 0] 42)).alloc oa) db w.heap.size (w.heap.size + 1) (w.heap.size + 1 + 1) D A B C) :=
    fun oa => PlW.alloc (plw0 K A B C S T hdl (c1 _ _ _) (c4 _ _ _)) oa
  have HB : ∀ oa j v, (#[.int .i64 K, .int .i64 A, .int .i64 B, .int .i64 C, .string ⟨S.toArray⟩, .string ⟨T.toArray⟩] : Array Value)[j]? = some v → Hid (((((w.alloc (.cells #[.int .i64 K, .int .i64 A, .int .i64 B, .int .i64 C, .string ⟨S.toArray⟩, .string ⟨T.toArray⟩] 34)).alloc (.cells #[.int .u8 0, .int .u32 0, .int .u64 0] 42)).alloc (.cells #[.int .u8 A, .int .u32 0, .int .u64 0] 42)).alloc oa).cell? ⟨w.heap.size, j, none⟩ = some v) := fun oa j v hv => by
    refine show _ = _ from ?_
    rw [oldc (by simp only [World.size_alloc]; omega), oldc (by simp only [World.size_alloc]; omega), oldc (by simp only [World.size_alloc]; omega)]
    exact (World.cell?_alloc_new w _ _ j).trans hv
  clear c1 c4
  unfold opD
  go_enter Try.func33, Try.ntmps33
  go_upto_region 2 with fail
  go_cut [7] from 8 (fun s7 wc => s7 = .string ⟨#[127]⟩ ∧ PlW w wc db w.heap.size (w.heap.size + 1) (w.heap.size + 1 + 1) D A B C ∧ wc.cell? ⟨w.heap.size, 0, none⟩ = some (.int .i64 K) ∧ wc.cell? ⟨w.heap.size, 4, none⟩ = some (.string ⟨S.toArray⟩) ∧ wc.cell? ⟨w.heap.size, 5, none⟩ = some (.string ⟨T.toArray⟩))
  case first =>
    go_wp2_with (go_at_call 22; refine (HT _).mono ?_; rintro e w4 ⟨rfl, rfl⟩)
    go_meet
    exact ⟨rfl, (HW _).out, (HB _ 0 _ rfl).out, (HB _ 4 _ rfl).out, (HB _ 5 _ rfl).out⟩
  case rest =>
    obtain ⟨rfl, HW2, k0, k4, k5⟩ := hcut
    refine (by assumption : ∀ (a : Act) (w : World), Code.wp Try.prog _ _ a w → _) _ _ ?_
    refine HG.out _ _ _ _ HW2 k0 k4 k5 _ _ rfl ?_
    exact ⟨rfl, rfl, rfl, rfl, rfl, rfl, rfl, rfl⟩

end Go.Proofs.Qxb6500273a
