/-
  Refused: its frame, its end.
-/
import Derived.Test.Qxb6500273aSim6
import Derived.Test.Qxb6500273aValid
import Derived.Deep.CutRange
set_option linter.unusedVariables false
set_option linter.unusedSimpArgs false
namespace Go.Proofs.Qxb6500273a
open Go.RowKit

theorem vatBelow {b B : Nat} {w w' : World} {V : VS} (hV : VAt w b V) (h : Below B w w') (hB : b < B) : VAt w' b V := hV.same (h.block b hB)

def RTail (n : Nat) (c : Code) : Prop := Try.f16.body.map (dropC n) = some c

set_option maxRecDepth 100000 in
theorem frame16 (a : Act) (v0 v1 v5 v6 v7 v8 v9 v10 : Value) (hd : a.defers = []) (hs : a.tmps.size = 232) (h0 : a.tmps.getD 0 undef = v0) (h1 : a.tmps.getD 1 undef = v1) (h5 : a.tmps.getD 5 undef = v5) (h6 : a.tmps.getD 6 undef = v6) (h7 : a.tmps.getD 7 undef = v7) (h8 : a.tmps.getD 8 undef = v8) (h9 : a.tmps.getD 9 undef = v9) (h10 : a.tmps.getD 10 undef = v10) :
    ∃ s : Nat → Value, a = ⟨#[v0, v1, s 2, s 3, s 4, v5, v6, v7, v8, v9, v10, s 11, s 12, s 13, s 14, s 15, s 16, s 17, s 18, s 19, s 20, s 21, s 22, s 23, s 24, s 25, s 26, s 27, s 28, s 29, s 30, s 31, s 32, s 33, s 34, s 35, s 36, s 37, s 38, s 39, s 40, s 41, s 42, s 43, s 44, s 45, s 46, s 47, s 48, s 49, s 50, s 51, s 52, s 53, s 54, s 55, s 56, s 57, s 58, s 59, s 60, s 61, s 62, s 63, s 64, s 65, s 66, s 67, s 68, s 69, s 70, s 71, s 72, s 73, s 74, s 75, s 76, s 77, s 78, s 79, s 80, s 81, s 82, s 83, s 84, s 85, s 86, s 87, s 88, s 89, s 90, s 91, s 92, s 93, s 94, s 95, s 96, s 97, s 98, s 99, s 100, s 101, s 102, s 103, s 104, s 105, s 106, s 107, s 108, s 109, s 110, s 111, s 112, s 113, s 114, s 115, s 116, s 117, s 118, s 119, s 120, s 121, s 122, s 123, s 124, s 125, s 126, s 127, s 128, s 129, s 130, s 131, s 132, s 133, s 134, s 135, s 136, s 137, s 138, s 139, s 140, s 141, s 142, s 143, s 144, s 145, s 146, s 147, s 148, s 149, s 150, s 151, s 152, s 153, s 154, s 155, s 156, s 157, s 158, s 159, s 160, s 161, s 162, s 163, s 164, s 165, s 166, s 167, s 168, s 169, s 170, s 171, s 172, s 173, s 174, s 175, s 176, s 177, s 178, s 179, s 180, s 181, s 182, s 183, s 184, s 185, s 186, s 187, s 188, s 189, s 190, s 191, s 192, s 193, s 194, s 195, s 196, s 197, s 198, s 199, s 200, s 201, s 202, s 203, s 204, s 205, s 206, s 207, s 208, s 209, s 210, s 211, s 212, s 213, s 214, s 215, s 216, s 217, s 218, s 219, s 220, s 221, s 222, s 223, s 224, s 225, s 226, s 227, s 228, s 229, s 230, s 231], []⟩ := by
  have h := act_slots 232 a hd hs
  subst h0 h1 h5 h6 h7 h8 h9 h10
  exact ⟨fun i => a.tmps.getD i undef, h⟩

structure RFr (bv db b5 b8 : Nat) (pl want : Int) (bad : Bool) (a : Act) : Prop where
  d : a.defers = []
  n : a.tmps.size = 232
  h0 : a.tmps.getD 0 undef = .pointer (some ⟨bv, 0, none⟩)
  h1 : a.tmps.getD 1 undef = .pointer (some ⟨db, 0, none⟩)
  h5 : a.tmps.getD 5 undef = .pointer (some ⟨b5, 0, none⟩)
  h6 : a.tmps.getD 6 undef = .bool false
  h7 : a.tmps.getD 7 undef = .int .i64 pl
  h8 : a.tmps.getD 8 undef = .pointer (some ⟨b8, 0, none⟩)
  h9 : a.tmps.getD 9 undef = .int .i64 want
  h10 : a.tmps.getD 10 undef = .bool bad

/-- blocks below db but bv's are as they were -/
structure KeptD (bv db : Nat) (w w' : World) : Prop where
  os : w'.os = w.os
  tape : w'.tape = w.tape
  output : w'.output = w.output
  size : w.heap.size ≤ w'.heap.size
  block : ∀ i, i < db → i ≠ bv → w'.heap[i]? = w.heap[i]?
  v : ∃ V, VAt w' bv V

theorem KeptD.of {bv db : Nat} {w W w' : World} (hb : Below db w W) (hdw : db ≤ w.heap.size) (hx : Ex bv W w') {V : VS} (hv : VAt w' bv V) : KeptD bv db w w' :=
  ⟨hx.os.trans hb.os, hx.tape.trans hb.tape, hx.output.trans hb.output, Nat.le_trans hb.size hx.size, fun i hi hn => (hx.block i (Nat.lt_of_lt_of_le hi (Nat.le_trans hdw hb.size)) hn).trans (hb.block i hi), ⟨V, hv⟩⟩
theorem KeptD.below {bv db : Nat} {w w' : World} (hb : Below db w w') {V : VS} (hv : VAt w' bv V) : KeptD bv db w w' :=
  ⟨hb.os, hb.tape, hb.output, hb.size, fun i hi _ => hb.block i hi, ⟨V, hv⟩⟩

def RRes (bv db : Nat) (w : World) (e : Ending) (w' : World) : Prop := e = .returned (.bool true) ∧ KeptD bv db w w'
def RPost (bv db : Nat) (w : World) : Exit → Act → World → Prop := bodyPost Try.prog Try.f16 (fun e w' => RRes bv db w e w')

/-- the spoilt module is one that the validator reads -/
theorem modS_ok {t : Int} {body : List Insn} {tabs : List Int} (hl : body.length ≤ 1000) (hi : ∀ x, x ∈ body → 0 ≤ x.op ∧ x.op ≤ 255 ∧ 0 ≤ x.x ∧ x.x ≤ 4294967295 ∧ (x.op = 14 → ∃ X n : Nat, x.x = X ∧ x.y = (n : Int) + 1 ∧ X + n < tabs.length)) (ht : tabs.length ≤ 1000) (htv : ∀ c, c ∈ tabs → 0 ≤ c ∧ c ≤ 4294967295) : MdOk (modS t body tabs) ∧ PartOk (modS t body tabs) := by
  have hm : ∀ i, i < body.length → body.getD i ins0 ∈ body := fun i h => by simp [List.getD, h]
  refine ⟨⟨by simp [modS, mod0], hl, fun i h => ⟨(hi _ (hm i h)).1, (hi _ (hm i h)).2.1⟩, fun i h => ⟨(hi _ (hm i h)).2.2.1, (hi _ (hm i h)).2.2.2.1⟩, fun i h => (hi _ (hm i h)).2.2.2.2, ht, fun i => ?_⟩, ⟨by simp [modS, mod0], by simp [modS, mod0], by simp [modS, mod0], by simp [modS, mod0], by simp [modS, mod0], fun i h => by simp only [modS, mod0]; omega, by simp [modS, mod0]⟩⟩
  show 0 ≤ tabs.getD i 0 ∧ tabs.getD i 0 ≤ 4294967295
  by_cases h : i < tabs.length
  · exact htv _ (by simp [List.getD, h])
  · rw [List.getD_eq_getElem?_getD, List.getElem?_eq_none (by omega)]
    simp

/-- what must be known ahead of the end: the module spoilt by x is refused -/
structure Doom (E : Dv) (x : Insn) (pl want : Int) : Prop where
  said : ∀ V, (validateF (modS E.t (E.body ++ x :: endsN (E.ctl.length + 1)) E.tabs) V).1 = (0, pl, want)
  mo : MdOk (modS E.t (E.body ++ x :: endsN (E.ctl.length + 1)) E.tabs)
  po : PartOk (modS E.t (E.body ++ x :: endsN (E.ctl.length + 1)) E.tabs)
  len : E.body.length ≤ 900
  ctl : E.ctl.length ≤ 6

set_option maxRecDepth 100000 in
set_option maxHeartbeats 4000000 in
theorem ref_end (bv db b5 b8 : Nat) (w : World) (E : Dv) (vb vt vc : Value) (V : VS) (W : World) (x : Insn) (pl want : Int) (c : Code) (hc : RTail 12 c) (a : Act) (hf : RFr bv db b5 b8 pl want true a)
    (hD : DAt W db E vb vt vc) (hV : VAt W bv V) (hbv : bv < db) (hbe : Below db w W) (hdw : db ≤ w.heap.size) (x0 : W.cell? ⟨b8, 0, none⟩ = some (.int .u8 x.op)) (x1 : W.cell? ⟨b8, 1, none⟩ = some (.int .u32 x.x)) (x2 : W.cell? ⟨b8, 2, none⟩ = some (.int .u64 x.y)) (hm : Doom E x pl want) : c.wp Try.prog (RPost bv db w) a W := by
  unfold RTail at hc
  simp only [Try.f16, Option.map, dropC, Option.some.injEq] at hc
  obtain ⟨s, rfl⟩ := frame16 a _ _ _ _ _ _ _ _ hf.d hf.n hf.h0 hf.h1 hf.h5 hf.h6 hf.h7 hf.h8 hf.h9 hf.h10
  clear hf
  subst hc
  unfold RPost
  have HS := spoilt_any bv db E vb vt vc x W hD hbv hm.len hm.ctl
  have hbl := hV.lt
  have HM : Hid (Doom E x pl want) := hm
  have HV0 : Hid (VAt W bv V) := hV
  have HB : Hid (Below db w W) := hbe
  clear hD hm hV hbe
  go_upto_region 35 with (go_at_call 35; refine HS.mono ?_; rintro e w1 ⟨L, rfl, hM1, hb1⟩)
  have hV1 : VAt w1 bv V := vatBelow HV0.out hb1 hbv
  have HV := validate_any bv L _ V w1 hM1 hV1 HM.out.mo HM.out.po
  have hs := HM.out.said V
  have hb2 : Hid (Below db w w1) := HB.out.trans hb1
  generalize validateF (modS E.t (E.body ++ x :: endsN (E.ctl.length + 1)) E.tabs) V = X at *
  obtain ⟨⟨X1, X2, X3⟩, XV⟩ := X
  simp only [Prod.mk.injEq] at hs HV
  obtain ⟨rfl, rfl, rfl⟩ := hs
  clear hM1 hV1 hb1 HS x0 x1 x2
  go_wp2_with (go_at_call 14; refine HV.mono ?_; rintro e w3 ⟨rfl, hv3, hex3⟩)
  go_ret
  exact ⟨rfl, KeptD.of hb2.out hdw hex3 hv3⟩

/-- the world behind Refused's head -/
structure RfW (w W : World) (bv db b5 b8 : Nat) (D : Dv) (vb vt vc : Value) (V : VS) (K A B C : Int) (S T : List UInt8) (x : Insn) : Prop where
  be : Below w.heap.size w W
  at_ : DAt w db D vb vt vc
  v : VAt w bv V
  bd : bv < db
  o1 : w.heap.size ≤ b5
  o2 : b5 < b8
  o4 : b8 < W.heap.size
  e0 : W.cell? ⟨b5, 0, none⟩ = some (.int .i64 K)
  e1 : W.cell? ⟨b5, 1, none⟩ = some (.int .i64 A)
  e2 : W.cell? ⟨b5, 2, none⟩ = some (.int .i64 B)
  e3 : W.cell? ⟨b5, 3, none⟩ = some (.int .i64 C)
  e4 : W.cell? ⟨b5, 4, none⟩ = some (.string ⟨S.toArray⟩)
  e5 : W.cell? ⟨b5, 5, none⟩ = some (.string ⟨T.toArray⟩)
  x0 : W.cell? ⟨b8, 0, none⟩ = some (.int .u8 x.op)
  x1 : W.cell? ⟨b8, 1, none⟩ = some (.int .u32 x.x)
  x2 : W.cell? ⟨b8, 2, none⟩ = some (.int .u64 x.y)
  xf : ∀ o, W.frozen? ⟨b8, o, none⟩ = false

theorem RfW.next {w W W' : World} {bv db b5 b8 : Nat} {D : Dv} {vb vt vc : Value} {V : VS} {K A B C : Int} {S T : List UInt8} {x : Insn} (hb : Below W.heap.size W W') (h : RfW w W bv db b5 b8 D vb vt vc V K A B C S T x) : RfW w W' bv db b5 b8 D vb vt vc V K A B C S T x := by
  have o1 := h.o1
  have o2 := h.o2
  have o4 := h.o4
  have hs := hb.size
  have hw := h.be.size
  have k : ∀ b o, b ≤ b8 → W'.cell? ⟨b, o, none⟩ = W.cell? ⟨b, o, none⟩ := fun b o hb' => hb.cell (p := ⟨b, o, none⟩) (by simp only []; omega)
  have z : ∀ b o, b ≤ b8 → W'.frozen? ⟨b, o, none⟩ = W.frozen? ⟨b, o, none⟩ := fun b o hb' => hb.frozen (p := ⟨b, o, none⟩) (by simp only []; omega)
  exact ⟨h.be.trans (hb.mono (by omega)), h.at_, h.v, h.bd, o1, o2, by omega, (k _ _ (by omega)).trans h.e0, (k _ _ (by omega)).trans h.e1, (k _ _ (by omega)).trans h.e2, (k _ _ (by omega)).trans h.e3, (k _ _ (by omega)).trans h.e4, (k _ _ (by omega)).trans h.e5,
    (k _ _ (by omega)).trans h.x0, (k _ _ (by omega)).trans h.x1, (k _ _ (by omega)).trans h.x2, fun o => (z _ _ (by omega)).trans (h.xf o)⟩
theorem RfW.now {w W : World} {bv db b5 b8 : Nat} {D : Dv} {vb vt vc : Value} {V : VS} {K A B C : Int} {S T : List UInt8} {x : Insn} (h : RfW w W bv db b5 b8 D vb vt vc V K A B C S T x) : DAt W db D vb vt vc := h.at_.below h.be
theorem RfW.vnow {w W : World} {bv db b5 b8 : Nat} {D : Dv} {vb vt vc : Value} {V : VS} {K A B C : Int} {S T : List UInt8} {x : Insn} (h : RfW w W bv db b5 b8 D vb vt vc V K A B C S T x) : VAt W bv V := vatBelow h.v h.be h.v.lt
theorem RfW.bed {w W : World} {bv db b5 b8 : Nat} {D : Dv} {vb vt vc : Value} {V : VS} {K A B C : Int} {S T : List UInt8} {x : Insn} (h : RfW w W bv db b5 b8 D vb vt vc V K A B C S T x) : Below db w W := h.be.mono (Nat.le_of_lt h.at_.lt)
theorem RfW.kept {w W : World} {bv db b5 b8 : Nat} {D : Dv} {vb vt vc : Value} {V : VS} {K A B C : Int} {S T : List UInt8} {x : Insn} (h : RfW w W bv db b5 b8 D vb vt vc V K A B C S T x) : KeptD bv db w W := KeptD.below h.bed h.vnow
/-- x is laid anew -/
theorem RfW.setX {w W : World} {bv db b5 b8 : Nat} {D : Dv} {vb vt vc : Value} {V : VS} {K A B C : Int} {S T : List UInt8} {x : Insn} (h : RfW w W bv db b5 b8 D vb vt vc V K A B C S T x) (y : Insn) : RfW w (((W.setCell ⟨b8, 0, none⟩ (.int .u8 y.op)).setCell ⟨b8, 1, none⟩ (.int .u32 y.x)).setCell ⟨b8, 2, none⟩ (.int .u64 y.y)) bv db b5 b8 D vb vt vc V K A B C S T y := by
  have o1 := h.o1
  have o2 := h.o2
  have o4 := h.o4
  have x0 := h.x0
  have x1 := h.x1
  have x2 := h.x2
  have k : ∀ o, (((W.setCell ⟨b8, 0, none⟩ (.int .u8 y.op)).setCell ⟨b8, 1, none⟩ (.int .u32 y.x)).setCell ⟨b8, 2, none⟩ (.int .u64 y.y)).cell? ⟨b5, o, none⟩ = W.cell? ⟨b5, o, none⟩ := fun o => by rw [apartc (by omega), apartc (by omega), apartc (by omega)]
  exact ⟨((h.be.setCell (p := ⟨b8, 0, none⟩) (by simp only []; omega) _).setCell (p := ⟨b8, 1, none⟩) (by simp only []; omega) _).setCell (p := ⟨b8, 2, none⟩) (by simp only []; omega) _, h.at_, h.v, h.bd, o1, o2, by simpa using o4, (k _).trans h.e0, (k _).trans h.e1, (k _).trans h.e2, (k _).trans h.e3, (k _).trans h.e4, (k _).trans h.e5,
    by simp [go_sem, x0], by simp [go_sem, x1], by simp [go_sem, x2], fun o => by simpa using h.xf o⟩

def RGoal (k : Nat) (w W : World) (bv db b5 b8 : Nat) (pl want : Int) (bad : Bool) : Prop :=
  ∀ (c : Code) (a : Act), RTail k c → RFr bv db b5 b8 pl want bad a → c.wp Try.prog (RPost bv db w) a W

end Go.Proofs.Qxb6500273a
