/-
  Deadly: its frame, its end.
-/
import Derived.Test.Qxb6500273aRf0
import Derived.BigQuiet
set_option linter.unusedVariables false
set_option linter.unusedSimpArgs false
namespace Go.Proofs.Qxb6500273a
open Go.RowKit

def DTail (n : Nat) (c : Code) : Prop := Try.f17.body.map (dropC n) = some c

set_option maxRecDepth 100000 in
theorem frame17 (a : Act) (v0 v1 v5 v6 v7 v8 v9 : Value) (hd : a.defers = []) (hs : a.tmps.size = 209) (h0 : a.tmps.getD 0 undef = v0) (h1 : a.tmps.getD 1 undef = v1) (h5 : a.tmps.getD 5 undef = v5) (h6 : a.tmps.getD 6 undef = v6) (h7 : a.tmps.getD 7 undef = v7) (h8 : a.tmps.getD 8 undef = v8) (h9 : a.tmps.getD 9 undef = v9) :
    ∃ s : Nat → Value, a = ⟨#[v0, v1, s 2, s 3, s 4, v5, v6, v7, v8, v9, s 10, s 11, s 12, s 13, s 14, s 15, s 16, s 17, s 18, s 19, s 20, s 21, s 22, s 23, s 24, s 25, s 26, s 27, s 28, s 29, s 30, s 31, s 32, s 33, s 34, s 35, s 36, s 37, s 38, s 39, s 40, s 41, s 42, s 43, s 44, s 45, s 46, s 47, s 48, s 49, s 50, s 51, s 52, s 53, s 54, s 55, s 56, s 57, s 58, s 59, s 60, s 61, s 62, s 63, s 64, s 65, s 66, s 67, s 68, s 69, s 70, s 71, s 72, s 73, s 74, s 75, s 76, s 77, s 78, s 79, s 80, s 81, s 82, s 83, s 84, s 85, s 86, s 87, s 88, s 89, s 90, s 91, s 92, s 93, s 94, s 95, s 96, s 97, s 98, s 99, s 100, s 101, s 102, s 103, s 104, s 105, s 106, s 107, s 108, s 109, s 110, s 111, s 112, s 113, s 114, s 115, s 116, s 117, s 118, s 119, s 120, s 121, s 122, s 123, s 124, s 125, s 126, s 127, s 128, s 129, s 130, s 131, s 132, s 133, s 134, s 135, s 136, s 137, s 138, s 139, s 140, s 141, s 142, s 143, s 144, s 145, s 146, s 147, s 148, s 149, s 150, s 151, s 152, s 153, s 154, s 155, s 156, s 157, s 158, s 159, s 160, s 161, s 162, s 163, s 164, s 165, s 166, s 167, s 168, s 169, s 170, s 171, s 172, s 173, s 174, s 175, s 176, s 177, s 178, s 179, s 180, s 181, s 182, s 183, s 184, s 185, s 186, s 187, s 188, s 189, s 190, s 191, s 192, s 193, s 194, s 195, s 196, s 197, s 198, s 199, s 200, s 201, s 202, s 203, s 204, s 205, s 206, s 207, s 208], []⟩ := by
  have h := act_slots 209 a hd hs
  subst h0 h1 h5 h6 h7 h8 h9
  exact ⟨fun i => a.tmps.getD i undef, h⟩

structure DFr (bv db b5 : Nat) (v7 v8 v9 : Value) (a : Act) : Prop where
  d : a.defers = []
  n : a.tmps.size = 209
  h0 : a.tmps.getD 0 undef = .pointer (some ⟨bv, 0, none⟩)
  h1 : a.tmps.getD 1 undef = .pointer (some ⟨db, 0, none⟩)
  h5 : a.tmps.getD 5 undef = .pointer (some ⟨b5, 0, none⟩)
  h6 : a.tmps.getD 6 undef = .bool false
  h7 : a.tmps.getD 7 undef = v7
  h8 : a.tmps.getD 8 undef = v8
  h9 : a.tmps.getD 9 undef = v9

def DPost (bv db : Nat) (w : World) : Exit → Act → World → Prop := bodyPost Try.prog Try.f17 (fun e w' => RRes bv db w e w')

/-- the world behind Deadly's two instructions -/
structure DdW (w W : World) (bv db b5 : Nat) (E : Dv) (vb vt vc : Value) (V : VS) (K A B C : Int) (S T : List UInt8) : Prop where
  be : Below db w W
  dw : db < w.heap.size
  at_ : DAt W db E vb vt vc
  v : VAt W bv V
  bd : bv < db
  o1 : w.heap.size ≤ b5
  o4 : b5 < W.heap.size
  e0 : W.cell? ⟨b5, 0, none⟩ = some (.int .i64 K)
  e1 : W.cell? ⟨b5, 1, none⟩ = some (.int .i64 A)
  e2 : W.cell? ⟨b5, 2, none⟩ = some (.int .i64 B)
  e3 : W.cell? ⟨b5, 3, none⟩ = some (.int .i64 C)
  e4 : W.cell? ⟨b5, 4, none⟩ = some (.string ⟨S.toArray⟩)
  e5 : W.cell? ⟨b5, 5, none⟩ = some (.string ⟨T.toArray⟩)

theorem DdW.next {w W W' : World} {bv db b5 : Nat} {E : Dv} {vb vt vc : Value} {V : VS} {K A B C : Int} {S T : List UInt8} (hb : Below W.heap.size W W') (h : DdW w W bv db b5 E vb vt vc V K A B C S T) : DdW w W' bv db b5 E vb vt vc V K A B C S T := by
  have o4 := h.o4
  have hl := h.at_.lt
  have k : ∀ o, W'.cell? ⟨b5, o, none⟩ = W.cell? ⟨b5, o, none⟩ := fun o => hb.cell (p := ⟨b5, o, none⟩) o4
  exact ⟨h.be.trans (hb.mono (by omega)), h.dw, h.at_.below hb, vatBelow h.v hb h.v.lt, h.bd, h.o1, Nat.lt_of_lt_of_le o4 hb.size, (k _).trans h.e0, (k _).trans h.e1, (k _).trans h.e2, (k _).trans h.e3, (k _).trans h.e4, (k _).trans h.e5⟩

def DGoal (k : Nat) (w W : World) (bv db b5 : Nat) (v7 v8 v9 : Value) : Prop :=
  ∀ (c : Code) (a : Act), DTail k c → DFr bv db b5 v7 v8 v9 a → c.wp Try.prog (DPost bv db w) a W

set_option maxRecDepth 100000 in
set_option maxHeartbeats 4000000 in
theorem dead_ret {w W : World} {bv db b5 : Nat} {v7 v9 : Value} (hk : KeptD bv db w W) : DGoal 10 w W bv db b5 v7 (.bool false) v9 := by
  intro c a hc hf
  unfold DTail at hc
  simp only [Try.f17, Option.map, dropC, Option.some.injEq] at hc
  obtain ⟨s, rfl⟩ := frame17 a _ _ _ _ _ _ _ hf.d hf.n hf.h0 hf.h1 hf.h5 hf.h6 hf.h7 hf.h8 hf.h9
  clear hf
  subst hc
  unfold DPost
  go_wp2
  go_ret
  exact ⟨rfl, hk⟩

set_option maxRecDepth 100000 in
set_option maxHeartbeats 4000000 in
theorem dead_bad {w W : World} {bv db b5 b7 : Nat} {v9 : Value} {E : Dv} {vb vt vc : Value} {V : VS} {x : Insn} (hD : DAt W db E vb vt vc) (hV : VAt W bv V) (hbv : bv < db) (hbe : Below db w W) (hdw : db < w.heap.size) (x0 : W.cell? ⟨b7, 0, none⟩ = some (.int .u8 x.op)) (x1 : W.cell? ⟨b7, 1, none⟩ = some (.int .u32 x.x)) (x2 : W.cell? ⟨b7, 2, none⟩ = some (.int .u64 x.y)) (hm : Doom E x E.body.length 27) : DGoal 10 w W bv db b5 (.pointer (some ⟨b7, 0, none⟩)) (.bool true) v9 := by
  intro c a hc hf
  unfold DTail at hc
  simp only [Try.f17, Option.map, dropC, Option.some.injEq] at hc
  obtain ⟨s, rfl⟩ := frame17 a _ _ _ _ _ _ _ hf.d hf.n hf.h0 hf.h1 hf.h5 hf.h6 hf.h7 hf.h8 hf.h9
  clear hf
  subst hc
  unfold DPost
  obtain ⟨va, vcap, hvb⟩ : ∃ a cap, vb = .slice a E.body.length cap := by
    rcases hD.ob.2 with ⟨h0, h1⟩ | ⟨g, cap, cur, h0, _⟩
    · exact ⟨none, 0, by rw [h0, h1]⟩
    · exact ⟨_, cap, h0⟩
  have c2 := hD.c2
  rw [hvb] at c2
  have HS := spoilt_any bv db E vb vt vc x W hD hbv hm.len hm.ctl
  have HM : Hid (Doom E x E.body.length 27) := hm
  have HV0 : Hid (VAt W bv V) := hV
  have HB : Hid (Below db w W) := hbe
  have hln : (E.body.length : Int) ≤ 900 := by have := hm.len; omega
  clear hD hm hV hbe hvb
  go_upto_region 21 with (go_at_call 35; refine HS.mono ?_; rintro e w1 ⟨L, rfl, hM1, hb1⟩)
  have hV1 : VAt w1 bv V := vatBelow HV0.out hb1 hbv
  have HV := validate_any bv L _ V w1 hM1 hV1 HM.out.mo HM.out.po
  have hs := HM.out.said V
  have hb2 : Hid (Below db w w1) := HB.out.trans hb1
  generalize validateF (modS E.t (E.body ++ x :: endsN (E.ctl.length + 1)) E.tabs) V = X at *
  obtain ⟨⟨X1, X2, X3⟩, XV⟩ := X
  simp only [Prod.mk.injEq] at hs HV
  obtain ⟨rfl, rfl, rfl⟩ := hs
  clear hM1 hV1 hb1 HS x0 x1 x2 c2
  have hdw2 : Hid (db ≤ w.heap.size) := Nat.le_of_lt hdw
  go_wp2_with (go_at_call 14; refine HV.mono ?_; rintro e w3 ⟨rfl, hv3, hex3⟩)
  go_ret
  exact ⟨rfl, KeptD.of hb2.out hdw2.out hex3 hv3⟩

end Go.Proofs.Qxb6500273a
