/-
  Refused: the ways.
-/
import Derived.Test.Qxb6500273aRf0
import Derived.Test.Qxb6500273aRf11
import Derived.BigQuiet
set_option linter.unusedVariables false
set_option linter.unusedSimpArgs false
namespace Go.Proofs.Qxb6500273a
open Go.RowKit

section
variable {w W : World} {bv db b5 b8 : Nat} {D : Dv} {vb vt vc : Value} {V : VS} {K A B C : Int} {S T : List UInt8}

theorem DAt.setFar {w : World} {db : Nat} {D : Dv} {vb vt vc : Value} (h : DAt w db D vb vt vc) {b o : Nat} {v : Value} (hb : db ≠ b) (h1 : vb.ownBlock ≠ some b) (h2 : vt.ownBlock ≠ some b) (h3 : vc.ownBlock ≠ some b) : DAt (w.setCell ⟨b, o, none⟩ v) db D vb vt vc := by
  have n : ∀ i, (w.setCell ⟨b, o, none⟩ v).cell? ⟨db, i, none⟩ = w.cell? ⟨db, i, none⟩ := fun i => apartc (Ne.symm hb)
  have r : ∀ {e size u n xs}, w.ownsRow (db + 1) e size u n xs → u.ownBlock ≠ some b → (w.setCell ⟨b, o, none⟩ v).ownsRow (db + 1) e size u n xs := fun hh hn => ownsRow_same hh fun g hg _ => Below.heap_setCell _ _ _ _ (fun e => hn (by rw [hg]; exact congrArg some e))
  exact ⟨(n 0).trans h.c0, (n 1).trans h.c1, (n 2).trans h.c2, (n 3).trans h.c3, (n 4).trans h.c4, (n 5).trans h.c5, (n 6).trans h.c6, fun i => by simpa using h.fz i, r h.ob h1, r h.ot h2, r h.oc h3⟩

/-- behind the full frame's two instructions -/
structure FullI (w wc : World) (bv db b8 : Nat) (D : Dv) (V : VS) (B : Int) (vt vc : Value) : Prop where
  at_ : ∃ ub, DAt wc db { D with body := D.body ++ [⟨2, B, 0⟩] ++ [⟨0, 0, 0⟩] } ub vt vc
  v : VAt wc bv V
  be : Below db w wc
  y0 : wc.cell? ⟨b8, 0, none⟩ = some (.int .u8 11)
  y1 : wc.cell? ⟨b8, 1, none⟩ = some (.int .u32 0)
  y2 : wc.cell? ⟨b8, 2, none⟩ = some (.int .u64 0)

set_option maxRecDepth 100000 in
set_option maxHeartbeats 4000000 in
theorem rf_full (hb : DBnd D) (hbl : D.below ≤ 10) (X0_ : Int) (hmb : (misfitL D 2 B).2 = false) (htl : tallL D 2 B = false) (h6 : D.ctl.length < 6) (heq : D.below + D.st.length = 10) (hv : isValF B = true) (hlen : D.body.length < 95) (hm : Doom { D with body := D.body ++ [⟨2, B, 0⟩] ++ [⟨0, 0, 0⟩] } ⟨11, 0, 0⟩ ((D.body.length : Int) + 2) 28) (HW : RfW w W bv db b5 b8 D vb vt vc V K 2 B C S T ⟨2, X0_, 0⟩) : RGoal 5 w W bv db b5 b8 D.body.length 0 false := by
  intro c a hc hf
  unfold RTail at hc
  simp only [Try.f16, Option.map, dropC, Option.some.injEq] at hc
  obtain ⟨s, rfl⟩ := frame16 a _ _ _ _ _ _ _ _ hf.d hf.n hf.h0 hf.h1 hf.h5 hf.h6 hf.h7 hf.h8 hf.h9 hf.h10
  clear hf
  subst hc
  unfold RPost
  have e0 := HW.e0
  have e1 := HW.e1
  have e2 := HW.e2
  have e3 := HW.e3
  have e4 := HW.e4
  have e5 := HW.e5
  have d4 := HW.now.c4
  have d5 := HW.now.c5
  have d6 := HW.now.c6
  have x0 := HW.x0
  have x1 := HW.x1
  have x2 := HW.x2
  have xf := HW.xf
  have n1 : ¬ b5 = b8 := by have := HW.o2; omega
  have n2 : ¬ b8 = b5 := by have := HW.o2; omega
  have n3 : ¬ db = b8 := by have := HW.o1; have := HW.o2; have := HW.at_.lt; omega
  have n4 : ¬ b8 = db := by have := HW.o1; have := HW.o2; have := HW.at_.lt; omega
  obtain ⟨ca, cc, hvc⟩ := HW.now.ctlV
  obtain ⟨i0, hi0, hz0, hz1, hz2⟩ := info_parts Try.info42
  have hB4 := isVal_cases hv
  have HC := misfit_any db D vb vt vc K 2 B C S T W HW.now hb (by omega) (by omega)
  have HTl : ∀ wx, Below w.heap.size w wx → Calls Try.prog 34 #[.pointer (some ⟨db, 0, none⟩), opD K 2 B C S T] wx fun e w' => e = .returned (.bool false) ∧ Below wx.heap.size wx w' := fun wx hbx => by
    have q := tall_any db D vb vt vc K 2 B C S T wx (HW.at_.below hbx) hb hbl (by omega) (by omega)
    rw [htl] at q
    exact q
  unfold opD at HTl
  unfold opD MisRes at HC
  rw [hmb] at HC
  generalize (misfitL D 2 B).1 = mX at *
  have hst1 : (D.st.length : Int) ≤ 10 := by have := hb.st; omega
  have hbl1 : (D.below : Int) ≤ 10 := by omega
  have g5 : ((D.below : Int) + D.st.length == 10) = true := by rw [beq_iff_eq]; omega
  have g7 : decide (0 ≤ B) = true := decide_eq_true (by omega)
  have g8 : decide (B ≤ 255) = true := decide_eq_true (by omega)
  have hm1 : B % 256 = B := by omega
  have hm2 : B % 4294967296 = B := by omega
  have hwr : IntKind.u32.wrap B = B := by rcases hB4 with rfl | rfl | rfl | rfl <;> rfl
  have HVl : ∀ wx, _ := fun wx => isVal_any B wx
  rw [hv] at HVl
  have HDm : Hid (Doom { D with body := D.body ++ [⟨2, B, 0⟩] ++ [⟨0, 0, 0⟩] } ⟨11, 0, 0⟩ ((D.body.length : Int) + 2) 28) := hm
  have hln : (D.body.length : Int) < 95 := by omega
  clear hbl hmb htl heq hv hB4 hm
  go_upto_region 18 with (go_at_call 33; refine HC.mono ?_; rintro e w1 ⟨⟨z, rfl⟩, hb1⟩; have HW1 := HW.next hb1; have q0 := HW1.x0; have q1 := HW1.x1; have q2 := HW1.x2; have qf := HW1.xf; clear hb1)
  have HW2 := HW1.setX ⟨2, mX, z⟩
  simp only [] at HW2
  obtain ⟨W2, hW2⟩ : ∃ W2, W2 = ((w1.setCell ⟨b8, 0, none⟩ (.int .u8 2)).setCell ⟨b8, 1, none⟩ (.int .u32 mX)).setCell ⟨b8, 2, none⟩ (.int .u64 z) := ⟨_, rfl⟩
  rw [← hW2] at HW2
  rw [← hW2]
  clear hW2 e0 e1 e2 e3 e4 e5 d4 d5 d6 x0 x1 x2 xf q0 q1 q2 qf
  have e0 := HW2.e0
  have e1 := HW2.e1
  have e2 := HW2.e2
  have e3 := HW2.e3
  have e4 := HW2.e4
  have e5 := HW2.e5
  have d4 := HW2.now.c4
  have d5 := HW2.now.c5
  have d6 := HW2.now.c6
  have x0 := HW2.x0
  have x1 := HW2.x1
  have x2 := HW2.x2
  have xf := HW2.xf
  have n1 : ¬ b5 = b8 := by have := HW2.o2; omega
  have n2 : ¬ b8 = b5 := by have := HW2.o2; omega
  have n3 : ¬ db = b8 := by have := HW2.o1; have := HW2.o2; have := HW2.at_.lt; omega
  have n4 : ¬ b8 = db := by have := HW2.o1; have := HW2.o2; have := HW2.at_.lt; omega
  go_upto_region 24 with (go_at_call 34; refine (HTl _ HW2.be).mono ?_; rintro e w3 ⟨rfl, hb3⟩; have HW3 := HW2.next hb3; clear hb3)
  clear e0 e1 e2 e3 e4 e5 d4 d5 d6 x0 x1 x2 xf
  have e0 := HW3.e0
  have e1 := HW3.e1
  have e2 := HW3.e2
  have e3 := HW3.e3
  have e4 := HW3.e4
  have e5 := HW3.e5
  have d4 := HW3.now.c4
  have d5 := HW3.now.c5
  have d6 := HW3.now.c6
  have x0 := HW3.x0
  have x1 := HW3.x1
  have x2 := HW3.x2
  have xf := HW3.xf
  have n1 : ¬ b5 = b8 := by have := HW3.o2; omega
  have n2 : ¬ b8 = b5 := by have := HW3.o2; omega
  have n3 : ¬ db = b8 := by have := HW3.o1; have := HW3.o2; have := HW3.at_.lt; omega
  have n4 : ¬ b8 = db := by have := HW3.o1; have := HW3.o2; have := HW3.at_.lt; omega
  rw [hvc] at d5
  have h6i : (D.ctl.length : Int) < 6 := by omega
  clear HW HW1 HW2 HC HTl hvc
  go_upto_region 25 with fail
  go_quiet (fail)
  have HW4 : RfW w (w3.drewN nq) bv db b5 b8 D vb vt vc V K 2 B C S T ⟨2, mX, z⟩ := HW3.next (belowN (Below.refl _ _) _)
  generalize w3.drewN nq = W4 at *
  clear HW3 e0 e1 e2 e3 e4 e5 d4 d5 d6 x0 x1 x2 xf
  have e1 := HW4.e1
  have e2 := HW4.e2
  go_upto_if 181 with (go_at_call 24; refine (HVl _).mono ?_; rintro e w5 ⟨rfl, h51⟩; have h52 := h51.symm; clear h51; subst h52)
  go_cut [7, 10] from 182 to 207 (fun s7 s10 wc => s7 = .int .i64 ((D.body.length : Int) + 2) ∧ s10 = .bool true ∧ FullI w wc bv db b8 D V B vt vc)
  case rest =>
    obtain ⟨rfl, rfl, ⟨ub, hI⟩, hIv, hIb, y0, y1, y2⟩ := hcut
    have hbd := HW4.bd
    have hdw := Nat.le_of_lt HW4.at_.lt
    refine (by assumption : ∀ (a : Act) (w : World), Code.wp Try.prog _ _ a w → _) _ _ ?_
    exact ref_11 _ ub vt vc ⟨11, 0, 0⟩ _ _ _ rfl _ ⟨rfl, rfl, rfl, rfl, rfl, rfl, rfl, rfl, rfl, rfl⟩ hI hIv hbd hIb hdw y0 y1 y2 HDm.out
  case first =>
    have hDW := HW4.now
    have hlp := hDW.lt
    have h1 := HW4.o1
    have h2 := HW4.o2
    have h4 := HW4.o4
    have hdw := HW4.at_.lt
    have e2a : ∀ o, (W4.alloc o).cell? ⟨b5, 2, none⟩ = some (.int .i64 B) := fun o => (oldc (by omega)).trans e2
    have c2 := hDW.c2
    have c2a : ∀ ob, (W4.alloc ob).cell? ⟨db, 2, none⟩ = some vb := fun ob => (hDW.alloc ob).c2
    have z2a : ∀ ob, (W4.alloc ob).frozen? ⟨db, 2, none⟩ = false := fun ob => (hDW.alloc ob).fz 2
    have HD1 : Hid (DAt (W4.alloc (.cells #[.int .u8 2, .int .u32 B, .int .u64 0] 42)).drew db D vb vt vc) := (hDW.alloc _).drew
    have hbm : Hid (Below db w (W4.alloc (.cells #[.int .u8 2, .int .u32 B, .int .u64 0] 42)).drew) := ((HW4.bed).alloc (by have := HW4.be.size; omega) _).drew
    have hob : Hid (∀ g, vb.ownBlock = some g → g < w.heap.size) := fun g hg => own_lt HW4.at_.ob hg
    have hot : Hid (∀ g, vt.ownBlock = some g → g < w.heap.size) := fun g hg => own_lt HW4.at_.ot hg
    have hoc : Hid (∀ g, vc.ownBlock = some g → g < w.heap.size) := fun g hg => own_lt HW4.at_.oc hg
    have HVw : Hid (VAt w bv V) := HW4.v
    have X0 : Hid (W4.cell? ⟨b8, 0, none⟩ = some (.int .u8 2)) := HW4.x0
    have X1 : Hid (W4.cell? ⟨b8, 1, none⟩ = some (.int .u32 mX)) := HW4.x1
    have X2 : Hid (W4.cell? ⟨b8, 2, none⟩ = some (.int .u64 z)) := HW4.x2
    have XF : Hid (∀ o, W4.frozen? ⟨b8, o, none⟩ = false) := HW4.xf
    have HVn : Hid (VAt W4 bv V) := HW4.vnow
    have hbd := HW4.bd
    clear hDW HW4 HVl HDm
    go_upto_region 27 with fail
    go_wp2_with fail
    go_region_law ((refine step_append_lies _ (by rfl) _ _ _ (by rfl) (db + 1) 42 i0 _ 3 16 Try.underlying28 hi0 hz0 hz1 hz2 rfl (by omega) vb D.body.length (insCells D.body) (by rfl) HD1.out.ob ⟨W4.heap.size, 0, none⟩ 1 1 [.int .u8 2, .int .u32 B, .int .u64 0] (by rfl) (by rfl) (World.news_of_block (cs := #[.int .u8 2, .int .u32 B, .int .u64 0]) (t := 42) (fr := (0, 0)) (heap_alloc_new W4 _)) (by simp [Value.oneCell']) (by omega) (by unfold maxLen; omega) (by omega) (by simp; omega) (W4.heap.size + 1) (by simp) ?_; intro g cap w1 hown1 hgrow hat hlt; have q1 : w1.cell? ⟨db, 2, none⟩ = some vb := (hgrow.cell_far ⟨db, 2, none⟩ (by simp; omega) (far HD1.out.ob (Nat.le_refl _))).trans (c2a _); have q2 : w1.frozen? ⟨db, 2, none⟩ = false := (hgrow.frozen_far ⟨db, 2, none⟩ (by simp; omega) (far HD1.out.ob (Nat.le_refl _))).trans (z2a _); have HP1 : Hid (DAt (w1.setCell ⟨db, 2, none⟩ (.slice (some ⟨g, 0, none⟩) (D.body.length + 1) cap)) db { D with body := D.body ++ [⟨2, B, 0⟩] } (.slice (some ⟨g, 0, none⟩) (D.body.length + 1) cap) vt vc) := HD1.out.pushBody hgrow ⟨2, B, 0⟩ g cap hown1; have HB1 : Hid (Below db w (w1.setCell ⟨db, 2, none⟩ (.slice (some ⟨g, 0, none⟩) (D.body.length + 1) cap))) := hbm.out.trans (grown_below HD1.out hgrow _ _); have KX : Hid (∀ o, w1.cell? ⟨b8, o, none⟩ = W4.cell? ⟨b8, o, none⟩) := (fun o => (hgrow.cell_far ⟨b8, o, none⟩ (by simp; omega) (fun e => by have := hob.out b8 e.symm; omega)).trans (by rw [World.cell?_drew]; exact oldc h4)); have KF : Hid (∀ o, w1.frozen? ⟨b8, o, none⟩ = W4.frozen? ⟨b8, o, none⟩) := (fun o => (hgrow.frozen_far ⟨b8, o, none⟩ (by simp; omega) (fun e => by have := hob.out b8 e.symm; omega)).trans (((Below.refl _ W4).alloc (Nat.le_refl _) _).drew.frozen (p := ⟨b8, o, none⟩) h4)); have hg8 : Hid (g ≠ b8) := (fun e => by rcases hat with hh | hh <;> first | (have := hob.out g hh; omega) | omega); have hs4 : W4.heap.size < w1.heap.size := Nat.lt_of_lt_of_le (by simp) hgrow.size))
    all_goals (obtain ⟨U1, hU1⟩ : ∃ U1, U1 = w1.setCell ⟨db, 2, none⟩ (.slice (some ⟨g, 0, none⟩) (D.body.length + 1) cap) := ⟨_, rfl⟩)
    all_goals (have y0 : U1.cell? ⟨b8, 0, none⟩ = some (.int .u8 2) := by rw [hU1, apartc (by omega), KX.out]; exact X0.out)
    all_goals (have y1 : U1.cell? ⟨b8, 1, none⟩ = some (.int .u32 mX) := by rw [hU1, apartc (by omega), KX.out]; exact X1.out)
    all_goals (have y2 : U1.cell? ⟨b8, 2, none⟩ = some (.int .u64 z) := by rw [hU1, apartc (by omega), KX.out]; exact X2.out)
    all_goals (have yf : ∀ o, U1.frozen? ⟨b8, o, none⟩ = false := fun o => by rw [hU1]; simpa using (KF.out o).trans (XF.out o))
    all_goals (have hsz : W4.heap.size < U1.heap.size := by rw [hU1, World.size_setCell]; exact hs4)
    all_goals (rw [← hU1])
    all_goals (have hP1 := HP1.out; have hB1 := HB1.out; rw [← hU1] at hP1 hB1)
    all_goals (obtain ⟨E1, hE1⟩ : ∃ E1 : Dv, E1 = { D with body := D.body ++ [⟨2, B, 0⟩] } := ⟨_, rfl⟩; rw [← hE1] at hP1)
    all_goals (have hEl : E1.body.length = D.body.length + 1 := by rw [hE1]; simp)
    all_goals (clear hU1 HP1 HB1 KX KF q1 q2 hown1 hgrow hat hlt hs4 c2 c2a z2a HD1 hbm e2a X0 X1 X2 XF e1 e2)
    all_goals (have d2 := hP1.c2; have d2a : ∀ ob, (U1.alloc ob).cell? ⟨db, 2, none⟩ = some (.slice (some ⟨g, 0, none⟩) (D.body.length + 1) cap) := fun ob => (hP1.alloc ob).c2; have f2a : ∀ ob, (U1.alloc ob).frozen? ⟨db, 2, none⟩ = false := fun ob => (hP1.alloc ob).fz 2; have hlp2 := hP1.lt)
    all_goals (have HD2 : Hid (DAt (U1.alloc (.cells #[.int .u8 0, .int .u32 0, .int .u64 0] 42)) db E1 (.slice (some ⟨g, 0, none⟩) (D.body.length + 1) cap) vt vc) := hP1.alloc _; have HB2 : Hid (Below db w (U1.alloc (.cells #[.int .u8 0, .int .u32 0, .int .u64 0] 42))) := hB1.alloc (by have := hB1.size; omega) _; have HE1 : Hid (E1 = { D with body := D.body ++ [⟨2, B, 0⟩] }) := hE1)
    all_goals (have HDb : Hid (DAt U1 db E1 (.slice (some ⟨g, 0, none⟩) (D.body.length + 1) cap) vt vc) := hP1)
    all_goals (clear hP1 hB1 hE1)
    all_goals (go_wp2_with (at_builtin; (have HD2' := HD2.out.ob; rw [hEl] at HD2'); refine wpList_append_lies _ (by rfl) _ _ _ (by rfl) (db + 1) 42 i0 _ 3 16 Try.underlying28 hi0 hz0 hz1 hz2 rfl (by omega) (.slice (some ⟨g, 0, none⟩) (D.body.length + 1) cap) (D.body.length + 1) (insCells E1.body) (by rfl) HD2' ⟨U1.heap.size, 0, none⟩ 1 1 [.int .u8 0, .int .u32 0, .int .u64 0] (by rfl) (by rfl) (World.news_of_block (cs := #[.int .u8 0, .int .u32 0, .int .u64 0]) (t := 42) (fr := (0, 0)) (heap_alloc_new U1 _)) (by simp [Value.oneCell']) (by omega) (by unfold maxLen; omega) (by omega) (by simp; omega) (U1.heap.size + 1) (by simp) ?_; intro g2 cap2 w2 hown2 hgrow2 hat2 hlt2; have q1 : w2.cell? ⟨db, 2, none⟩ = some (.slice (some ⟨g, 0, none⟩) (D.body.length + 1) cap) := (hgrow2.cell_far ⟨db, 2, none⟩ (by simp; omega) (far HD2.out.ob (Nat.le_refl _))).trans (d2a _); have q2 : w2.frozen? ⟨db, 2, none⟩ = false := (hgrow2.frozen_far ⟨db, 2, none⟩ (by simp; omega) (far HD2.out.ob (Nat.le_refl _))).trans (f2a _); have u0 : w2.cell? ⟨b8, 0, none⟩ = some (.int .u8 2) := (hgrow2.cell_far ⟨b8, 0, none⟩ (by simp; omega) (fun e => hg8.out (by simpa [Value.ownBlock] using e.symm))).trans ((oldc (by omega)).trans y0); have u1 : w2.cell? ⟨b8, 1, none⟩ = some (.int .u32 mX) := (hgrow2.cell_far ⟨b8, 1, none⟩ (by simp; omega) (fun e => hg8.out (by simpa [Value.ownBlock] using e.symm))).trans ((oldc (by omega)).trans y1); have u2 : w2.cell? ⟨b8, 2, none⟩ = some (.int .u64 z) := (hgrow2.cell_far ⟨b8, 2, none⟩ (by simp; omega) (fun e => hg8.out (by simpa [Value.ownBlock] using e.symm))).trans ((oldc (by omega)).trans y2); have uf : ∀ o, w2.frozen? ⟨b8, o, none⟩ = false := (fun o => (hgrow2.frozen_far ⟨b8, o, none⟩ (by simp; omega) (fun e => hg8.out (by simpa [Value.ownBlock] using e.symm))).trans ((((Below.refl _ U1).alloc (Nat.le_refl _) _).frozen (p := ⟨b8, o, none⟩) (by simp only []; omega)).trans (yf o)))))
    all_goals go_meet
    all_goals refine ⟨rfl, rfl, ?_⟩
    all_goals (have hP2 := HD2.out.pushBody hgrow2 ⟨0, 0, 0⟩ g2 cap2 (by rw [hEl]; exact hown2))
    all_goals (rw [hEl] at hP2; have hE2 : ({ E1 with body := E1.body ++ [⟨0, 0, 0⟩] } : Dv) = { D with body := D.body ++ [⟨2, B, 0⟩] ++ [⟨0, 0, 0⟩] } := by rw [HE1.out])
    all_goals rw [hE2] at hP2
    all_goals (have hg28 : g2 ≠ b8 := fun e => by rcases hat2 with hh | hh <;> first | (simp [Value.ownBlock] at hh; exact hg8.out (hh.trans e)) | omega)
    all_goals (have k1 : (Value.slice (some ⟨g2, 0, none⟩) (D.body.length + 1 + 1) cap2).ownBlock ≠ some b8 := fun e => hg28 (by simpa [Value.ownBlock] using e))
    all_goals (have k2 : vt.ownBlock ≠ some b8 := fun e => by have := hot.out b8 e; omega)
    all_goals (have k3 : vc.ownBlock ≠ some b8 := fun e => by have := hoc.out b8 e; omega)
    all_goals (have hBB := (((HB2.out.trans (grown_below HD2.out hgrow2 (.slice (some ⟨g2, 0, none⟩) (D.body.length + 1 + 1) cap2) 2)).setCell (p := ⟨b8, 0, none⟩) (by simp only []; omega) (.int .u8 11)).setCell (p := ⟨b8, 1, none⟩) (by simp only []; omega) (.int .u32 0)).setCell (p := ⟨b8, 2, none⟩) (by simp only []; omega) (.int .u64 0))
    all_goals exact ⟨⟨_, ((hP2.setFar n3 k1 k2 k3).setFar n3 k1 k2 k3).setFar n3 k1 k2 k3⟩, vatBelow HVw.out hBB hbd, hBB, by simp [go_sem, u0, n3, n4], by simp [go_sem, u1, n3, n4], by simp [go_sem, u2, n3, n4]⟩

end
end Go.Proofs.Qxb6500273a
