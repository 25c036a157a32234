/-
  Refused: the ways.
-/
import Derived.Test.Qxb6500273aRf0
import Derived.BigQuiet
set_option linter.unusedVariables false
set_option linter.unusedSimpArgs false
namespace Go.Proofs.Qxb6500273a
open Go.RowKit

section
variable {w W : World} {bv db b5 b8 : Nat} {D : Dv} {vb vt vc : Value} {V : VS} {K A B C : Int} {S T : List UInt8}

theorem DAt.setOff {w : World} {db : Nat} {D : Dv} {vb vt vc : Value} (h : DAt w db D vb vt vc) {b o : Nat} {v : Value} (hb : db ≠ b) (h1 : vb.ownBlock ≠ some b) (h2 : vt.ownBlock ≠ some b) (h3 : vc.ownBlock ≠ some b) : DAt (w.setCell ⟨b, o, none⟩ v) db D vb vt vc := by
  have n : ∀ i, (w.setCell ⟨b, o, none⟩ v).cell? ⟨db, i, none⟩ = w.cell? ⟨db, i, none⟩ := fun i => apartc (Ne.symm hb)
  have r : ∀ {e size u n xs}, w.ownsRow (db + 1) e size u n xs → u.ownBlock ≠ some b → (w.setCell ⟨b, o, none⟩ v).ownsRow (db + 1) e size u n xs := fun hh hn => ownsRow_same hh fun g hg _ => Below.heap_setCell _ _ _ _ (fun e => hn (by rw [hg]; exact congrArg some e))
  exact ⟨(n 0).trans h.c0, (n 1).trans h.c1, (n 2).trans h.c2, (n 3).trans h.c3, (n 4).trans h.c4, (n 5).trans h.c5, (n 6).trans h.c6, fun i => by simpa using h.fz i, r h.ob h1, r h.ot h2, r h.oc h3⟩

/-- the world behind a br_table's labels -/
structure TabW (w W : World) (bv db b5 b8 : Nat) (E : Dv) (vb vt vc : Value) (V : VS) (K B C : Int) (S T : List UInt8) (x : Insn) : Prop where
  be : Below db w W
  dw : db < w.heap.size
  at_ : DAt W db E vb vt vc
  v : VAt W bv V
  bd : bv < db
  o1 : w.heap.size ≤ b5
  o2 : b5 < b8
  o4 : b8 < W.heap.size
  e0 : W.cell? ⟨b5, 0, none⟩ = some (.int .i64 K)
  e1 : W.cell? ⟨b5, 1, none⟩ = some (.int .i64 14)
  e2 : W.cell? ⟨b5, 2, none⟩ = some (.int .i64 B)
  e3 : W.cell? ⟨b5, 3, none⟩ = some (.int .i64 C)
  e4 : W.cell? ⟨b5, 4, none⟩ = some (.string ⟨S.toArray⟩)
  e5 : W.cell? ⟨b5, 5, none⟩ = some (.string ⟨T.toArray⟩)
  x0 : W.cell? ⟨b8, 0, none⟩ = some (.int .u8 x.op)
  x1 : W.cell? ⟨b8, 1, none⟩ = some (.int .u32 x.x)
  x2 : W.cell? ⟨b8, 2, none⟩ = some (.int .u64 x.y)
  xf : ∀ o, W.frozen? ⟨b8, o, none⟩ = false
  kb : vb.ownBlock ≠ some b8
  kt : vt.ownBlock ≠ some b8
  kc : vc.ownBlock ≠ some b8
  k5 : vt.ownBlock ≠ some b5

set_option maxRecDepth 100000 in
set_option maxHeartbeats 4000000 in
theorem rf6_t0 (E : Dv) (hst : E.st.length ≤ 10) (hbl : E.below ≤ 10) (h6 : E.ctl.length < 6) (x : Insn) (pl want : Int) (HW : TabW w W bv db b5 b8 E vb vt vc V K B C S T x) (hm : Doom E x pl want) : RGoal 6 w W bv db b5 b8 pl want true := by
  intro c a hc hf
  unfold RTail at hc
  simp only [Try.f16, Option.map, dropC, Option.some.injEq] at hc
  obtain ⟨s, rfl⟩ := frame16 a _ _ _ _ _ _ _ _ hf.d hf.n hf.h0 hf.h1 hf.h5 hf.h6 hf.h7 hf.h8 hf.h9 hf.h10
  clear hf
  subst hc
  unfold RPost
  have e1 := HW.e1
  have e2 := HW.e2
  have d4 := HW.at_.c4
  have d5 := HW.at_.c5
  have d6 := HW.at_.c6
  obtain ⟨ca, cc, hvc⟩ := HW.at_.ctlV
  rw [hvc] at d5
  have h6i : (E.ctl.length : Int) < 6 := by omega
  have hst1 : (E.st.length : Int) ≤ 10 := by omega
  have hbl1 : (E.below : Int) ≤ 10 := by omega
  have HM : Hid (Doom E x pl want) := hm
  have HH : Hid (∀ n, DAt (W.drewN n) db E vb vt vc ∧ VAt (W.drewN n) bv V ∧ Below db w (W.drewN n) ∧ (W.drewN n).cell? ⟨b8, 0, none⟩ = some (.int .u8 x.op) ∧ (W.drewN n).cell? ⟨b8, 1, none⟩ = some (.int .u32 x.x) ∧ (W.drewN n).cell? ⟨b8, 2, none⟩ = some (.int .u64 x.y)) := fun n => ⟨HW.at_.drewN n, HW.v.same rfl, belowN HW.be n, by simpa using HW.x0, by simpa using HW.x1, by simpa using HW.x2⟩
  have hbd := HW.bd
  have hdw := Nat.le_of_lt HW.dw
  clear HW hm hvc h6 hst hbl
  go_upto_region 25 with fail
  go_quiet (fail)
  go_upto_if 209 with fail
  go_cut [6] from 208 to 209 (fun s6 wc => s6 = .bool false ∧ wc = W.drewN nq)
  case first =>
    go_wp2_with fail
    go_meet
    exact ⟨rfl, rfl⟩
  case rest =>
    obtain ⟨rfl, rfl⟩ := hcut
    refine (by assumption : ∀ (a : Act) (w : World), Code.wp Try.prog _ _ a w → _) _ _ ?_
    have hh := HH.out nq
    exact ref_end bv db b5 b8 w E vb vt vc V _ x pl want _ rfl _ ⟨rfl, rfl, rfl, rfl, rfl, rfl, rfl, rfl, rfl, rfl⟩ hh.1 hh.2.1 hbd hh.2.2.1 hdw hh.2.2.2.1 hh.2.2.2.2.1 hh.2.2.2.2.2 HM.out

set_option maxRecDepth 100000 in
set_option maxHeartbeats 4000000 in
theorem rf6_t6 (E : Dv) (hst : E.st.length ≤ 10) (hbl : E.below ≤ 10) (h6 : E.ctl.length = 6) (x : Insn) (pl want : Int) (HW : TabW w W bv db b5 b8 E vb vt vc V K B C S T x) (hm : Doom E x pl want) : RGoal 6 w W bv db b5 b8 pl want true := by
  intro c a hc hf
  unfold RTail at hc
  simp only [Try.f16, Option.map, dropC, Option.some.injEq] at hc
  obtain ⟨s, rfl⟩ := frame16 a _ _ _ _ _ _ _ _ hf.d hf.n hf.h0 hf.h1 hf.h5 hf.h6 hf.h7 hf.h8 hf.h9 hf.h10
  clear hf
  subst hc
  unfold RPost
  have e1 := HW.e1
  have e2 := HW.e2
  have d4 := HW.at_.c4
  have d5 := HW.at_.c5
  have d6 := HW.at_.c6
  obtain ⟨ca, cc, hvc⟩ := HW.at_.ctlV
  rw [hvc, h6] at d5
  have hst1 : (E.st.length : Int) ≤ 10 := by omega
  have hbl1 : (E.below : Int) ≤ 10 := by omega
  have HM : Hid (Doom E x pl want) := hm
  have HH : Hid (∀ n, DAt (W.drewN n) db E vb vt vc ∧ VAt (W.drewN n) bv V ∧ Below db w (W.drewN n) ∧ (W.drewN n).cell? ⟨b8, 0, none⟩ = some (.int .u8 x.op) ∧ (W.drewN n).cell? ⟨b8, 1, none⟩ = some (.int .u32 x.x) ∧ (W.drewN n).cell? ⟨b8, 2, none⟩ = some (.int .u64 x.y)) := fun n => ⟨HW.at_.drewN n, HW.v.same rfl, belowN HW.be n, by simpa using HW.x0, by simpa using HW.x1, by simpa using HW.x2⟩
  have hbd := HW.bd
  have hdw := Nat.le_of_lt HW.dw
  clear HW hm hvc h6 hst hbl
  go_upto_region 25 with fail
  go_quiet (fail)
  go_upto_if 209 with fail
  go_cut [6] from 208 to 209 (fun s6 wc => s6 = .bool false ∧ wc = W.drewN nq)
  case first =>
    go_wp2_with fail
    go_meet
    exact ⟨rfl, rfl⟩
  case rest =>
    obtain ⟨rfl, rfl⟩ := hcut
    refine (by assumption : ∀ (a : Act) (w : World), Code.wp Try.prog _ _ a w → _) _ _ ?_
    have hh := HH.out nq
    exact ref_end bv db b5 b8 w E vb vt vc V _ x pl want _ rfl _ ⟨rfl, rfl, rfl, rfl, rfl, rfl, rfl, rfl, rfl, rfl⟩ hh.1 hh.2.1 hbd hh.2.2.1 hdw hh.2.2.2.1 hh.2.2.2.2.1 hh.2.2.2.2.2 HM.out

end
end Go.Proofs.Qxb6500273a
