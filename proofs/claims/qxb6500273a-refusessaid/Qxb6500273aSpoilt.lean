/-
  WALKS: frame of a derivation, spoilt.
-/
import Derived.Test.Qxb6500273aPush
import Derived.Test.Qxb6500273aTurn
import Derived.Test.Qxb6500273aOwed
set_option linter.unusedVariables false
set_option linter.unusedSimpArgs false
namespace Go.Proofs.Qxb6500273a
open Go.RowKit

theorem Try.info42 : (Try.prog.info? 42).map (fun i => (i.zero, i.size, i.bytes)) = some (some (.agg #[.int .u8 0, .int .u32 0, .int .u64 0]), 3, 16) := by kernel_rfl

theorem frameD_any (bv db : Nat) (D : Dv) (vb vt vc : Value) (w : World) (hD : DAt w db D vb vt vc) (hbv : bv < db) (hne : 0 < D.body.length) :
    Calls Try.prog 13 #[.pointer (some ⟨db, 0, none⟩)] w fun e w' => ∃ L, e = .returned (.pointer (some ⟨L.p, 0, none⟩)) ∧ ModAt w' bv L (mod0 D.t D.body D.tabs) ∧ ModW w' L (mod0 D.t D.body D.tabs) ∧ Below w.heap.size w w' ∧ L.p = w.heap.size ∧ L.xa = none ∧ L.xc = 0 := by
  have hl := hD.lt
  obtain ⟨bb, bc, rfl, hb1, hb2⟩ := hD.ob.form hne
  have hB : BodyAt w bb D.body := bodyAt_of fun j u hj => (hD.ob.cellAt j (by have := (List.getElem?_eq_some_iff.mp hj).1; rw [insCells_len] at this; exact this)).trans hj
  rcases hD.ot.2 with ⟨h0, h1⟩ | ⟨g, cap, cur, h0, h1, h2, h3⟩
  · have ht : D.tabs = [] := List.eq_nil_of_length_eq_zero h1
    have c3 := hD.c3
    rw [h0] at c3
    refine frame_any bv db D.t D.body D.tabs bb bc none 0 0 w (by omega) (by omega) (fun h => absurd ht h) hD.c1 hD.c2 (by rw [ht]; exact c3) hB ⟨fun i hi => by rw [ht] at hi; simp at hi⟩ hb2 (fun h => absurd ht h)
  · have c3 := hD.c3
    rw [h0] at c3
    have hg : g < w.heap.size := by
      rcases Nat.lt_or_ge g w.heap.size with h7 | h7
      · exact h7
      · rw [Array.getElem?_eq_none h7] at h2; exact absurd h2 (by simp)
    have hot := hD.ot
    rw [h0] at hot
    refine frame_any bv db D.t D.body D.tabs bb bc (some ⟨g, 0, none⟩) cap g w (by omega) (by omega) (fun _ => by omega) hD.c1 hD.c2 c3 hB ⟨fun i hi => ⟨rfl, ?_⟩⟩ hb2 (fun _ => hg)
    rw [hot.cellAt i (by omega)]
    simp [tabCells, List.getElem?_map, hi]

/-- the frame with global 3 a constant -/
def modS (t : Int) (body : List Insn) (tabs : List Int) : Md := { mod0 t body tabs with mut3 := false }
def endsN (n : Nat) : List Insn := List.replicate n ⟨11, 0, 0⟩
theorem endsN_succ (n : Nat) : endsN (n + 1) = endsN n ++ [⟨11, 0, 0⟩] := List.replicate_succ'

def SpRes (bv db : Nat) (D : Dv) (x : Insn) (w : World) (e : Ending) (w' : World) : Prop :=
  ∃ L, e = .returned (.pointer (some ⟨L.p, 0, none⟩)) ∧ ModAt w' bv L (modS D.t (D.body ++ x :: endsN (D.ctl.length + 1)) D.tabs) ∧ Below db w w'

structure SpI (db : Nat) (D : Dv) (x : Insn) (vt vc : Value) (w : World) (k : Nat) (wr : World) : Prop where
  at_ : ∃ vb, DAt wr db { D with body := D.body ++ x :: endsN k } vb vt vc
  be : Below db w wr

theorem grown_below {w w1 : World} {db : Nat} {D : Dv} {vb vt vc : Value} (h : DAt w db D vb vt vc) (hg : w.grownBy w1 vb.ownBlock) (v : Value) (o : Nat) : Below db w (w1.setCell ⟨db, o, none⟩ v) := by
  refine Below.setCell (p := ⟨db, o, none⟩) ?_ (by simp only []; omega) v
  have hl := h.lt
  exact ⟨hg.os, hg.tape, hg.output, hg.size, fun i hi => hg.block i (by omega) (far h.ob (by omega))⟩

set_option maxRecDepth 100000 in
set_option maxHeartbeats 4000000 in
theorem spoilt_any (bv db : Nat) (D : Dv) (vb vt vc : Value) (x : Insn) (w : World) (hD : DAt w db D vb vt vc) (hbv : bv < db) (hlen : D.body.length ≤ 900) (hc : D.ctl.length ≤ 6) :
    Calls Try.prog 35 #[.pointer (some ⟨db, 0, none⟩), .agg #[.int .u8 x.op, .int .u32 x.x, .int .u64 x.y]] w fun e w' => SpRes bv db D x w e w' := by
  obtain ⟨i0, hi0, hz0, hz1, hz2⟩ := info_parts Try.info42
  have hDa : ∀ o, Hid (DAt (w.alloc o) db D vb vt vc) := fun o => hD.alloc o
  have hdl := hD.lt
  have hD0 : Hid (DAt w db D vb vt vc) := hD
  clear hD
  go_enter Try.func35, Try.ntmps35
  go_upto_region 1 with fail
  go_cut [4] from 5 (fun s4 wc => s4 = .pointer none ∧ SpI db D x vt vc w 0 wc)
  case rest =>
    obtain ⟨rfl, HI⟩ := hcut
    clear hDa hD0 hdl
    refine (by assumption : ∀ (a : Act) (w : World), Code.wp Try.prog _ _ a w → _) _ _ ?_
    go_wp2_with fail
    go_loopw [5] (fun i wr => ∃ k : Nat, k ≤ D.ctl.length + 1 ∧ i = .int .i64 k ∧ SpI db D x vt vc w k wr) (fun i _ => D.ctl.length + 1 - (intOf i).toNat)
    case atStart => exact ⟨0, by omega, rfl, HI⟩
    case round =>
      obtain ⟨k, hk, rfl, hI⟩ := hrel
      clear HI
      obtain ⟨vb2, hD2⟩ := hI.at_
      obtain ⟨E, hE⟩ : ∃ E : Dv, E = { D with body := D.body ++ x :: endsN k } := ⟨_, rfl⟩
      rw [← hE] at hD2
      have hEb : E.body.length = D.body.length + k + 1 := by rw [hE]; simp [endsN]; omega
      have hEc : E.ctl = D.ctl := by rw [hE]
      obtain ⟨ca, cc, hvc⟩ := hD2.ctlV
      have c5 := hD2.c5
      rw [hvc, hEc] at c5
      have hbe : Hid (Below db w wr) := hI.be
      have HE : Hid (E = { D with body := D.body ++ x :: endsN k }) := hE
      have hlp := hD2.lt
      clear hI hE hEc
      by_cases hlt : k ≤ D.ctl.length
      · have hki : (k : Int) ≤ D.ctl.length := by omega
        have c2 : ∀ ob, (wr.alloc ob).cell? ⟨db, 2, none⟩ = some vb2 := fun ob => (hD2.alloc ob).c2
        have z2 : ∀ ob, (wr.alloc ob).frozen? ⟨db, 2, none⟩ = false := fun ob => (hD2.alloc ob).fz 2
        have c2o := hD2.c2
        have HDm : Hid (DAt (wr.alloc (.cells #[.int .u8 11, .int .u32 0, .int .u64 0] 42)) db E vb2 vt vc) := hD2.alloc _
        have hbm : Hid (Below db w (wr.alloc (.cells #[.int .u8 11, .int .u32 0, .int .u64 0] 42))) := hbe.out.alloc (by omega) _
        clear hD2 hvc
        go_wp2_with (at_builtin; refine wpList_append_lies _ (by rfl) _ _ _ (by rfl) (db + 1) 42 i0 _ 3 16 Try.underlying28 hi0 hz0 hz1 hz2 rfl (by omega) vb2 E.body.length (insCells E.body) (by rfl) HDm.out.ob ⟨wr.heap.size, 0, none⟩ 1 1 [.int .u8 11, .int .u32 0, .int .u64 0] (by rfl) (by rfl) (World.news_of_block (cs := #[.int .u8 11, .int .u32 0, .int .u64 0]) (t := 42) (fr := (0, 0)) (heap_alloc_new wr _)) (by simp [Value.oneCell']) (by omega) (by unfold maxLen; omega) (by omega) (by simp; omega) (wr.heap.size + 1) (by simp) ?_; intro g cap w1 hown1 hgrow hat hlt1; have q1 : w1.cell? ⟨db, 2, none⟩ = some vb2 := (hgrow.cell_far ⟨db, 2, none⟩ (by simp; omega) (far HDm.out.ob (Nat.le_refl _))).trans (c2 _); have q2 : w1.frozen? ⟨db, 2, none⟩ = false := (hgrow.frozen_far ⟨db, 2, none⟩ (by simp; omega) (far HDm.out.ob (Nat.le_refl _))).trans (z2 _))
        refine ⟨⟨k + 1, by omega, by simp, ?_⟩, by simp [intOf]; omega⟩
        have hP := HDm.out.pushBody hgrow ⟨11, 0, 0⟩ g cap hown1
        have hE2 : ({ E with body := E.body ++ [⟨11, 0, 0⟩] } : Dv) = { D with body := D.body ++ x :: endsN (k + 1) } := by rw [HE.out]; simp [endsN_succ]
        rw [hE2, hEb] at hP
        exact ⟨⟨_, hP⟩, hbm.out.trans (grown_below HDm.out hgrow _ _)⟩
      · have hki : ¬ (k : Int) ≤ D.ctl.length := by omega
        have hkk : k = D.ctl.length + 1 := by omega
        have HF := frameD_any bv db E vb2 vt vc wr hD2 hbv (by omega)
        clear hD2 hvc
        go_wp2_with (go_at_call 13; refine HF.mono ?_; rintro e w2 ⟨L, rfl, hM, hW, hb2, hp, hxa, hxc⟩; have m7 := hM.m7; have g16 : w2.cell? ⟨L.gb, 16, none⟩ = some (.bool (gMut (mod0 E.t E.body E.tabs) 3)) := hM.g1 3 (by omega); have f16 := hW.fg 16; have HM2 : Hid (ModAt (w2.setCell ⟨L.gb, 16, none⟩ (.bool false)) bv L { mod0 E.t E.body E.tabs with mut3 := false }) := (ModAt.setMut3 hM hW false).1; have HB2 : Hid (Below db w (w2.setCell ⟨L.gb, 16, none⟩ (.bool false))) := (hbe.out.trans (hb2.mono (by omega))).setCell (p := ⟨L.gb, 16, none⟩) (by have q1 := hW.o1; have q2 := hW.o2; have q3 := hW.o3; have q4 := hW.o4; simp only []; omega) _; clear hp hxa hxc hM hW hb2)
        go_ret
        refine ⟨L, rfl, ?_, HB2.out⟩
        have hEM : ({ mod0 E.t E.body E.tabs with mut3 := false } : Md) = modS D.t (D.body ++ x :: endsN (D.ctl.length + 1)) D.tabs := by rw [HE.out, hkk]; rfl
        rw [← hEM]
        exact HM2.out
  case first =>
    have k0 := World.cell?_alloc_new w #[.int .u8 x.op, .int .u32 x.x, .int .u64 x.y] 42 0
    have k1 := World.cell?_alloc_new w #[.int .u8 x.op, .int .u32 x.x, .int .u64 x.y] 42 1
    have k2 := World.cell?_alloc_new w #[.int .u8 x.op, .int .u32 x.x, .int .u64 x.y] 42 2
    have kl : w.heap.size < (w.alloc (.cells #[.int .u8 x.op, .int .u32 x.x, .int .u64 x.y] 42)).heap.size := by simp
    have hD1 := (hDa (.cells #[.int .u8 x.op, .int .u32 x.x, .int .u64 x.y] 42)).out
    have hb1 : Hid (Below db w (w.alloc (.cells #[.int .u8 x.op, .int .u32 x.x, .int .u64 x.y] 42))) := ((Below.refl _ _).alloc (by omega) _)
    simp only [List.getElem?_toArray, List.getElem?_cons_zero, List.getElem?_cons_succ] at k0 k1 k2
    clear hDa hD0
    generalize (w.alloc (.cells #[.int .u8 x.op, .int .u32 x.x, .int .u64 x.y] 42)) = W1 at *
    generalize w.heap.size = kb at *
    have hlp1 := hD1.lt
    have c2 := hD1.c2
    have z2 := hD1.fz 2
    have c2a : ∀ ob, (W1.alloc ob).cell? ⟨db, 2, none⟩ = some vb := fun ob => (hD1.alloc ob).c2
    have z2a : ∀ ob, (W1.alloc ob).frozen? ⟨db, 2, none⟩ = false := fun ob => (hD1.alloc ob).fz 2
    have k0a : ∀ ob, (W1.alloc ob).cell? ⟨kb, 0, none⟩ = some (.int .u8 x.op) := fun ob => (oldc kl).trans k0
    have k1a : ∀ ob, (W1.alloc ob).cell? ⟨kb, 1, none⟩ = some (.int .u32 x.x) := fun ob => (oldc kl).trans k1
    have k2a : ∀ ob, (W1.alloc ob).cell? ⟨kb, 2, none⟩ = some (.int .u64 x.y) := fun ob => (oldc kl).trans k2
    have HD1 : Hid (DAt W1 db D vb vt vc) := hD1
    have HDm : Hid (DAt (W1.alloc (.cells #[.int .u8 x.op, .int .u32 x.x, .int .u64 x.y] 42)).drew db D vb vt vc) := (hD1.alloc _).drew
    have hbm : Hid (Below db w (W1.alloc (.cells #[.int .u8 x.op, .int .u32 x.x, .int .u64 x.y] 42)).drew) := (hb1.out.alloc (by omega) _).drew
    clear hD1
    go_wp2_with fail
    go_region_law ((refine step_append_lies _ (by rfl) _ _ _ (by rfl) (db + 1) 42 i0 _ 3 16 Try.underlying28 hi0 hz0 hz1 hz2 rfl (by omega) vb D.body.length (insCells D.body) (by rfl) HDm.out.ob ⟨W1.heap.size, 0, none⟩ 1 1 [.int .u8 x.op, .int .u32 x.x, .int .u64 x.y] (by rfl) (by rfl) (World.news_of_block (cs := #[.int .u8 x.op, .int .u32 x.x, .int .u64 x.y]) (t := 42) (fr := (0, 0)) (heap_alloc_new W1 _)) (by simp [Value.oneCell']) (by omega) (by unfold maxLen; omega) (by omega) (by simp; omega) (W1.heap.size + 1) (by simp) ?_; intro g cap w1 hown1 hgrow hat hlt; have q1 : w1.cell? ⟨db, 2, none⟩ = some vb := (hgrow.cell_far ⟨db, 2, none⟩ (by simp; omega) (far HDm.out.ob (Nat.le_refl _))).trans (c2a _); have q2 : w1.frozen? ⟨db, 2, none⟩ = false := (hgrow.frozen_far ⟨db, 2, none⟩ (by simp; omega) (far HDm.out.ob (Nat.le_refl _))).trans (z2a _)))
    all_goals (go_wp2_with fail)
    all_goals go_meet
    all_goals exact ⟨rfl, ⟨_, HDm.out.pushBody hgrow x g cap hown1⟩, hbm.out.trans (grown_below HDm.out hgrow _ _)⟩

end Go.Proofs.Qxb6500273a
