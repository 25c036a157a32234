/-
  Refused: the ways.
-/
import Derived.Test.Qxb6500273aRf0
import Derived.Test.Qxb6500273aRfq
import Derived.BigQuiet
set_option linter.unusedVariables false
set_option linter.unusedSimpArgs false
namespace Go.Proofs.Qxb6500273a
open Go.RowKit

section
variable {w W : World} {bv db b5 b8 : Nat} {D : Dv} {vb vt vc : Value} {V : VS} {K A B C : Int} {S T : List UInt8}

theorem dv_tabs (D : Dv) (h : D.tabs = []) (l : List Int) (hl : l = []) : ({ D with tabs := l } : Dv) = D := by
  cases D with
  | mk on t body tabs st ctl below =>
    simp only [] at h
    subst h
    subst hl
    rfl

theorem info39 : (Try.prog.info? 39).map (fun i => (i.zero, i.size, i.bytes)) = some (some (.int .u32 0), 1, 4) := by kernel_rfl

set_option maxRecDepth 100000 in
set_option maxHeartbeats 4000000 in
theorem rf_tab_ok (hb : DBnd D) (hbl : D.below ≤ 10) (X0_ : Int) (want0 : Int) (bad0 : Bool) (htb : D.tabs = []) (hT0 : 0 < T.length) (hT4 : T.length ≤ 4) (hG : ∀ W' vt', TabW w W' bv db b5 b8 { D with tabs := T.map fun c => (c.toNat : Int) } vb vt' vc V K B C S T ⟨14, 0, (T.length : Int)⟩ → RGoal 6 w W' bv db b5 b8 D.body.length (tabledL D T) (!(tabledL D T) == 0)) (HW : RfW w W bv db b5 b8 D vb vt vc V K 14 B C S T ⟨14, X0_, 0⟩) : RGoal 5 w W bv db b5 b8 D.body.length want0 bad0 := by
  intro c a hc hf
  unfold RTail at hc
  simp only [Try.f16, Option.map, dropC, Option.some.injEq] at hc
  obtain ⟨s, rfl⟩ := frame16 a _ _ _ _ _ _ _ _ hf.d hf.n hf.h0 hf.h1 hf.h5 hf.h6 hf.h7 hf.h8 hf.h9 hf.h10
  clear hf
  subst hc
  unfold RPost
  have e0 := HW.e0
  have e1 := HW.e1
  have e2 := HW.e2
  have e3 := HW.e3
  have e4 := HW.e4
  have e5 := HW.e5
  have d4 := HW.now.c4
  have d5 := HW.now.c5
  have d6 := HW.now.c6
  have x0 := HW.x0
  have x1 := HW.x1
  have x2 := HW.x2
  have xf := HW.xf
  have n1 : ¬ b5 = b8 := by have := HW.o2; omega
  have n2 : ¬ b8 = b5 := by have := HW.o2; omega
  have n3 : ¬ db = b8 := by have := HW.o1; have := HW.o2; have := HW.at_.lt; omega
  have n4 : ¬ b8 = db := by have := HW.o1; have := HW.o2; have := HW.at_.lt; omega
  have HTb := tabled_any db D vb vt vc T
  have d3 : ∃ ta tc, W.cell? ⟨db, 3, none⟩ = some (.slice ta 0 tc) := by
    have q := HW.now.c3
    rcases HW.now.ot.2 with ⟨h0, h1⟩ | ⟨g, cap, cur, h0, _⟩
    · exact ⟨none, 0, by rw [q, h0]⟩
    · exact ⟨_, cap, by rw [q, h0, htb]; rfl⟩
  obtain ⟨ta, tc, d3⟩ := d3
  obtain ⟨i0, hi0, hz0, hz1, hz2⟩ := info_parts info39
  have g1 : decide ((T.length : Int) < 1) = false := decide_eq_false (by omega)
  have g2 : decide ((4 : Int) < (T.length : Int)) = false := decide_eq_false (by omega)
  have g3 : (T.length : Int) ≤ 4 := by omega
  have hTm : (T.length : Int) % 18446744073709551616 = T.length := by omega
  have HN : Hid (∀ n, RfW w (W.drewN n) bv db b5 b8 D vb vt vc V K 14 B C S T ⟨14, X0_, 0⟩) := fun n => HW.next (belowN (Below.refl _ _) n)
  have HBd : Hid (DBnd D) := hb
  have HGo : Hid (∀ W' vt', TabW w W' bv db b5 b8 { D with tabs := T.map fun c => (c.toNat : Int) } vb vt' vc V K B C S T ⟨14, 0, (T.length : Int)⟩ → RGoal 6 w W' bv db b5 b8 D.body.length (tabledL D T) (!(tabledL D T) == 0)) := hG
  clear HW hb hbl hG
  go_upto_if 55 with fail
  go_cut [6, 9, 10, 11] from 56 to 115 (fun s6 s9 s10 s11 wc => s6 = .bool false ∧ s9 = .int .i64 (tabledL D T) ∧ s10 = .bool (!(tabledL D T) == 0) ∧ ∃ vt', TabW w wc bv db b5 b8 { D with tabs := T.map fun c => (c.toNat : Int) } vb vt' vc V K B C S T ⟨14, 0, (T.length : Int)⟩)
  case rest =>
    obtain ⟨rfl, rfl, rfl, vt', hT⟩ := hcut
    refine (by assumption : ∀ (a : Act) (w : World), Code.wp Try.prog _ _ a w → _) _ _ ?_
    refine HGo.out _ _ hT _ _ rfl ?_
    exact ⟨rfl, rfl, rfl, rfl, rfl, rfl, rfl, rfl, rfl, rfl⟩
  case first =>
    clear HGo
    go_upto_region 7 with fail
    go_quiet (fail)
    have HW4 := HN.out nq
    have HTb2 := HTb (W.drewN nq) HW4.now HBd.out (by omega) (by omega)
    have d3n : (W.drewN nq).cell? ⟨db, 3, none⟩ = some (.slice ta 0 tc) := by simpa using d3
    generalize W.drewN nq = W4 at *
    have e1 := HW4.e1
    have e5 := HW4.e5
    clear HTb HN e0 e1 e2 e3 e4 d4 d5 d6 x0 x1 x2 xf e5
    have e1 := HW4.e1
    have e5 := HW4.e5
    go_upto_region 11 with (go_at_call 32; refine HTb2.mono ?_; rintro e w5 ⟨rfl, hb5⟩; have HW5 := HW4.next hb5; clear hb5)
    have d3 := HW5.now.c3
    have d3' : w5.cell? ⟨db, 3, none⟩ = some (.slice ta 0 tc) := by
      have q := HW5.now.c3
      have q2 := HW4.now.c3
      rw [q2] at d3n
      rw [q, d3n]
    have f5 := HW5.e5
    have y0 := HW5.x0
    have y1 := HW5.x1
    have y2 := HW5.x2
    have yf := HW5.xf
    clear d3 e1 e5 HTb2 d3n
    go_region
    have HW6 := (HW5.setX ⟨14, 0, (T.length : Int)⟩).next (belowN (Below.refl _ _) 1)
    have HT0 : Hid (TabW w ((((w5.setCell ⟨b8, 0, none⟩ (.int .u8 14)).setCell ⟨b8, 1, none⟩ (.int .u32 0)).setCell ⟨b8, 2, none⟩ (.int .u64 (T.length : Int))).drew) bv db b5 b8 { D with tabs := (T.take 0).map fun c => (c.toNat : Int) } vb vt vc V K B C S T ⟨14, 0, (T.length : Int)⟩) := by
      have hD : ({ D with tabs := (T.take 0).map fun c => (c.toNat : Int) } : Dv) = D := dv_tabs D htb _ (by simp)
      rw [hD]
      have hw := HW6.at_.lt
      have p1 := HW6.o1
      have p2 := HW6.o2
      exact ⟨HW6.bed, HW6.at_.lt, HW6.now, HW6.vnow, HW6.bd, HW6.o1, HW6.o2, HW6.o4, HW6.e0, HW6.e1, HW6.e2, HW6.e3, HW6.e4, HW6.e5, HW6.x0, HW6.x1, HW6.x2, HW6.xf, fun e => by have := own_lt HW6.at_.ob e; omega, fun e => by have := own_lt HW6.at_.ot e; omega, fun e => by have := own_lt HW6.at_.oc e; omega, fun e => by have := own_lt HW6.at_.ot e; omega⟩
    clear HW4 HW5 HW6 y0 y1 y2 yf f5 d3' HBd
    go_wp2_with fail
    go_loopw [11] (fun i wr => ∃ k : Nat, k ≤ T.length ∧ i = .int .i64 k ∧ Hid (∃ vt', TabW w wr bv db b5 b8 { D with tabs := (T.take k).map fun c => (c.toNat : Int) } vb vt' vc V K B C S T ⟨14, 0, (T.length : Int)⟩)) (fun i _ => T.length - (intOf i).toNat)
    case atStart => exact ⟨0, by omega, rfl, ⟨_, HT0.out⟩⟩
    case round =>
      obtain ⟨k, hk, rfl, hI⟩ := hrel
      clear HT0
      obtain ⟨vt1, hT⟩ := hI.out
      have e5 := hT.e5
      by_cases hlt : k < T.length
      · have hki : (k : Int) < T.length := by omega
        have hlp := hT.at_.lt
        have p1 := hT.o1
        have p2 := hT.o2
        have p4 := hT.o4
        have pd := hT.dw
        have e5a : ∀ o, (wr.alloc o).cell? ⟨b5, 5, none⟩ = some (.string ⟨T.toArray⟩) := fun o => (oldc (by omega)).trans e5
        have c3 := hT.at_.c3
        have c3a : ∀ o, (wr.alloc o).cell? ⟨db, 3, none⟩ = some vt1 := fun o => (hT.at_.alloc o).c3
        have z3a : ∀ o, (wr.alloc o).frozen? ⟨db, 3, none⟩ = false := fun o => (hT.at_.alloc o).fz 3
        have HTk : Hid (TabW w wr bv db b5 b8 { D with tabs := (T.take k).map fun c => (c.toNat : Int) } vb vt1 vc V K B C S T ⟨14, 0, (T.length : Int)⟩) := hT
        have htl : ((T.take k).map fun c => (c.toNat : Int)).length = k := by simp; omega
        have hch := local_at T k hlt
        have hnx : Hid ((T.take (k + 1)).map (fun c => (c.toNat : Int)) = ((T.take k).map fun c => (c.toNat : Int)) ++ [((T.getD k 0).toNat : Int)]) := by
          refine show _ = _ from ?_
          rw [List.take_add_one, List.map_append]
          simp [hlt]
        clear hT hI
        go_upto_region 15 with fail
        go_wp2_with fail
        have hwr : IntKind.u32.wrap (((ByteArray.mk T.toArray)[k]).toNat : Int) = (((ByteArray.mk T.toArray)[k]).toNat : Int) := by
          have h := ((ByteArray.mk T.toArray)[k]).toNat_lt
          rw [IntKind.wrap_u32]; omega
        have HDm : Hid (DAt (wr.alloc (.cells #[.int .u32 (((ByteArray.mk T.toArray)[k]).toNat : Int)] 39)).drew db { D with tabs := (T.take k).map fun c => (c.toNat : Int) } vb vt1 vc) := (HTk.out.at_.alloc _).drew
        go_region_law ((refine step_append_lies _ (by rfl) _ _ _ (by rfl) (db + 1) 39 i0 _ 1 4 Try.underlying29 hi0 hz0 hz1 hz2 rfl (by omega) vt1 ((T.take k).map fun c => (c.toNat : Int)).length (tabCells ((T.take k).map fun c => (c.toNat : Int))) (by rfl) HDm.out.ot ⟨wr.heap.size, 0, none⟩ 1 1 [.int .u32 (((ByteArray.mk T.toArray)[k]).toNat : Int)] (by rfl) (by rfl) (World.news_of_block (cs := #[.int .u32 (((ByteArray.mk T.toArray)[k]).toNat : Int)]) (t := 39) (fr := (0, 0)) (heap_alloc_new wr _)) (by simp [Value.oneCell']) (by omega) (by unfold maxLen; omega) (by omega) (by simp; omega) (wr.heap.size + 1) (by simp) ?_; intro g cap w1 hown1 hgrow hat hlt1; have q1 : w1.cell? ⟨db, 3, none⟩ = some vt1 := (hgrow.cell_far ⟨db, 3, none⟩ (by simp; omega) (far HDm.out.ot (Nat.le_refl _))).trans (c3a _); have q2 : w1.frozen? ⟨db, 3, none⟩ = false := (hgrow.frozen_far ⟨db, 3, none⟩ (by simp; omega) (far HDm.out.ot (Nat.le_refl _))).trans (z3a _)))
        all_goals (go_wp2_with fail)
        all_goals (refine ⟨⟨k + 1, by omega, by simp, ?_⟩, by simp [intOf]; omega⟩)
        all_goals (have hP := HDm.out.pushTabs hgrow (((ByteArray.mk T.toArray)[k]).toNat : Int) g cap hown1)
        all_goals (have hE2 : ({ ({ D with tabs := (T.take k).map fun c => (c.toNat : Int) } : Dv) with tabs := ({ D with tabs := (T.take k).map fun c => (c.toNat : Int) } : Dv).tabs ++ [(((ByteArray.mk T.toArray)[k]).toNat : Int)] } : Dv) = { D with tabs := (T.take (k + 1)).map fun c => (c.toNat : Int) } := by rw [hnx.out, hch])
        all_goals (rw [hE2] at hP)
        all_goals (simp only [htl] at hP)
        all_goals (have kx : ∀ b o, b < wr.heap.size → vt1.ownBlock ≠ some b → b ≠ db → (w1.setCell ⟨db, 3, none⟩ (.slice (some ⟨g, 0, none⟩) (k + 1) cap)).cell? ⟨b, o, none⟩ = wr.cell? ⟨b, o, none⟩ := fun b o hb' h1 h2 => by rw [apartc (Ne.symm h2)]; exact (hgrow.cell_far ⟨b, o, none⟩ (by simp; omega) (fun e => h1 e.symm)).trans (by rw [World.cell?_drew]; exact oldc hb'))
        all_goals (have kz : ∀ o, (w1.setCell ⟨db, 3, none⟩ (.slice (some ⟨g, 0, none⟩) (k + 1) cap)).frozen? ⟨b8, o, none⟩ = false := fun o => by
                     have q := (hgrow.frozen_far ⟨b8, o, none⟩ (by simp; omega) (fun e => HTk.out.kt e.symm)).trans (((Below.refl _ wr).alloc (Nat.le_refl _) _).drew.frozen (p := ⟨b8, o, none⟩) p4)
                     simpa using q.trans (HTk.out.xf o))
        all_goals (have hBB : Below db wr (w1.setCell ⟨db, 3, none⟩ (.slice (some ⟨g, 0, none⟩) (k + 1) cap)) := Below.setCell (p := ⟨db, 3, none⟩) (((Below.refl db wr).alloc (by omega) _).drew.trans ⟨hgrow.os, hgrow.tape, hgrow.output, hgrow.size, fun i hi => hgrow.block i (by simp; omega) (far HDm.out.ot (by omega))⟩) (by simp only []; omega) _)
        all_goals (have hgn : ∀ b, b < wr.heap.size → vt1.ownBlock ≠ some b → (Value.slice (some ⟨g, 0, none⟩) (k + 1) cap).ownBlock ≠ some b := fun b hb' hn e => by
                     have e2 : g = b := by simpa [Value.ownBlock] using e
                     rcases hat with hh | hh
                     · exact hn (by rw [hh, e2])
                     · omega)
        all_goals exact ⟨_, HTk.out.be.trans hBB, HTk.out.dw, hP, vatBelow HTk.out.v hBB HTk.out.bd, HTk.out.bd, p1, p2, Nat.lt_of_lt_of_le p4 hBB.size, (kx _ _ (by omega) HTk.out.k5 (by omega)).trans HTk.out.e0, (kx _ _ (by omega) HTk.out.k5 (by omega)).trans HTk.out.e1, (kx _ _ (by omega) HTk.out.k5 (by omega)).trans HTk.out.e2, (kx _ _ (by omega) HTk.out.k5 (by omega)).trans HTk.out.e3, (kx _ _ (by omega) HTk.out.k5 (by omega)).trans HTk.out.e4, (kx _ _ (by omega) HTk.out.k5 (by omega)).trans HTk.out.e5, (kx _ _ (by omega) HTk.out.kt (by omega)).trans HTk.out.x0, (kx _ _ (by omega) HTk.out.kt (by omega)).trans HTk.out.x1, (kx _ _ (by omega) HTk.out.kt (by omega)).trans HTk.out.x2, kz, HTk.out.kb, hgn _ p4 HTk.out.kt, HTk.out.kc, hgn _ (by omega) HTk.out.k5⟩
      · go_wp2_with fail
        go_meet
        refine ⟨rfl, rfl, rfl, vt1, ?_⟩
        have hkk : k = T.length := by omega
        rw [hkk, List.take_length] at hT
        exact hT

end
end Go.Proofs.Qxb6500273a
