/-
  lay: the ways.
-/
import Derived.Test.Qxb6500273aLy0
import Derived.Test.Qxb6500273aTall
import Derived.BigQuiet
set_option linter.unusedVariables false
set_option linter.unusedSimpArgs false
namespace Go.Proofs.Qxb6500273a
open Go.RowKit

section
variable {w W : World} {db b3 b5 : Nat} {D : Dv} {vb vt vc : Value} {K A B C : Int} {S T : List UInt8}

set_option maxRecDepth 100000 in
set_option maxHeartbeats 4000000 in
theorem ly_brif_no (hon : D.on = true) (h95 : D.body.length < 95) (hb : DBnd D) (hk : (labelL D B).2 = false) (HW : LyW w W db b3 b5 D vb vt vc K 13 B C S T) : LGoal w W db b3 b5 D 13 B := by
  intro c a hc hf
  unfold LTail at hc
  simp only [Try.f10, Option.map, dropC, Option.some.injEq] at hc
  obtain ⟨s, rfl⟩ := frame10 a _ _ _ _ _ hf.d hf.n hf.h0 hf.h3 hf.h4 hf.h5 hf.h6
  clear hf
  subst hc
  unfold LPost
  have HL : Hid (layL D 13 B 0 = D) := by
    refine show layL D 13 B 0 = D from ?_
    unfold layL
    rw [if_neg (by rw [hon]; simp; omega), if_neg (by omega), if_neg (by omega), if_neg (by omega), if_pos rfl, if_pos (.inl hk)]
  have HC := label_any2 db D vb vt vc B W HW.now hb.t0 hb.t2 (Nat.le_trans hb.ctl (by omega))
  rw [hk] at HC
  have e2 := HW.e2
  have hll := label_len hb B
  generalize (labelL D B).1 = la at *
  clear hon h95 hb hk
  go_wp2_with (go_at_call 12; refine HC.mono ?_; rintro e w1 ⟨rfl, hb1⟩; have HW1 := HW.next hb1; clear hb1)
  have HA : Hid (DAt w1 db D vb vt vc) := HW1.now
  have HB : Hid (Below db w w1) := HW1.bed
  all_goals (try simp only [Exit.inBlock, Exit.then])
  all_goals refine bodyPost_ret (results_none rfl _ _ _) rfl ⟨rfl, ⟨0, vb, vt, vc, ?_⟩, HB.out⟩
  all_goals rw [HL.out]
  all_goals exact HA.out

set_option maxRecDepth 100000 in
set_option maxHeartbeats 4000000 in
theorem ly_brif_ends (hon : D.on = true) (h95 : D.body.length < 95) (hb : DBnd D) (hk : (labelL D B).2 = true) (hB0 : 0 ≤ B) (hB6 : B ≤ 6) (he : endsF D.st ((labelL D B).1 ++ [127]) = false) (HW : LyW w W db b3 b5 D vb vt vc K 13 B C S T) : LGoal w W db b3 b5 D 13 B := by
  intro c a hc hf
  unfold LTail at hc
  simp only [Try.f10, Option.map, dropC, Option.some.injEq] at hc
  obtain ⟨s, rfl⟩ := frame10 a _ _ _ _ _ hf.d hf.n hf.h0 hf.h3 hf.h4 hf.h5 hf.h6
  clear hf
  subst hc
  unfold LPost
  have HL : Hid (layL D 13 B 0 = D) := by
    refine show layL D 13 B 0 = D from ?_
    unfold layL
    rw [if_neg (by rw [hon]; simp; omega), if_neg (by omega), if_neg (by omega), if_neg (by omega), if_pos rfl, if_pos (.inr he)]
  have HC := label_any2 db D vb vt vc B W HW.now hb.t0 hb.t2 (Nat.le_trans hb.ctl (by omega))
  rw [hk] at HC
  have e2 := HW.e2
  have hll := label_len hb B
  have HE : ∀ wx, _ := fun wx => ends_any D.st ((labelL D B).1 ++ [127]) (Nat.le_trans hb.st (by omega)) (by simp; omega) wx
  rw [he] at HE
  generalize (labelL D B).1 = la at *
  have hBm : B % 4294967296 = B := by omega
  have hl1 : (la.length : Int) ≤ 1 := by omega
  clear hon h95 hb hk he
  go_upto_region 51 with (go_at_call 12; refine HC.mono ?_; rintro e w1 ⟨rfl, hb1⟩; have HW1 := HW.next hb1; clear hb1)
  have h1 := HW1.o1
  have h2 := HW1.o2
  have h5 := HW1.o4
  have hdw := HW1.at_.lt
  have n7 : ¬ db = b5 := by omega
  have n8 : ¬ b5 = db := by omega
  have n9 : ¬ b3 = b5 := by omega
  have x0 := HW1.x0
  have x1 := HW1.x1
  have x2 := HW1.x2
  have xf := HW1.xf
  have e2 := HW1.e2
  have e1 := HW1.e1
  have d4 := HW1.now.c4
  have hB5 : Below w.heap.size w (w1.setCell ⟨b5, 1, none⟩ (.int .u32 B)) := HW1.be.setCell (p := ⟨b5, 1, none⟩) (by simp only []; omega) _
  have HA : Hid (DAt (w1.setCell ⟨b5, 1, none⟩ (.int .u32 B)) db D vb vt vc) := HW1.at_.below hB5
  have HB : Hid (Below db w (w1.setCell ⟨b5, 1, none⟩ (.int .u32 B))) := hB5.mono (by omega)
  clear HW HW1 HC hB5
  go_wp2_with (go_at_call 25; refine (HE _).mono ?_; rintro e w6 ⟨rfl, h51⟩; have h52 := h51.symm; clear h51; subst h52)
  all_goals (try simp only [Exit.inBlock, Exit.then])
  all_goals refine bodyPost_ret (results_none rfl _ _ _) rfl ⟨rfl, ⟨0, vb, vt, vc, ?_⟩, HB.out⟩
  all_goals rw [HL.out]
  all_goals exact HA.out

set_option maxRecDepth 100000 in
set_option maxHeartbeats 4000000 in
theorem ly_brif_ok (hon : D.on = true) (h95 : D.body.length < 95) (hb : DBnd D) (hk : (labelL D B).2 = true) (hB0 : 0 ≤ B) (hB6 : B ≤ 6) (he : endsF D.st ((labelL D B).1 ++ [127]) = true) (st : List UInt8) (hst : D.st = st ++ [127]) (HW : LyW w W db b3 b5 D vb vt vc K 13 B C S T) : LGoal w W db b3 b5 D 13 B := by
  intro c a hc hf
  unfold LTail at hc
  simp only [Try.f10, Option.map, dropC, Option.some.injEq] at hc
  obtain ⟨s, rfl⟩ := frame10 a _ _ _ _ _ hf.d hf.n hf.h0 hf.h3 hf.h4 hf.h5 hf.h6
  clear hf
  subst hc
  unfold LPost
  have HL : Hid (layL D 13 B 0 = { D with body := D.body ++ [⟨13, B, 0⟩], st := st }) := by
    refine show layL D 13 B 0 = _ from ?_
    unfold layL
    rw [if_neg (by rw [hon]; simp; omega), if_neg (by omega), if_neg (by omega), if_neg (by omega), if_pos rfl, if_neg (by rw [hk, he]; simp), show D.st.take (D.st.length - 1) = st by rw [hst]; simp]
  have HC := label_any2 db D vb vt vc B W HW.now hb.t0 hb.t2 (Nat.le_trans hb.ctl (by omega))
  rw [hk] at HC
  have e2 := HW.e2
  have hll := label_len hb B
  have HE : ∀ wx, _ := fun wx => ends_any D.st ((labelL D B).1 ++ [127]) (Nat.le_trans hb.st (by omega)) (by simp; omega) wx
  rw [he, hst] at HE
  have hsl : (st.length : Int) ≤ 10 := by have := hb.st; rw [hst] at this; simp at this; omega
  have hx : (ByteArray.mk (st ++ [127]).toArray).extract 0 st.length = ByteArray.mk st.toArray := by rw [ext_list]; simp
  generalize (labelL D B).1 = la at *
  have hBm : B % 4294967296 = B := by omega
  have hl1 : (la.length : Int) ≤ 1 := by omega
  clear hon hb hk he
  go_upto_region 51 with (go_at_call 12; refine HC.mono ?_; rintro e w1 ⟨rfl, hb1⟩; have HW1 := HW.next hb1; clear hb1)
  have h1 := HW1.o1
  have h2 := HW1.o2
  have h5 := HW1.o4
  have hdw := HW1.at_.lt
  have n7 : ¬ db = b5 := by omega
  have n8 : ¬ b5 = db := by omega
  have n9 : ¬ b3 = b5 := by omega
  have x0 := HW1.x0
  have x1 := HW1.x1
  have x2 := HW1.x2
  have xf := HW1.xf
  have e2 := HW1.e2
  have e1 := HW1.e1
  have d4 := HW1.now.c4
  rw [hst] at d4
  have fz4 := HW1.now.fz 4
  have hB5 : Below w.heap.size w (w1.setCell ⟨b5, 1, none⟩ (.int .u32 B)) := HW1.be.setCell (p := ⟨b5, 1, none⟩) (by simp only []; omega) _
  have HA : Hid (DAt (w1.setCell ⟨b5, 1, none⟩ (.int .u32 B)) db D vb vt vc) := HW1.at_.below hB5
  have HB : Hid (Below db w (w1.setCell ⟨b5, 1, none⟩ (.int .u32 B))) := hB5.mono (by omega)
  have y0 : Hid ((w1.setCell ⟨b5, 1, none⟩ (.int .u32 B)).cell? ⟨b5, 0, none⟩ = some (.int .u8 13)) := by refine show _ = _ from ?_; simp [go_sem, x0]
  have y1 : Hid ((w1.setCell ⟨b5, 1, none⟩ (.int .u32 B)).cell? ⟨b5, 1, none⟩ = some (.int .u32 B)) := by refine show _ = _ from ?_; simp [go_sem, x1]
  have y2 : Hid ((w1.setCell ⟨b5, 1, none⟩ (.int .u32 B)).cell? ⟨b5, 2, none⟩ = some (.int .u64 0)) := by refine show _ = _ from ?_; simp [go_sem, x2]
  clear HW HW1 HC hB5
  go_upto_region 57 with (go_at_call 25; refine (HE _).mono ?_; rintro e w6 ⟨rfl, h51⟩; have h52 := h51.symm; clear h51; subst h52)
  go_region
  go_upto_region 74 with fail
  refine lay_end db b5 w D _ 13 B 0 13 B 0 vb vt vc _ _ rfl _ rfl rfl rfl rfl (HA.out.drew.setSt st) ?_ ?_ ?_ ?_ ?_ ?_
  · exact HB.out.drew.setCell (p := ⟨db, 4, none⟩) (by simp only []; omega) _
  · rw [World.cell?_drew, apartc (by omega)]; exact y0.out
  · rw [World.cell?_drew, apartc (by omega)]; exact y1.out
  · rw [World.cell?_drew, apartc (by omega)]; exact y2.out
  · simp only []; omega
  · rw [HL.out]

end
end Go.Proofs.Qxb6500273a
