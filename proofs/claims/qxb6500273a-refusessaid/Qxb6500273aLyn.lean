/-
  lay: the ways.
-/
import Derived.Test.Qxb6500273aLy0
import Derived.BigQuiet
set_option linter.unusedVariables false
set_option linter.unusedSimpArgs false
namespace Go.Proofs.Qxb6500273a
open Go.RowKit

section
variable {w W : World} {db b3 b5 : Nat} {D : Dv} {vb vt vc : Value} {K A B C : Int} {S T : List UInt8}

set_option maxRecDepth 100000 in
set_option maxHeartbeats 4000000 in
theorem ly_blk2n_nest (hon : D.on = true) (h95 : D.body.length < 95) (hb : DBnd D) (hbl : D.below ≤ 10) (st : List UInt8) (hst : D.st = st) (hn : D.ctl.length = 6)  (HW : LyW w W db b3 b5 D vb vt vc K 2 64 C S T) : LGoal w W db b3 b5 D 2 64 := by
  intro c a hc hf
  unfold LTail at hc
  simp only [Try.f10, Option.map, dropC, Option.some.injEq] at hc
  obtain ⟨s, rfl⟩ := frame10 a _ _ _ _ _ hf.d hf.n hf.h0 hf.h3 hf.h4 hf.h5 hf.h6
  clear hf
  subst hc
  unfold LPost
  have hres : (if (64 : Int) = 64 then [] else strF 64) = [] := if_pos rfl
  have htk : (if (2 : Int) = 4 then D.st.take (D.st.length - 1) else D.st) = st := by
    rw [if_neg (by omega)]; exact hst
  have hsl : st.length ≤ 10 := by have := hb.st; rw [hst] at this; exact this
  have HL : Hid (layL D 2 64 0 = D) := by
    refine show layL D 2 64 0 = D from ?_
    unfold layL
    rw [if_neg (by rw [hon]; simp; omega), if_pos (by omega), if_neg (by simp), if_neg (by omega), if_pos (by omega)]
  have e2 := HW.e2
  have hpd : db < W.heap.size := HW.now.lt
  obtain ⟨ca, cc, hvc⟩ := HW.now.ctlV
  have d4 : W.cell? ⟨db, 4, none⟩ = some (.string ⟨D.st.toArray⟩) := HW.now.c4
  have d5 : W.cell? ⟨db, 5, none⟩ = some (.slice ca D.ctl.length cc) := hvc ▸ HW.now.c5
  have d6 : W.cell? ⟨db, 6, none⟩ = some (.int .i64 D.below) := HW.now.c6
  rw [hst] at d4
  rw [hn] at d5
  have hsi : (st.length : Int) ≤ 10 := by omega
  have hbi : (D.below : Int) ≤ 10 := by omega
  have HA : Hid (DAt W db D vb vt vc) := HW.now
  have HB : Hid (Below db w W) := HW.bed
  clear HW hon h95 hb hbl hst htk hsl hvc hres hn 
  go_wp2_with fail
  all_goals (try simp only [Exit.inBlock, Exit.then])
  all_goals refine bodyPost_ret (results_none rfl _ _ _) rfl ⟨rfl, ⟨0, vb, vt, vc, ?_⟩, HB.out⟩
  all_goals rw [HL.out]
  all_goals exact HA.out

set_option maxRecDepth 100000 in
set_option maxHeartbeats 4000000 in
theorem ly_blk2v_nest (hon : D.on = true) (h95 : D.body.length < 95) (hb : DBnd D) (hbl : D.below ≤ 10) (hv : isValF B = true) (st : List UInt8) (hst : D.st = st) (hn : D.ctl.length = 6)  (HW : LyW w W db b3 b5 D vb vt vc K 2 B C S T) : LGoal w W db b3 b5 D 2 B := by
  intro c a hc hf
  unfold LTail at hc
  simp only [Try.f10, Option.map, dropC, Option.some.injEq] at hc
  obtain ⟨s, rfl⟩ := frame10 a _ _ _ _ _ hf.d hf.n hf.h0 hf.h3 hf.h4 hf.h5 hf.h6
  clear hf
  subst hc
  unfold LPost
  have hB4 : B = 127 ∨ B = 126 ∨ B = 125 ∨ B = 124 := isVal_cases hv
  have hB64 : B ≠ 64 := by omega
  have hres : (if (B : Int) = 64 then [] else strF B) = strF B := if_neg hB64
  have htk : (if (2 : Int) = 4 then D.st.take (D.st.length - 1) else D.st) = st := by
    rw [if_neg (by omega)]; exact hst
  have hsl : st.length ≤ 10 := by have := hb.st; rw [hst] at this; exact this
  have HL : Hid (layL D 2 B 0 = D) := by
    refine show layL D 2 B 0 = D from ?_
    unfold layL
    rw [if_neg (by rw [hon]; simp; omega), if_pos (by omega), if_neg (by rw [hv]; simp), if_neg (by omega), if_pos (by omega)]
  have e2 := HW.e2
  have hpd : db < W.heap.size := HW.now.lt
  obtain ⟨ca, cc, hvc⟩ := HW.now.ctlV
  have d4 : ∀ o, (W.alloc o).cell? ⟨db, 4, none⟩ = some (.string ⟨D.st.toArray⟩) := fun o => (HW.now.alloc o).c4
  have d5 : ∀ o, (W.alloc o).cell? ⟨db, 5, none⟩ = some (.slice ca D.ctl.length cc) := fun o => hvc ▸ (HW.now.alloc o).c5
  have d6 : ∀ o, (W.alloc o).cell? ⟨db, 6, none⟩ = some (.int .i64 D.below) := fun o => (HW.now.alloc o).c6
  rw [hst] at d4
  rw [hn] at d5
  have g1 : (B != 64) = true := by rw [bne_iff_ne]; exact hB64
  have g2 : decide (B < 0) = false := decide_eq_false (by omega)
  have g3 : decide (255 < B) = false := decide_eq_false (by omega)
  have hm : B % 256 = B := by omega
  have hm2 : B % 4294967296 = B := by omega
  have HV : ∀ wx, _ := fun wx => isVal_any B wx
  rw [hv] at HV
  have HT : ∀ wx, _ := fun wx => str_any B (by omega) (by omega) wx
  have hsl1 : (strF B).length = 1 := rfl
  have hsi : (st.length : Int) ≤ 10 := by omega
  have hbi : (D.below : Int) ≤ 10 := by omega
  have HA : Hid (∀ o, DAt (W.alloc o) db D vb vt vc) := fun o => HW.now.alloc o
  have HB : Hid (∀ o, Below db w (W.alloc o)) := fun o => HW.bed.alloc (Nat.le_trans (Nat.le_of_lt HW.at_.lt) HW.bed.size) o
  clear HW hon h95 hb hbl hst htk hsl hB4 hB64 hv hvc hres hn 
  go_wp2_with (first | (go_at_call 24; refine (HV _).mono ?_; rintro e w5 ⟨rfl, h51⟩; have h52 := h51.symm; clear h51; subst h52) | (go_at_call 22; refine (HT _).mono ?_; rintro e w4 ⟨rfl, rfl⟩))
  all_goals (try simp only [Exit.inBlock, Exit.then])
  all_goals refine bodyPost_ret (results_none rfl _ _ _) rfl ⟨rfl, ⟨0, vb, vt, vc, ?_⟩, HB.out _⟩
  all_goals rw [HL.out]
  all_goals exact HA.out _

set_option maxRecDepth 100000 in
set_option maxHeartbeats 4000000 in
theorem ly_blk3n_nest (hon : D.on = true) (h95 : D.body.length < 95) (hb : DBnd D) (hbl : D.below ≤ 10) (st : List UInt8) (hst : D.st = st) (hn : D.ctl.length = 6)  (HW : LyW w W db b3 b5 D vb vt vc K 3 64 C S T) : LGoal w W db b3 b5 D 3 64 := by
  intro c a hc hf
  unfold LTail at hc
  simp only [Try.f10, Option.map, dropC, Option.some.injEq] at hc
  obtain ⟨s, rfl⟩ := frame10 a _ _ _ _ _ hf.d hf.n hf.h0 hf.h3 hf.h4 hf.h5 hf.h6
  clear hf
  subst hc
  unfold LPost
  have hres : (if (64 : Int) = 64 then [] else strF 64) = [] := if_pos rfl
  have htk : (if (3 : Int) = 4 then D.st.take (D.st.length - 1) else D.st) = st := by
    rw [if_neg (by omega)]; exact hst
  have hsl : st.length ≤ 10 := by have := hb.st; rw [hst] at this; exact this
  have HL : Hid (layL D 3 64 0 = D) := by
    refine show layL D 3 64 0 = D from ?_
    unfold layL
    rw [if_neg (by rw [hon]; simp; omega), if_pos (by omega), if_neg (by simp), if_neg (by omega), if_pos (by omega)]
  have e2 := HW.e2
  have hpd : db < W.heap.size := HW.now.lt
  obtain ⟨ca, cc, hvc⟩ := HW.now.ctlV
  have d4 : W.cell? ⟨db, 4, none⟩ = some (.string ⟨D.st.toArray⟩) := HW.now.c4
  have d5 : W.cell? ⟨db, 5, none⟩ = some (.slice ca D.ctl.length cc) := hvc ▸ HW.now.c5
  have d6 : W.cell? ⟨db, 6, none⟩ = some (.int .i64 D.below) := HW.now.c6
  rw [hst] at d4
  rw [hn] at d5
  have hsi : (st.length : Int) ≤ 10 := by omega
  have hbi : (D.below : Int) ≤ 10 := by omega
  have HA : Hid (DAt W db D vb vt vc) := HW.now
  have HB : Hid (Below db w W) := HW.bed
  clear HW hon h95 hb hbl hst htk hsl hvc hres hn 
  go_wp2_with fail
  all_goals (try simp only [Exit.inBlock, Exit.then])
  all_goals refine bodyPost_ret (results_none rfl _ _ _) rfl ⟨rfl, ⟨0, vb, vt, vc, ?_⟩, HB.out⟩
  all_goals rw [HL.out]
  all_goals exact HA.out

set_option maxRecDepth 100000 in
set_option maxHeartbeats 4000000 in
theorem ly_blk3v_nest (hon : D.on = true) (h95 : D.body.length < 95) (hb : DBnd D) (hbl : D.below ≤ 10) (hv : isValF B = true) (st : List UInt8) (hst : D.st = st) (hn : D.ctl.length = 6)  (HW : LyW w W db b3 b5 D vb vt vc K 3 B C S T) : LGoal w W db b3 b5 D 3 B := by
  intro c a hc hf
  unfold LTail at hc
  simp only [Try.f10, Option.map, dropC, Option.some.injEq] at hc
  obtain ⟨s, rfl⟩ := frame10 a _ _ _ _ _ hf.d hf.n hf.h0 hf.h3 hf.h4 hf.h5 hf.h6
  clear hf
  subst hc
  unfold LPost
  have hB4 : B = 127 ∨ B = 126 ∨ B = 125 ∨ B = 124 := isVal_cases hv
  have hB64 : B ≠ 64 := by omega
  have hres : (if (B : Int) = 64 then [] else strF B) = strF B := if_neg hB64
  have htk : (if (3 : Int) = 4 then D.st.take (D.st.length - 1) else D.st) = st := by
    rw [if_neg (by omega)]; exact hst
  have hsl : st.length ≤ 10 := by have := hb.st; rw [hst] at this; exact this
  have HL : Hid (layL D 3 B 0 = D) := by
    refine show layL D 3 B 0 = D from ?_
    unfold layL
    rw [if_neg (by rw [hon]; simp; omega), if_pos (by omega), if_neg (by rw [hv]; simp), if_neg (by omega), if_pos (by omega)]
  have e2 := HW.e2
  have hpd : db < W.heap.size := HW.now.lt
  obtain ⟨ca, cc, hvc⟩ := HW.now.ctlV
  have d4 : ∀ o, (W.alloc o).cell? ⟨db, 4, none⟩ = some (.string ⟨D.st.toArray⟩) := fun o => (HW.now.alloc o).c4
  have d5 : ∀ o, (W.alloc o).cell? ⟨db, 5, none⟩ = some (.slice ca D.ctl.length cc) := fun o => hvc ▸ (HW.now.alloc o).c5
  have d6 : ∀ o, (W.alloc o).cell? ⟨db, 6, none⟩ = some (.int .i64 D.below) := fun o => (HW.now.alloc o).c6
  rw [hst] at d4
  rw [hn] at d5
  have g1 : (B != 64) = true := by rw [bne_iff_ne]; exact hB64
  have g2 : decide (B < 0) = false := decide_eq_false (by omega)
  have g3 : decide (255 < B) = false := decide_eq_false (by omega)
  have hm : B % 256 = B := by omega
  have hm2 : B % 4294967296 = B := by omega
  have HV : ∀ wx, _ := fun wx => isVal_any B wx
  rw [hv] at HV
  have HT : ∀ wx, _ := fun wx => str_any B (by omega) (by omega) wx
  have hsl1 : (strF B).length = 1 := rfl
  have hsi : (st.length : Int) ≤ 10 := by omega
  have hbi : (D.below : Int) ≤ 10 := by omega
  have HA : Hid (∀ o, DAt (W.alloc o) db D vb vt vc) := fun o => HW.now.alloc o
  have HB : Hid (∀ o, Below db w (W.alloc o)) := fun o => HW.bed.alloc (Nat.le_trans (Nat.le_of_lt HW.at_.lt) HW.bed.size) o
  clear HW hon h95 hb hbl hst htk hsl hB4 hB64 hv hvc hres hn 
  go_wp2_with (first | (go_at_call 24; refine (HV _).mono ?_; rintro e w5 ⟨rfl, h51⟩; have h52 := h51.symm; clear h51; subst h52) | (go_at_call 22; refine (HT _).mono ?_; rintro e w4 ⟨rfl, rfl⟩))
  all_goals (try simp only [Exit.inBlock, Exit.then])
  all_goals refine bodyPost_ret (results_none rfl _ _ _) rfl ⟨rfl, ⟨0, vb, vt, vc, ?_⟩, HB.out _⟩
  all_goals rw [HL.out]
  all_goals exact HA.out _

set_option maxRecDepth 100000 in
set_option maxHeartbeats 4000000 in
theorem ly_blk4n_nest (hon : D.on = true) (h95 : D.body.length < 95) (hb : DBnd D) (hbl : D.below ≤ 10) (st : List UInt8) (hst : D.st = st ++ [127]) (hn : D.ctl.length = 6)  (HW : LyW w W db b3 b5 D vb vt vc K 4 64 C S T) : LGoal w W db b3 b5 D 4 64 := by
  intro c a hc hf
  unfold LTail at hc
  simp only [Try.f10, Option.map, dropC, Option.some.injEq] at hc
  obtain ⟨s, rfl⟩ := frame10 a _ _ _ _ _ hf.d hf.n hf.h0 hf.h3 hf.h4 hf.h5 hf.h6
  clear hf
  subst hc
  unfold LPost
  have hres : (if (64 : Int) = 64 then [] else strF 64) = [] := if_pos rfl
  have htk : (if (4 : Int) = 4 then D.st.take (D.st.length - 1) else D.st) = st := by
    rw [if_pos rfl, hst]; simp
  have hsl : st.length ≤ 10 := by have := hb.st; rw [hst] at this; simp at this; omega
  have hend : endsF D.st [127] = true := by rw [endsF_iff, hst]; exact List.suffix_append _ _
  have HL : Hid (layL D 4 64 0 = D) := by
    refine show layL D 4 64 0 = D from ?_
    unfold layL
    rw [if_neg (by rw [hon]; simp; omega), if_pos (by omega), if_neg (by simp), if_neg (by rw [hend]; simp), if_pos (by omega)]
  have e2 := HW.e2
  have hpd : db < W.heap.size := HW.now.lt
  obtain ⟨ca, cc, hvc⟩ := HW.now.ctlV
  have d4 : W.cell? ⟨db, 4, none⟩ = some (.string ⟨D.st.toArray⟩) := HW.now.c4
  have d5 : W.cell? ⟨db, 5, none⟩ = some (.slice ca D.ctl.length cc) := hvc ▸ HW.now.c5
  have d6 : W.cell? ⟨db, 6, none⟩ = some (.int .i64 D.below) := HW.now.c6
  rw [hst] at d4
  rw [hn] at d5
  have HE : ∀ wx, _ := fun wx => ends_any D.st [127] (Nat.le_trans hb.st (by omega)) (by simp) wx
  rw [hend, hst] at HE
  have hx : (ByteArray.mk (st ++ [127]).toArray).extract 0 st.length = ByteArray.mk st.toArray := by rw [ext_list]; simp
  have hsi : (st.length : Int) ≤ 10 := by omega
  have hbi : (D.below : Int) ≤ 10 := by omega
  have HA : Hid (DAt W db D vb vt vc) := HW.now
  have HB : Hid (Below db w W) := HW.bed
  clear HW hon h95 hb hbl hst htk hsl hvc hres hn hend 
  go_wp2_with (first | (go_at_call 25; refine (HE _).mono ?_; rintro e w6 ⟨rfl, h51⟩; have h52 := h51.symm; clear h51; subst h52))
  all_goals (try simp only [Exit.inBlock, Exit.then])
  all_goals refine bodyPost_ret (results_none rfl _ _ _) rfl ⟨rfl, ⟨0, vb, vt, vc, ?_⟩, HB.out⟩
  all_goals rw [HL.out]
  all_goals exact HA.out

set_option maxRecDepth 100000 in
set_option maxHeartbeats 4000000 in
theorem ly_blk4v_nest (hon : D.on = true) (h95 : D.body.length < 95) (hb : DBnd D) (hbl : D.below ≤ 10) (hv : isValF B = true) (st : List UInt8) (hst : D.st = st ++ [127]) (hn : D.ctl.length = 6)  (HW : LyW w W db b3 b5 D vb vt vc K 4 B C S T) : LGoal w W db b3 b5 D 4 B := by
  intro c a hc hf
  unfold LTail at hc
  simp only [Try.f10, Option.map, dropC, Option.some.injEq] at hc
  obtain ⟨s, rfl⟩ := frame10 a _ _ _ _ _ hf.d hf.n hf.h0 hf.h3 hf.h4 hf.h5 hf.h6
  clear hf
  subst hc
  unfold LPost
  have hB4 : B = 127 ∨ B = 126 ∨ B = 125 ∨ B = 124 := isVal_cases hv
  have hB64 : B ≠ 64 := by omega
  have hres : (if (B : Int) = 64 then [] else strF B) = strF B := if_neg hB64
  have htk : (if (4 : Int) = 4 then D.st.take (D.st.length - 1) else D.st) = st := by
    rw [if_pos rfl, hst]; simp
  have hsl : st.length ≤ 10 := by have := hb.st; rw [hst] at this; simp at this; omega
  have hend : endsF D.st [127] = true := by rw [endsF_iff, hst]; exact List.suffix_append _ _
  have HL : Hid (layL D 4 B 0 = D) := by
    refine show layL D 4 B 0 = D from ?_
    unfold layL
    rw [if_neg (by rw [hon]; simp; omega), if_pos (by omega), if_neg (by rw [hv]; simp), if_neg (by rw [hend]; simp), if_pos (by omega)]
  have e2 := HW.e2
  have hpd : db < W.heap.size := HW.now.lt
  obtain ⟨ca, cc, hvc⟩ := HW.now.ctlV
  have d4 : ∀ o, (W.alloc o).cell? ⟨db, 4, none⟩ = some (.string ⟨D.st.toArray⟩) := fun o => (HW.now.alloc o).c4
  have d5 : ∀ o, (W.alloc o).cell? ⟨db, 5, none⟩ = some (.slice ca D.ctl.length cc) := fun o => hvc ▸ (HW.now.alloc o).c5
  have d6 : ∀ o, (W.alloc o).cell? ⟨db, 6, none⟩ = some (.int .i64 D.below) := fun o => (HW.now.alloc o).c6
  rw [hst] at d4
  rw [hn] at d5
  have g1 : (B != 64) = true := by rw [bne_iff_ne]; exact hB64
  have g2 : decide (B < 0) = false := decide_eq_false (by omega)
  have g3 : decide (255 < B) = false := decide_eq_false (by omega)
  have hm : B % 256 = B := by omega
  have hm2 : B % 4294967296 = B := by omega
  have HV : ∀ wx, _ := fun wx => isVal_any B wx
  rw [hv] at HV
  have HT : ∀ wx, _ := fun wx => str_any B (by omega) (by omega) wx
  have hsl1 : (strF B).length = 1 := rfl
  have HE : ∀ wx, _ := fun wx => ends_any D.st [127] (Nat.le_trans hb.st (by omega)) (by simp) wx
  rw [hend, hst] at HE
  have hx : (ByteArray.mk (st ++ [127]).toArray).extract 0 st.length = ByteArray.mk st.toArray := by rw [ext_list]; simp
  have hsi : (st.length : Int) ≤ 10 := by omega
  have hbi : (D.below : Int) ≤ 10 := by omega
  have HA : Hid (∀ o, DAt (W.alloc o) db D vb vt vc) := fun o => HW.now.alloc o
  have HB : Hid (∀ o, Below db w (W.alloc o)) := fun o => HW.bed.alloc (Nat.le_trans (Nat.le_of_lt HW.at_.lt) HW.bed.size) o
  clear HW hon h95 hb hbl hst htk hsl hB4 hB64 hv hvc hres hn hend 
  go_wp2_with (first | (go_at_call 24; refine (HV _).mono ?_; rintro e w5 ⟨rfl, h51⟩; have h52 := h51.symm; clear h51; subst h52) | (go_at_call 22; refine (HT _).mono ?_; rintro e w4 ⟨rfl, rfl⟩) | (go_at_call 25; refine (HE _).mono ?_; rintro e w6 ⟨rfl, h51⟩; have h52 := h51.symm; clear h51; subst h52))
  all_goals (try simp only [Exit.inBlock, Exit.then])
  all_goals refine bodyPost_ret (results_none rfl _ _ _) rfl ⟨rfl, ⟨0, vb, vt, vc, ?_⟩, HB.out _⟩
  all_goals rw [HL.out]
  all_goals exact HA.out _

end
end Go.Proofs.Qxb6500273a
