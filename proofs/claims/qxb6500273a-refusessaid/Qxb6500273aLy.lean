/-
  lay: all its ways.
-/
import Derived.Test.Qxb6500273aLy1
import Derived.Test.Qxb6500273aLy2
import Derived.Test.Qxb6500273aLy3
import Derived.Test.Qxb6500273aLyb
import Derived.Test.Qxb6500273aLyn
import Derived.Test.Qxb6500273aLyh
import Derived.Test.Qxb6500273aLye
import Derived.Test.Qxb6500273aLyo2n
import Derived.Test.Qxb6500273aLyo2v
import Derived.Test.Qxb6500273aLyo3n
import Derived.Test.Qxb6500273aLyo3v
import Derived.Test.Qxb6500273aLyo4n
import Derived.Test.Qxb6500273aLyo4v
import Derived.Test.Qxb6500273aLyl
import Derived.Test.Qxb6500273aLyle
import Derived.Test.Qxb6500273aLyd
import Derived.Test.Qxb6500273aLydk
import Derived.Test.Qxb6500273aLydk2
import Derived.Test.Qxb6500273aLyr
import Derived.Test.Qxb6500273aLyp
import Derived.Test.Qxb6500273aLyph
import Derived.Test.Qxb6500273aLypk
set_option linter.unusedVariables false
namespace Go.Proofs.Qxb6500273a
open Go.RowKit

theorem label_B {D : Dv} {B : Int} (h : (labelL D B).2 = true) : 0 ≤ B ∧ B ≤ D.ctl.length := by
  unfold labelL at h
  split at h
  · simp at h
  · omega

theorem lastB_mem {D : Dv} (h : D.ctl.length ≠ 0) : lastB D ∈ D.ctl := by
  unfold lastB
  have : D.ctl.length - 1 < D.ctl.length := by omega
  simp [List.getD, this]

theorem ly_ways {w W : World} {db b3 b5 : Nat} {D : Dv} {vb vt vc : Value} {K A B C : Int} {S T : List UInt8} (hon : D.on = true) (h95 : D.body.length < 95) (hb : DBnd D) (hbl : D.below ≤ 10)
    (hou : D.ctl.length ≠ 0 → (lastB D).outer.length ≤ D.below) (hA : 0 ≤ A) (hA2 : A ≤ 255) (hf : A ≠ 0 ∧ A ≠ 12 ∧ A ≠ 14 ∧ A ≠ 15) (HW : LyW w W db b3 b5 D vb vt vc K A B C S T) : LGoal w W db b3 b5 D A B := by
  have hc6 := hb.ctl
  by_cases a1 : A = 2 ∨ A = 3 ∨ A = 4
  · by_cases hbad : B ≠ 64 ∧ isValF B = false
    · by_cases h0 : B < 0
      · rcases a1 with rfl | rfl | rfl
        · exact ly_bad2a hon h95 hbad.1 h0 HW
        · exact ly_bad3a hon h95 hbad.1 h0 HW
        · exact ly_bad4a hon h95 hbad.1 h0 HW
      by_cases h1 : 255 < B
      · rcases a1 with rfl | rfl | rfl
        · exact ly_bad2b hon h95 hbad.1 (by omega) h1 HW
        · exact ly_bad3b hon h95 hbad.1 (by omega) h1 HW
        · exact ly_bad4b hon h95 hbad.1 (by omega) h1 HW
      · rcases a1 with rfl | rfl | rfl
        · exact ly_bad2c hon h95 hbad.1 (by omega) (by omega) hbad.2 HW
        · exact ly_bad3c hon h95 hbad.1 (by omega) (by omega) hbad.2 HW
        · exact ly_bad4c hon h95 hbad.1 (by omega) (by omega) hbad.2 HW
    by_cases hB : B = 64
    · subst hB
      rcases a1 with rfl | rfl | rfl
      · by_cases hn : 6 ≤ D.ctl.length
        · exact ly_blk2n_nest hon h95 hb hbl D.st rfl (by omega) HW
        by_cases hh : 10 < D.below + D.st.length + 0
        · exact ly_blk2n_high hon h95 hb hbl D.st rfl (by omega) hh HW
        · exact ly_blk2n_ok hon h95 hb hbl D.st rfl (by omega) hh HW
      · by_cases hn : 6 ≤ D.ctl.length
        · exact ly_blk3n_nest hon h95 hb hbl D.st rfl (by omega) HW
        by_cases hh : 10 < D.below + D.st.length + 0
        · exact ly_blk3n_high hon h95 hb hbl D.st rfl (by omega) hh HW
        · exact ly_blk3n_ok hon h95 hb hbl D.st rfl (by omega) hh HW
      · cases he : endsF D.st [127]
        · exact ly_blk4n_ends hon h95 hb hbl he HW
        · rw [endsF_iff] at he
          obtain ⟨st, hst⟩ := he
          by_cases hn : 6 ≤ D.ctl.length
          · exact ly_blk4n_nest hon h95 hb hbl st hst.symm (by omega) HW
          by_cases hh : 10 < D.below + st.length + 0
          · exact ly_blk4n_high hon h95 hb hbl st hst.symm (by omega) hh HW
          · exact ly_blk4n_ok hon h95 hb hbl st hst.symm (by omega) hh HW
    · have hv : isValF B = true := by
        cases h : isValF B
        · exact absurd ⟨hB, h⟩ hbad
        · rfl
      rcases a1 with rfl | rfl | rfl
      · by_cases hn : 6 ≤ D.ctl.length
        · exact ly_blk2v_nest hon h95 hb hbl hv D.st rfl (by omega) HW
        by_cases hh : 10 < D.below + D.st.length + 1
        · exact ly_blk2v_high hon h95 hb hbl hv D.st rfl (by omega) hh HW
        · exact ly_blk2v_ok hon h95 hb hbl hv D.st rfl (by omega) hh HW
      · by_cases hn : 6 ≤ D.ctl.length
        · exact ly_blk3v_nest hon h95 hb hbl hv D.st rfl (by omega) HW
        by_cases hh : 10 < D.below + D.st.length + 1
        · exact ly_blk3v_high hon h95 hb hbl hv D.st rfl (by omega) hh HW
        · exact ly_blk3v_ok hon h95 hb hbl hv D.st rfl (by omega) hh HW
      · cases he : endsF D.st [127]
        · exact ly_blk4v_ends hon h95 hb hbl hv he HW
        · rw [endsF_iff] at he
          obtain ⟨st, hst⟩ := he
          by_cases hn : 6 ≤ D.ctl.length
          · exact ly_blk4v_nest hon h95 hb hbl hv st hst.symm (by omega) HW
          by_cases hh : 10 < D.below + st.length + 1
          · exact ly_blk4v_high hon h95 hb hbl hv st hst.symm (by omega) hh HW
          · exact ly_blk4v_ok hon h95 hb hbl hv st hst.symm (by omega) hh HW
  by_cases a2 : A = 5
  · subst a2
    by_cases h0 : D.ctl.length = 0
    · exact ly_else_none hon h95 h0 HW
    by_cases h4 : (lastB D).op = 4
    · by_cases hs : D.st = (lastB D).res
      · exact ly_else_ok hon h95 hc6 h0 h4 hs HW
      · exact ly_else_st hon h95 hc6 h0 h4 hs HW
    · exact ly_else_op hon h95 hc6 h0 h4 HW
  by_cases a3 : A = 11
  · subst a3
    by_cases h0 : D.ctl.length = 0
    · exact ly_end_none hon h95 h0 HW
    by_cases hs : D.st = (lastB D).res
    · have hr1 := hb.res _ (lastB_mem h0)
      by_cases h4 : (lastB D).op = 4
      · by_cases hr : (lastB D).res = []
        · exact ly_end_ok2 hon h95 hc6 h0 hs (hou h0) hbl (by omega) h4 hr HW
        · exact ly_end_lame hon h95 hc6 h0 hs h4 hr HW
      · exact ly_end_ok1 hon h95 hc6 h0 hs (hou h0) hbl (by omega) h4 HW
    · exact ly_end_st hon h95 hc6 h0 hs HW
  by_cases a4 : A = 13
  · subst a4
    cases hk : (labelL D B).2
    · exact ly_brif_no hon h95 hb hk HW
    · have hB := label_B hk
      cases he : endsF D.st ((labelL D B).1 ++ [127])
      · exact ly_brif_ends hon h95 hb hk hB.1 (by omega) he HW
      · have he2 := he
        rw [endsF_iff] at he2
        obtain ⟨p, hp⟩ := he2
        exact ly_brif_ok hon h95 hb hk hB.1 (by omega) he (p ++ (labelL D B).1) (by rw [← hp]; simp) HW
  have hn : A ≠ 2 ∧ A ≠ 3 ∧ A ≠ 4 ∧ A ≠ 5 ∧ A ≠ 11 ∧ A ≠ 0 ∧ A ≠ 15 ∧ A ≠ 12 ∧ A ≠ 13 ∧ A ≠ 14 := by omega
  cases hk : (plainL D.t D.st A B).2.2.2
  · exact ly_pl_no hon h95 hb hbl hA hA2 hn hk HW
  cases he : endsF D.st (plainL D.t D.st A B).1
  · exact ly_pl_ends hon h95 hb hbl hA hA2 hn hk he HW
  · rw [endsF_iff] at he
    obtain ⟨sp, hsp⟩ := he
    by_cases hh : (10 : Int) < (D.below : Int) + D.st.length - (plainL D.t D.st A B).1.length + (plainL D.t D.st A B).2.1.length
    · exact ly_pl_high hon h95 hb hbl hA hA2 hn hk sp hsp.symm hh HW
    · exact ly_pl_ok hon h95 hb hbl hA hA2 hn hk sp hsp.symm hh HW

theorem lay_any (db : Nat) (D : Dv) (vb vt vc : Value) (K A B C : Int) (S T : List UInt8) (w : World) (hD : DAt w db D vb vt vc) (hb : DBnd D) (hbl : D.below ≤ 10) (hou : D.ctl.length ≠ 0 → (lastB D).outer.length ≤ D.below) (hf : fallsF A = true) :
    Calls Try.prog 10 #[.pointer (some ⟨db, 0, none⟩), opD K A B C S T] w fun e w' => LayRes db w D A B e w' := by
  have hf2 : A ≠ 0 ∧ A ≠ 12 ∧ A ≠ 14 ∧ A ≠ 15 := by
    unfold fallsF at hf
    simp only [Bool.and_eq_true, bne_iff_ne] at hf
    omega
  cases hon : D.on
  · exact lay_off db D vb vt vc K A B C S T w hD hon
  by_cases h95 : 95 ≤ D.body.length
  · exact lay_full db D vb vt vc K A B C S T w hD hon h95
  by_cases hA0 : A < 0
  · exact lay_neg db D vb vt vc K A B C S T w hD hon (by omega) hA0
  by_cases hA5 : 255 < A
  · exact lay_big db D vb vt vc K A B C S T w hD hon (by omega) (by omega) hA5
  refine lay_in1 db D vb vt vc K A B C S T w hD hon (by omega) (by omega) (by omega) fun W0 b3 b5 HW0 => ?_
  refine lay_in2 db D vb vt vc K A B C S T w W0 b3 b5 hbl HW0 fun W HW => ?_
  exact ly_ways hon (by omega) hb hbl hou (by omega) (by omega) hf2 HW

end Go.Proofs.Qxb6500273a
