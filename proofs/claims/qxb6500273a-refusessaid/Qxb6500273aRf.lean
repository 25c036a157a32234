/-
  Refused: all its ways.
-/
import Derived.Test.Qxb6500273aRf1
import Derived.Test.Qxb6500273aRfn
import Derived.Test.Qxb6500273aRfn6
import Derived.Test.Qxb6500273aRfi
import Derived.Test.Qxb6500273aRfi6
import Derived.Test.Qxb6500273aRfm
import Derived.Test.Qxb6500273aRfm6
import Derived.Test.Qxb6500273aRft
import Derived.Test.Qxb6500273aRft6
import Derived.Test.Qxb6500273aRfza
import Derived.Test.Qxb6500273aRfzb
import Derived.Test.Qxb6500273aRfzc
import Derived.Test.Qxb6500273aRfzd
import Derived.Test.Qxb6500273aRfze
import Derived.Test.Qxb6500273aRfzf
import Derived.Test.Qxb6500273aRfg
import Derived.Test.Qxb6500273aRfts
import Derived.Test.Qxb6500273aRfr
import Derived.Test.Qxb6500273aRfk
set_option linter.unusedVariables false
set_option linter.unusedSimpArgs false
namespace Go.Proofs.Qxb6500273a
open Go.RowKit

theorem endsN_insn {n : Nat} {x : Insn} (h : x ∈ endsN n) : x = ⟨11, 0, 0⟩ := List.eq_of_mem_replicate h

theorem doom_of {D : Dv} (h : Der D) (ls : List Insn) (x : Insn) (tabs : List Int) (pl want : Int) (hr : Ruin D (ls ++ [x]) tabs pl want) (hll : ls.length ≤ 2)
    (hi : ∀ y, y ∈ ls ++ [x] → 0 ≤ y.op ∧ y.op ≤ 255 ∧ 0 ≤ y.x ∧ y.x ≤ 4294967295 ∧ (y.op = 14 → ∃ X n : Nat, y.x = X ∧ y.y = (n : Int) + 1 ∧ X + n < tabs.length)) (ht : tabs.length ≤ 1000) (htv : ∀ c, c ∈ tabs → 0 ≤ c ∧ c ≤ 4294967295) :
    Doom { D with body := D.body ++ ls, tabs := tabs } x pl want := by
  have hb := h.bnd
  have hl := h.len
  have hc6 := hb.ctl
  have e1 : D.body ++ ls ++ x :: endsN (D.ctl.length + 1) = D.body ++ (ls ++ [x]) ++ endsN (D.ctl.length + 1) := by simp
  have hok := modS_ok (t := D.t) (body := D.body ++ ls ++ x :: endsN (D.ctl.length + 1)) (tabs := tabs) (by simp [endsN]; omega) (fun y hy => by
    rw [e1] at hy
    rcases List.mem_append.mp hy with q | q
    · rcases List.mem_append.mp q with q | q
      · have := h.insn y q
        exact ⟨this.1, this.2.1, this.2.2.2.1, this.2.2.2.2, fun e => absurd e this.2.2.1⟩
      · exact hi y q
    · rw [endsN_insn q]; simp) ht htv
  refine ⟨fun V => ?_, hok.1, hok.2, by simp only [List.length_append]; omega, hc6⟩
  have := hr (endsN (D.ctl.length + 1)) V
  rw [← e1] at this
  exact this

theorem doom_one {D : Dv} (h : Der D) (x : Insn) (want : Int) (hr : Ruin D [x] [] D.body.length want) (hx : 0 ≤ x.op ∧ x.op ≤ 255 ∧ x.op ≠ 14 ∧ 0 ≤ x.x ∧ x.x ≤ 4294967295) : Doom D x D.body.length want := by
  have := doom_of h [] x [] D.body.length want hr (by simp) (fun y hy => by
    rw [List.nil_append, List.mem_singleton] at hy
    subst hy
    exact ⟨hx.1, hx.2.1, hx.2.2.2.1, hx.2.2.2.2, fun e => absurd e hx.2.2.1⟩) (by simp) (fun c hc => by simp at hc)
  have e : ({ D with body := D.body ++ [], tabs := [] } : Dv) = D := by
    have ht := h.tabs
    cases D with
    | mk on t body tabs st ctl below =>
      simp only [] at ht
      subst ht
      simp
  rw [e] at this
  exact this

theorem mis_X {D : Dv} (hb : DBnd D) (A B : Int) : 0 ≤ (misfitL D A B).1 ∧ (misfitL D A B).1 ≤ 4294967295 := by
  have hX := plain_X (t := D.t) (st := D.st) (A := A) (B := B)
  have h6 := hb.ctl
  have h0 := hb.t0
  have h2 := hb.t2
  unfold misfitL
  repeat' (refine ite_ind (P := fun p : Int × Bool => 0 ≤ p.1 ∧ p.1 ≤ 4294967295) (fun hc => ?_) (fun hc => ?_))
  all_goals simp only []
  all_goals first
    | omega
    | exact ⟨hX.1, hX.2 (by omega)⟩
    | (rename_i hk
       have : 0 ≤ B ∧ B ≤ D.ctl.length := by
         have hk2 : (labelL D B).2 = true := by simpa using hc
         unfold labelL at hk2
         split at hk2
         · simp at hk2
         · omega
       omega)

theorem mis_plain {D : Dv} {A B : Int} (hk : (plainL D.t D.st A B).2.2.2 = true) : (misfitL D A B).1 = (plainL D.t D.st A B).2.2.1 := by
  unfold misfitL
  by_cases c1 : A = 26
  · rw [if_pos c1]
    subst c1
    have hn : (numSigF 26).1 = 0 := by decide
    unfold plainL
    rw [if_neg (by omega), if_neg (by omega), if_neg (by omega), if_neg (by omega), if_pos rfl]
    split <;> rfl
  rw [if_neg c1]
  have key : A = 4 ∨ A = 11 ∨ A = 5 ∨ A = 12 ∨ A = 13 ∨ A = 15 → False := fun hA => by
    have : (plainL D.t D.st A B).2.2.2 = false := by
      rcases hA with rfl | rfl | rfl | rfl | rfl | rfl
      · simp [plainL, show numSigF 4 = (0, 0, 0) by decide, show memSigF 4 = (0, 0, false) by decide]
      · simp [plainL, show numSigF 11 = (0, 0, 0) by decide, show memSigF 11 = (0, 0, false) by decide]
      · simp [plainL, show numSigF 5 = (0, 0, 0) by decide, show memSigF 5 = (0, 0, false) by decide]
      · simp [plainL, show numSigF 12 = (0, 0, 0) by decide, show memSigF 12 = (0, 0, false) by decide]
      · simp [plainL, show numSigF 13 = (0, 0, 0) by decide, show memSigF 13 = (0, 0, false) by decide]
      · simp [plainL, show numSigF 15 = (0, 0, 0) by decide, show memSigF 15 = (0, 0, false) by decide]
    rw [hk] at this
    simp at this
  rw [if_neg (fun e => key (.inl e)), if_neg (fun e => key (.inr (.inl e))), if_neg (fun e => key (.inr (.inr (.inl e)))), if_neg (fun e => key (by omega)), if_neg (fun e => key (by omega))]
  by_cases c2 : A = 27 ∧ D.st.length < 3
  · exfalso
    obtain ⟨rfl, h3⟩ := c2
    have hn : (numSigF 27).1 = 0 := by decide
    unfold plainL at hk
    rw [if_neg (by omega), if_neg (by omega), if_neg (by omega), if_neg (by omega), if_neg (by omega), if_pos rfl, if_pos h3] at hk
    simp at hk
  rw [if_neg c2]

theorem imm_X {D : Dv} : (misfitL D 36 3).1 = 3 := by
  have hk : (plainL D.t D.st 36 3).2.2.2 = true := by simp [plainL, show numSigF 36 = (0, 0, 0) by decide]
  rw [mis_plain hk]
  simp [plainL, show numSigF 36 = (0, 0, 0) by decide]

theorem tall_ok {D : Dv} {A B : Int} (h : tallL D A B = true) : (plainL D.t D.st A B).2.2.2 = true := by
  unfold tallL at h
  simp only [Bool.and_eq_true] at h
  exact h.1

theorem tab_ok14 (n : Nat) (h : 0 < n) : ∃ X m : Nat, (0 : Int) = X ∧ (n : Int) = (m : Int) + 1 ∧ X + m < n := ⟨0, n - 1, by simp, by omega, by omega⟩

theorem doom_tab {D : Dv} (h : Der D) {T : List UInt8} (h1 : 0 < T.length) (h4 : T.length ≤ 4) (hw : tabledL D T ≠ 0) : Doom { D with tabs := T.map fun c => (c.toNat : Int) } ⟨14, 0, (T.length : Int)⟩ D.body.length (tabledL D T) := by
  have hr := ruin_table h h1 hw
  generalize tabledL D T = want at *
  obtain ⟨x, hx⟩ : ∃ x : Insn, x = ⟨14, 0, (T.length : Int)⟩ := ⟨_, rfl⟩
  rw [← hx] at hr ⊢
  have hd := doom_of h [] x _ D.body.length want hr (by simp) (fun y hy => by
    rw [List.nil_append, List.mem_singleton] at hy
    rw [hy, hx]
    refine ⟨by simp, by simp, by simp, by simp, fun _ => ?_⟩
    rw [List.length_map]
    exact tab_ok14 T.length h1) (by simp; omega) (fun c hc => by
    simp only [List.mem_map] at hc
    obtain ⟨u, _, rfl⟩ := hc
    have := u.toNat_lt
    omega)
  have e : ({ D with body := D.body ++ [], tabs := T.map fun c => (c.toNat : Int) } : Dv) = { D with tabs := T.map fun c => (c.toNat : Int) } := by simp
  rw [e] at hd
  exact hd

set_option maxHeartbeats 1000000 in
theorem refused_any (bv db : Nat) (D : Dv) (vb vt vc : Value) (V : VS) (K A B C : Int) (S T : List UInt8) (w : World) (hD : DAt w db D vb vt vc) (hV : VAt w bv V) (hbv : bv < db) (h : Der D) :
    Calls Try.prog 16 #[.pointer (some ⟨bv, 0, none⟩), .pointer (some ⟨db, 0, none⟩), opD K A B C S T] w fun e w' => RRes bv db w e w' := by
  have hb := h.bnd
  have hbl := h.below
  cases hon : D.on
  · exact ref_off bv db D vb vt vc V K A B C S T w hD hV hbv hon
  by_cases hA0 : A < 0
  · exact ref_neg bv db D vb vt vc V K A B C S T w hD hV hbv hon hA0
  by_cases hA5 : 255 < A
  · exact ref_big bv db D vb vt vc V K A B C S T w hD hV hbv hon (by omega) hA5
  by_cases h95 : 95 ≤ D.body.length
  · exact ref_full bv db D vb vt vc V K A B C S T w hD hV hbv hon (by omega) (by omega) h95
  refine ref_in bv db D vb vt vc V K A B C S T w hD hV hbv hb hon (by omega) (by omega) (by omega) fun W b5 b8 HW => ?_
  have hc6 := hb.ctl
  by_cases h14 : A = 14
  · subst h14
    by_cases hT0 : T.length < 1
    · exact rf_tab_s hb hbl _ _ _ h.tabs hT0 HW
    by_cases hT4 : 4 < T.length
    · exact rf_tab_l hb hbl _ _ _ h.tabs hT0 hT4 HW
    refine rf_tab_ok hb hbl _ _ _ h.tabs (by omega) (by omega) (fun W' vt' HT => ?_) HW
    have hbE : DBnd { D with tabs := T.map fun c => (c.toNat : Int) } := ⟨hb.t0, hb.t2, hb.st, hb.ctl, hb.res⟩
    by_cases hw : tabledL D T = 0
    · rw [hw]
      by_cases h6 : D.ctl.length = 6
      · exact rf6_f6 _ hbE hbl h6 _ _ _ HT
      · exact rf6_f0 _ hbE hbl (by simp only []; omega) _ _ _ HT
    · have hbt : (!(tabledL D T) == 0) = true := by simpa using hw
      rw [hbt]
      have hd := doom_tab h (T := T) (by omega) (by omega) hw
      have hst := hb.st
      by_cases h6 : D.ctl.length = 6
      · exact rf6_t6 { D with tabs := T.map fun c => (c.toNat : Int) } hst hbl h6 _ _ _ HT hd
      · exact rf6_t0 { D with tabs := T.map fun c => (c.toNat : Int) } hst hbl (show D.ctl.length < 6 by omega) _ _ _ HT hd
  by_cases hE : (namelessL D A B).2 = 0
  rotate_left
  · have hbt : (!(namelessL D A B).2 == 0) = true := by simpa using hE
    rw [hbt]
    have hrange : ¬ (B < 0 ∨ 4294967295 < B) := fun hh => hE (by unfold namelessL; rw [if_pos hh])
    have hnm : namelessL D A B = (B, nameErr D A B) := by unfold namelessL; rw [if_neg hrange]
    rw [hnm] at HW hE ⊢
    simp only [] at HW hE ⊢
    have h36 : A ≠ 36 ∨ B ≠ 3 := by
      by_cases hh : A = 36 ∧ B = 3
      · obtain ⟨rfl, rfl⟩ := hh
        exact absurd (by simp [nameErr]) hE
      · omega
    have hd := doom_one h ⟨A, B, 0⟩ (nameErr D A B) (ruin_one h _ [] _ hE fun M n pc V1 hM hm ht hS => bad_name hb.t0 hb.t2 hM hS (by omega) (by omega) hE) (by simp only []; omega)
    by_cases h6 : D.ctl.length = 6
    · exact rf_name6 hb hbl _ _ hE h14 h36 h6 hd HW
    · exact rf_name0 hb hbl _ _ hE h14 h36 (by omega) hd HW
  rw [hE]
  have hbt : (!(0 : Int) == 0) = false := rfl
  rw [hbt]
  have hmX := mis_X hb A B
  by_cases hi : A = 36 ∧ B = 3
  · obtain ⟨rfl, rfl⟩ := hi
    have hd : ∀ z, Doom D ⟨36, (misfitL D 36 3).1, z⟩ D.body.length 24 := fun z => by
      rw [imm_X]
      exact doom_one h ⟨36, 3, z⟩ 24 (ruin_one h _ [] _ (by simp) fun M n pc V1 hM hm ht hS => bad_immut hm _ z) (by simp)
    by_cases h6 : D.ctl.length = 6
    · exact rf_immut6 hb hbl _ (by omega) (by omega) (by omega) h6 hd HW
    · exact rf_immut0 hb hbl _ (by omega) (by omega) (by omega) (by omega) hd HW
  have h36 : A ≠ 36 ∨ B ≠ 3 := by omega
  cases hmb : (misfitL D A B).2
  rotate_left
  · have hd : ∀ z, Doom D ⟨A, (misfitL D A B).1, z⟩ D.body.length 27 := fun z => doom_one h _ 27 (ruin_one h _ [] _ (by simp) fun M n pc V1 hM hm ht hS => bad_misfit hb.t0 hb.t2 hM hS (by omega) hi hmb z) ⟨by simp only []; omega, by simp only []; omega, h14, hmX.1, hmX.2⟩
    by_cases h6 : D.ctl.length = 6
    · exact rf_mis6 hb hbl _ h14 (by omega) (by omega) h36 h6 hmb hd HW
    · exact rf_mis0 hb hbl _ h14 (by omega) (by omega) h36 (by omega) hmb hd HW
  cases htl : tallL D A B
  rotate_left
  · have hd : ∀ z, Doom D ⟨A, (misfitL D A B).1, z⟩ D.body.length 28 := fun z => by
      rw [mis_plain (tall_ok htl)] at hmX ⊢
      exact doom_one h _ 28 (ruin_one h _ [] _ (by simp) fun M n pc V1 hM hm ht hS => bad_tall hb hM hS hi htl z) ⟨by simp only []; omega, by simp only []; omega, h14, hmX.1, hmX.2⟩
    by_cases h6 : D.ctl.length = 6
    · exact rf_tall6 hb hbl _ h14 (by omega) (by omega) h36 h6 hmb htl hd HW
    · exact rf_tall0 hb hbl _ h14 (by omega) (by omega) h36 (by omega) hmb htl hd HW
  by_cases h6 : D.ctl.length = 6
  · exact rf_none_a hb hbl _ (by omega) (by omega) h14 h36 hmb htl h6 HW
  by_cases hne : D.below + D.st.length = 10
  rotate_left
  · exact rf_none_b hb hbl _ (by omega) (by omega) h14 h36 hmb htl (by omega) hne HW
  by_cases h2 : A = 2
  rotate_left
  · exact rf_none_c hb hbl _ (by omega) (by omega) h14 h36 hmb htl (by omega) hne h2 HW
  subst h2
  by_cases hB0 : B < 0
  · exact rf_none_d hb hbl _ (by omega) (by omega) hmb htl (by omega) hne hB0 HW
  by_cases hB5 : 255 < B
  · exact rf_none_e hb hbl _ (by omega) (by omega) hmb htl (by omega) hne (by omega) hB5 HW
  cases hv : isValF B
  · exact rf_none_f hb hbl _ (by omega) (by omega) hmb htl (by omega) hne (by omega) (by omega) hv HW
  have hB4 := isVal_cases hv
  have hd := doom_of h [⟨2, B, 0⟩, ⟨0, 0, 0⟩] ⟨11, 0, 0⟩ [] ((D.body.length : Int) + 2) 28 (ruin_full h hv (by omega) hne) (by simp) (fun y hy => by
    simp only [List.cons_append, List.nil_append, List.mem_cons, List.not_mem_nil, or_false] at hy
    rcases hy with rfl | rfl | rfl
    · simp only []; omega
    · simp
    · simp) (by simp) (fun c hc => by simp at hc)
  have e : ({ D with body := D.body ++ [⟨2, B, 0⟩, ⟨0, 0, 0⟩], tabs := [] } : Dv) = { D with body := D.body ++ [⟨2, B, 0⟩] ++ [⟨0, 0, 0⟩] } := by
    have ht := h.tabs
    simp [ht]
  rw [e] at hd
  exact rf_full hb hbl _ hmb htl (by omega) hne hv (by omega) hd HW

end Go.Proofs.Qxb6500273a
