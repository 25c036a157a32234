/-
  Deadly: all its ways.
-/
import Derived.Test.Qxb6500273aRf
import Derived.Test.Qxb6500273aDd1
import Derived.Test.Qxb6500273aDi127
import Derived.Test.Qxb6500273aDi126
import Derived.Test.Qxb6500273aDi125
import Derived.Test.Qxb6500273aDi124
import Derived.Test.Qxb6500273aDdo
import Derived.Test.Qxb6500273aDdp
import Derived.Test.Qxb6500273aDdp5
import Derived.Test.Qxb6500273aDdpe
import Derived.Test.Qxb6500273aDdpb
set_option linter.unusedVariables false
set_option linter.unusedSimpArgs false
namespace Go.Proofs.Qxb6500273a
open Go.RowKit

/-- the derivation behind unreachable and a constant -/
def deadD (D : Dv) (op : Int) (c : UInt8) : Dv := { D with body := D.body ++ [⟨0, 0, 0⟩] ++ [⟨op, 0, 0⟩], st := [c] }

theorem doom_dead {D : Dv} (h : Der D) {c : UInt8} (hc : c = 127 ∨ c = 126 ∨ c = 125 ∨ c = 124) (hbl : D.below < 10) {op : Int} (hop : op = 65 + (127 - (c.toNat : Int))) (x : Insn) (hxi : 0 ≤ x.op ∧ x.op ≤ 255 ∧ x.op ≠ 14 ∧ 0 ≤ x.x ∧ x.x ≤ 4294967295)
    (hx : ∀ M n pc V, IsFrame M D.t → Top V D.below [c] → V.res (V.depth - 1) = firstF (owedL D).1 → ((owedL D).2 = true → V.cop (V.depth - 1) = 4 ∧ V.res (V.depth - 1) ≠ 64) → (stepF M (sidesF D.t).1 n pc V x).1 = some ((pc : Int), 27)) :
    Doom (deadD D op c) x ((deadD D op c).body.length : Int) 27 := by
  have hcn : (c.toNat : Int) = 127 ∨ (c.toNat : Int) = 126 ∨ (c.toNat : Int) = 125 ∨ (c.toNat : Int) = 124 := by
    rcases hc with rfl | rfl | rfl | rfl <;> decide
  have hr := ruin_dead h hc hbl x hx
  rw [← hop] at hr
  have hd := doom_of h [⟨0, 0, 0⟩, ⟨op, 0, 0⟩] x [] ((D.body.length : Int) + 2) 27 hr (by simp) (fun y hy => by
    simp only [List.cons_append, List.nil_append, List.mem_cons, List.not_mem_nil, or_false] at hy
    rcases hy with rfl | rfl | rfl
    · simp
    · simp only []; omega
    · exact ⟨hxi.1, hxi.2.1, hxi.2.2.2.1, hxi.2.2.2.2, fun e => absurd e hxi.2.2.1⟩) (by simp) (fun c hc => by simp at hc)
  have e1 : (deadD D op c).body = D.body ++ [⟨0, 0, 0⟩, ⟨op, 0, 0⟩] := by simp [deadD]
  have e2 : ((deadD D op c).body.length : Int) = (D.body.length : Int) + 2 := by rw [e1]; simp
  have e3 : (deadD D op c).tabs = [] := h.tabs
  rw [e2]
  refine ⟨?_, ?_, ?_, ?_, hd.ctl⟩
  · rw [e1, e3]; exact hd.said
  · rw [e1, e3]; exact hd.mo
  · rw [e1, e3]; exact hd.po
  · rw [e1]; exact hd.len

theorem plain_fix {t : Int} {st : List UInt8} {A B : Int} (hA : A = 5 ∨ A = 14) : (plainL t st A B).2.2.2 = false := by
  rcases hA with rfl | rfl
  · simp [plainL, show numSigF 5 = (0, 0, 0) by decide, show memSigF 5 = (0, 0, false) by decide]
  · simp [plainL, show numSigF 14 = (0, 0, 0) by decide, show memSigF 14 = (0, 0, false) by decide]

theorem dead_nine {w W : World} {bv db b5 b7 : Nat} {D : Dv} {vb vt vc : Value} {V : VS} {K A B C : Int} {T : List UInt8} (h : Der D) {c : UInt8} (hc : c = 127 ∨ c = 126 ∨ c = 125 ∨ c = 124) (hbl : D.below < 10) {op : Int} (hop : op = 65 + (127 - (c.toNat : Int))) (hA0 : 0 ≤ A) (hA5 : A ≤ 255) (h36 : ¬ (A = 36 ∧ B = 3)) (half : Bool)
    (HX : DxW w W bv db b5 b7 (deadD D op c) vb vt vc V K A B C [c] T ⟨A, 0, 0⟩) : DGoal 9 w W bv db b5 (.pointer (some ⟨b7, 0, none⟩)) (.bool false) (.bool half) := by
  have hb := h.bnd
  obtain ⟨V0, hS0⟩ := h.sim
  obtain ⟨_, hr1, hrv, _⟩ := hS0.owed h.t0 h.t2
  have how : owedL (deadD D op c) = owedL D := rfl
  have hbE : DBnd (deadD D op c) := ⟨hb.t0, hb.t2, by simp [deadD], hb.ctl, hb.res⟩
  by_cases h11 : A = 11
  · subst h11
    by_cases hr : (owedL D).1 = [c]
    rotate_left
    · exact dd9_e1 (by rw [how]; exact hr) hbE HX (doom_dead h hc hbl hop _ (by simp) fun M n pc V hM hT hres hl => dead_end h.t0 h.t2 hb hr1 hrv hT hres hl (.inl hr) M _ n pc 0 0)
    cases hl2 : (owedL D).2
    · exact dd9_e3 (by rw [how]; exact hr) (by rw [how]; exact hl2) hbE HX
    · exact dd9_e2 (by rw [how]; exact hr) (by rw [how]; exact hl2) hbE HX (doom_dead h hc hbl hop _ (by simp) fun M n pc V hM hT hres hl => dead_end h.t0 h.t2 hb hr1 hrv hT hres hl (.inr hl2) M _ n pc 0 0)
  by_cases h5 : A = 5
  · subst h5
    cases half
    · exact dd9_p5 (plain_fix (.inl rfl)) hbE HX
    by_cases hr : (owedL D).1 = [c]
    rotate_left
    · exact dd9_l1 (by rw [how]; exact hr) hbE HX (doom_dead h hc hbl hop _ (by simp) fun M n pc V hM hT hres hl => by
        have hst : stepF M (sidesF D.t).1 n pc V ⟨5, 0, 0⟩ = elseF V pc := by simp [stepF]
        have hsf := dead_settled hT hres hr1 hrv hr
        rw [hst]
        unfold elseF
        simp [hsf])
    cases hl2 : (owedL D).2
    · exact dd9_l3 (by rw [how]; exact hr) (by rw [how]; exact hl2) hbE HX
    · exact dd9_l2 (by rw [how]; exact hr) (by rw [how]; exact hl2) hbE HX
  have et : (deadD D op c).t = D.t := rfl
  have es : (deadD D op c).st = [c] := rfl
  cases hk : (plainL D.t [c] A B).2.2.2
  · exact dd9_pno hA0 hA5 h11 h5 (by rw [et, es]; exact hk) hbE HX
  rcases List.eq_nil_or_concat (plainL D.t [c] A B).1 with htk | ⟨tp, d, htk⟩
  · exact dd9_pnil hA0 hA5 h11 h5 (by rw [et, es]; exact hk) (by rw [et, es]; exact htk) hbE HX
  rw [List.concat_eq_append] at htk
  by_cases hd : d = c
  · exact dd9_peq hA0 hA5 h11 h5 (by rw [et, es]; exact hk) tp d (by rw [et, es]; exact htk) hd hbE HX
  · have h14 : A ≠ 14 := fun e => by
      have := plain_fix (t := D.t) (st := [c]) (B := B) (.inr e)
      rw [hk] at this
      simp at this
    have ht0 := h.t0
    have ht2 := h.t2
    have hX := plain_X (t := D.t) (st := [c]) (A := A) (B := B)
    exact dd9_pbad hA0 hA5 h11 h5 (by rw [et, es]; exact hk) tp d (by rw [et, es]; exact htk) hd hbE HX fun z => by
      rw [et, es]
      exact doom_dead h hc hbl hop _ ⟨hA0, hA5, h14, hX.1, hX.2 (by omega)⟩ fun M n pc V hM hT hres hl => dead_plain h.t0 h.t2 hM hT h36 hk htk hd n pc z

theorem dead_go {w W : World} {bv db b5 : Nat} {D : Dv} {vb vt vc : Value} {V : VS} {K A B C : Int} {T : List UInt8} (h : Der D) {c : UInt8} (hc : c = 127 ∨ c = 126 ∨ c = 125 ∨ c = 124) (hbl : D.below < 10) {op : Int} (hop : op = 65 + (127 - (c.toNat : Int))) (hA0 : 0 ≤ A) (hA5 : A ≤ 255) (h36 : ¬ (A = 36 ∧ B = 3))
    (HW : DdW w W bv db b5 { D with body := D.body ++ [⟨0, 0, 0⟩] ++ [⟨op, 0, 0⟩] } vb vt vc V K A B C [c] T) (v7 v8 v9 : Value) : DGoal 5 w W bv db b5 v7 v8 v9 := by
  have hc6 := h.bnd.ctl
  by_cases h0 : D.ctl.length = 0
  · exact dd5_0 (E := { D with body := D.body ++ [⟨0, 0, 0⟩] ++ [⟨op, 0, 0⟩] }) h0 hc6 hA0 hA5 v7 v8 v9 HW fun W' b7 HX => dead_nine h hc hbl hop hA0 hA5 h36 false HX
  by_cases h4 : (lastB D).op = 4
  · exact dd5_4 (E := { D with body := D.body ++ [⟨0, 0, 0⟩] ++ [⟨op, 0, 0⟩] }) h0 h4 hc6 hA0 hA5 v7 v8 v9 HW fun W' b7 HX => dead_nine h hc hbl hop hA0 hA5 h36 true HX
  · exact dd5_x (E := { D with body := D.body ++ [⟨0, 0, 0⟩] ++ [⟨op, 0, 0⟩] }) h0 h4 hc6 hA0 hA5 v7 v8 v9 HW fun W' b7 HX => dead_nine h hc hbl hop hA0 hA5 h36 false HX

theorem deadly_any (bv db : Nat) (D : Dv) (vb vt vc : Value) (V : VS) (K A B C : Int) (S T : List UInt8) (w : World) (hD : DAt w db D vb vt vc) (hV : VAt w bv V) (hbv : bv < db) (h : Der D) :
    Calls Try.prog 17 #[.pointer (some ⟨bv, 0, none⟩), .pointer (some ⟨db, 0, none⟩), opD K A B C S T] w fun e w' => RRes bv db w e w' := by
  cases hon : D.on
  · exact dd_off bv db D vb vt vc V K A B C S T w hD hV hbv hon
  by_cases hA0 : A < 0
  · exact dd_neg bv db D vb vt vc V K A B C S T w hD hV hbv hon hA0
  by_cases hA5 : 255 < A
  · exact dd_big bv db D vb vt vc V K A B C S T w hD hV hbv hon (by omega) hA5
  by_cases h93 : 93 ≤ D.body.length
  · exact dd_full bv db D vb vt vc V K A B C S T w hD hV hbv hon (by omega) (by omega) h93
  by_cases h10 : 10 ≤ D.below
  · exact dd_high bv db D vb vt vc V K A B C S T w hD hV hbv hon (by omega) (by omega) (by omega) h10
  by_cases hS : S.length = 1
  rotate_left
  · exact dd_len bv db D vb vt vc V K A B C S T w hD hV hbv hon (by omega) (by omega) (by omega) (by omega) hS
  cases hv : isValF ((S.getD 0 0).toNat : Int)
  · exact dd_val bv db D vb vt vc V K A B C S T w hD hV hbv hon (by omega) (by omega) (by omega) (by omega) hS hv
  by_cases h36 : A = 36 ∧ B = 3
  · exact dd_imm bv db D vb vt vc V K A B C S T w hD hV hbv hon (by omega) (by omega) (by omega) (by omega) hS hv h36.1 h36.2
  have h36' : A ≠ 36 ∨ B ≠ 3 := by omega
  obtain ⟨c, rfl⟩ : ∃ c, S = [c] := by
    match S, hS with
    | [c], _ => exact ⟨c, rfl⟩
  have hv2 : isValF (c.toNat : Int) = true := hv
  have hcn : c = 127 ∨ c = 126 ∨ c = 125 ∨ c = 124 := by
    rcases isVal_cases hv2 with e | e | e | e
    · exact .inl (nat_inj e)
    · exact .inr (.inl (nat_inj e))
    · exact .inr (.inr (.inl (nat_inj e)))
    · exact .inr (.inr (.inr (nat_inj e)))
  clear hv hv2 hS
  rcases hcn with rfl | rfl | rfl | rfl
  · exact dd_in127 bv db D vb vt vc V K A B C T w hD hV hbv hon (by omega) (by omega) (by omega) (by omega) h36' fun W ub HW v7 v8 v9 => dead_go h (.inl rfl) (by omega) (by decide) (by omega) (by omega) h36 HW v7 v8 v9
  · exact dd_in126 bv db D vb vt vc V K A B C T w hD hV hbv hon (by omega) (by omega) (by omega) (by omega) h36' fun W ub HW v7 v8 v9 => dead_go h (.inr (.inl rfl)) (by omega) (by decide) (by omega) (by omega) h36 HW v7 v8 v9
  · exact dd_in125 bv db D vb vt vc V K A B C T w hD hV hbv hon (by omega) (by omega) (by omega) (by omega) h36' fun W ub HW v7 v8 v9 => dead_go h (.inr (.inr (.inl rfl))) (by omega) (by decide) (by omega) (by omega) h36 HW v7 v8 v9
  · exact dd_in124 bv db D vb vt vc V K A B C T w hD hV hbv hon (by omega) (by omega) (by omega) (by omega) h36' fun W ub HW v7 v8 v9 => dead_go h (.inr (.inr (.inr rfl))) (by omega) (by decide) (by omega) (by omega) h36 HW v7 v8 v9

end Go.Proofs.Qxb6500273a
