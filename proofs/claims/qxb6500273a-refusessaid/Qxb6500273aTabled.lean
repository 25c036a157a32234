/-
  WALKS: tabled.
-/
import Derived.Test.Qxb6500273aMf
set_option linter.unusedVariables false
set_option linter.unusedSimpArgs false
namespace Go.Proofs.Qxb6500273a
open Go.RowKit

def lab (D : Dv) (c : UInt8) : List UInt8 × Bool := labelL D (c.toNat : Int)

/-- the labels one by one: the first that fails -/
def tabLoop (D : Dv) (st df : List UInt8) : List UInt8 → Int
  | [] => 0
  | l :: r => if (lab D l).2 = false then 25 else if (lab D l).1.length ≠ df.length then 27 else if endsF st (lab D l).1 = false then 27 else tabLoop D st df r
def tabledL (D : Dv) (ls : List UInt8) : Int :=
  if endsF D.st [127] = false then 27
  else if (lab D (ls.getD (ls.length - 1) 0)).2 = false then 25
  else tabLoop D (D.st.take (D.st.length - 1)) (lab D (ls.getD (ls.length - 1) 0)).1 ls

theorem wrap_byte (c : UInt8) : wrap64 (c.toNat : Int) = (c.toNat : Int) := by
  have h := c.toNat_lt
  unfold wrap64
  omega

set_option maxRecDepth 100000 in
set_option maxHeartbeats 4000000 in
theorem tabled_any (db : Nat) (D : Dv) (vb vt vc : Value) (ls : List UInt8) (w : World) (hD : DAt w db D vb vt vc) (hb : DBnd D) (h1 : 0 < ls.length) (h4 : ls.length ≤ 4) :
    Calls Try.prog 32 #[.pointer (some ⟨db, 0, none⟩), .string ⟨ls.toArray⟩] w fun e w' => e = .returned (.int .i64 (tabledL D ls)) ∧ Below w.heap.size w w' := by
  have hst : D.st.length ≤ 1000 := Nat.le_trans hb.st (by omega)
  have hcl : D.ctl.length ≤ 1000 := Nat.le_trans hb.ctl (by omega)
  have HT : ∀ wx, _ := fun wx => str_any 127 (by omega) (by omega) wx
  have HE : ∀ wx, _ := fun wx => ends_any D.st [127] hst (by simp) wx
  have HLa : ∀ (c : UInt8) wx, Below w.heap.size w wx → Calls Try.prog 12 #[.pointer (some ⟨db, 0, none⟩), .int .i64 (wrap64 (c.toNat : Int))] wx fun e w' => e = .returned (.tuple #[.string ⟨(lab D c).1.toArray⟩, .bool (lab D c).2]) ∧ Below wx.heap.size wx w' := fun c wx hbx => by
    rw [wrap_byte c]
    exact label_any2 db D vb vt vc (c.toNat : Int) wx (hD.below hbx) hb.t0 hb.t2 hcl
  have hll : ∀ c, (lab D c).1.length ≤ 1 := fun c => label_len hb _
  have d4 : ∀ o, (w.alloc o).cell? ⟨db, 4, none⟩ = some (.string ⟨D.st.toArray⟩) := fun o => (hD.alloc o).c4
  have hbe : Hid (∀ o n, Below w.heap.size w ((w.alloc o).drewN n)) := fun o n => belowN ((Below.refl _ _).alloc (Nat.le_refl _) _) n
  have hbe0 : Hid (∀ o, Below w.heap.size w (w.alloc o)) := fun o => (Below.refl _ _).alloc (Nat.le_refl _) _
  clear hD
  unfold tabledL
  cases he : endsF D.st [127]
  · rw [he] at HE
    go_enter Try.func32, Try.ntmps32
    go_wp2_with (first | (go_at_call 22; refine (HT _).mono ?_; rintro e w1 ⟨rfl, rfl⟩) | (go_at_call 25; refine (HE _).mono ?_; rintro e w5 ⟨rfl, h51⟩; have h52 := h51.symm; clear h51; subst h52))
    go_ret
    exact ⟨rfl, hbe0.out _⟩
  rw [he] at HE
  rw [if_neg (by simp)]
  obtain ⟨st, ht⟩ : ∃ st : List UInt8, D.st = st ++ [127] := by
    rw [endsF_iff] at he
    obtain ⟨p, hp⟩ := he
    exact ⟨p, hp.symm⟩
  have e1 : D.st.take (D.st.length - 1) = st := by rw [ht]; simp
  rw [e1]
  have h10 : (st.length : Int) ≤ 1000 := by rw [ht] at hst; simp at hst; omega
  have HE2 : ∀ c wx, _ := fun c wx => ends_any st (lab D c).1 (by omega) (by have := hll c; omega) wx
  rw [ht] at d4
  rw [ht] at HE
  clear ht e1 he hb hst
  have hx : (ByteArray.mk (st ++ [127]).toArray).extract 0 st.length = ByteArray.mk st.toArray := by rw [ext_list]; simp
  obtain ⟨n, hn⟩ : ∃ n, ls.length = n + 1 := ⟨ls.length - 1, by omega⟩
  rw [show ls.length - 1 = n by omega]
  have hn4 : (n : Int) ≤ 3 := by omega
  have HX := HLa (ls.getD n 0)
  rw [local_at ls n (by omega)] at HX
  have hdf := hll (ls.getD n 0)
  generalize hlb : lab D (ls.getD n 0) = lb at *
  obtain ⟨df, ok⟩ := lb
  simp only [] at HX hdf ⊢
  clear hlb
  cases ok
  · rw [if_pos rfl]
    go_enter Try.func32, Try.ntmps32
    go_upto_region 4 with (first | (go_at_call 22; refine (HT _).mono ?_; rintro e w1 ⟨rfl, rfl⟩) | (go_at_call 25; refine (HE _).mono ?_; rintro e w5 ⟨rfl, h51⟩; have h52 := h51.symm; clear h51; subst h52))
    go_quiet (fail)
    go_upto_region 5 with fail
    go_wp2_with (go_at_call 12; refine (HX _ (hbe.out _ _)).mono ?_; rintro e w2 ⟨rfl, hb2⟩; have hb3 : Hid (Below w.heap.size w w2) := (hbe.out _ _).trans (hb2.mono (hbe.out _ _).size))
    go_ret
    exact ⟨rfl, hb3.out⟩
  rw [if_neg (by simp)]
  have HLt : Hid (∀ k, k < ls.length → tabLoop D st df (ls.drop k) = if (lab D (ls.getD k 0)).2 = false then 25 else if (lab D (ls.getD k 0)).1.length ≠ df.length then 27 else if endsF st (lab D (ls.getD k 0)).1 = false then 27 else tabLoop D st df (ls.drop (k + 1))) := fun k hk => by
    have e2 : ls.drop k = ls.getD k 0 :: ls.drop (k + 1) := by rw [List.drop_eq_getElem_cons hk]; simp [hk]
    rw [e2]; rfl
  go_enter Try.func32, Try.ntmps32
  go_upto_region 4 with (first | (go_at_call 22; refine (HT _).mono ?_; rintro e w1 ⟨rfl, rfl⟩) | (go_at_call 25; refine (HE _).mono ?_; rintro e w5 ⟨rfl, h51⟩; have h52 := h51.symm; clear h51; subst h52))
  go_quiet (fail)
  go_upto_region 5 with fail
  go_wp2_with (go_at_call 12; refine (HX _ (hbe.out _ _)).mono ?_; rintro e w2 ⟨rfl, hb2⟩; have hb3 : Hid (Below w.heap.size w w2) := (hbe.out _ _).trans (hb2.mono (hbe.out _ _).size); clear hb2)
  go_loopw [9] (fun i wr => ∃ k : Nat, k ≤ ls.length ∧ i = .int .i64 k ∧ Hid (tabLoop D st df ls = tabLoop D st df (ls.drop k)) ∧ Hid (Below w.heap.size w wr)) (fun i _ => ls.length - (intOf i).toNat)
  case atStart => exact ⟨0, by omega, rfl, rfl, hb3⟩
  case round =>
    obtain ⟨k, hk, rfl, hT, hI⟩ := hrel
    clear hb3 HX HE HT d4 hx
    by_cases hlt : k < ls.length
    · have hki : (k : Int) < ls.length := by omega
      have hn5 : (ls.length : Int) ≤ 4 := by omega
      have HX := HLa (ls.getD k 0) wr hI.out
      have HEk : ∀ wx, _ := fun wx => HE2 (ls.getD k 0) wx
      have hT2 : Hid (tabLoop D st df ls = if (lab D (ls.getD k 0)).2 = false then 25 else if (lab D (ls.getD k 0)).1.length ≠ df.length then 27 else if endsF st (lab D (ls.getD k 0)).1 = false then 27 else tabLoop D st df (ls.drop (k + 1))) := hT.out.trans (HLt.out k hlt)
      rw [local_at ls k hlt] at HX
      have hdk := hll (ls.getD k 0)
      generalize hlb : lab D (ls.getD k 0) = lb at *
      obtain ⟨l, okl⟩ := lb
      simp only [] at HX HEk hdk hT2
      have hki2 : (k : Int) < (n : Int) + 1 := by omega
      clear hlb HLa HE2 hll hT
      cases okl
      · go_wp2_with (go_at_call 12; refine HX.mono ?_; rintro e w3 ⟨rfl, hb3⟩; have hb4 : Hid (Below w.heap.size w w3) := hI.out.trans (hb3.mono hI.out.size); clear hb3)
        go_ret
        exact ⟨by rw [hT2.out]; rfl, hb4.out⟩
      · by_cases hne : l.length = df.length
        · have bn : ((l.length : Int) != (df.length : Int)) = false := by rw [hne]; simp
          cases hee : endsF st l
          · rw [hee] at HEk
            go_wp2_with (first | (go_at_call 12; refine HX.mono ?_; rintro e w3 ⟨rfl, hb3⟩; have hb4 : Hid (Below w.heap.size w w3) := hI.out.trans (hb3.mono hI.out.size); clear hb3) | (go_at_call 25; refine (HEk _).mono ?_; rintro e w5 ⟨rfl, h51⟩; have h52 := h51.symm; clear h51; subst h52))
            go_ret
            exact ⟨by rw [hT2.out, hee]; simp, hb4.out⟩
          · rw [hee] at HEk
            go_wp2_with (first | (go_at_call 12; refine HX.mono ?_; rintro e w3 ⟨rfl, hb3⟩; have hb4 : Hid (Below w.heap.size w w3) := hI.out.trans (hb3.mono hI.out.size); clear hb3) | (go_at_call 25; refine (HEk _).mono ?_; rintro e w5 ⟨rfl, h51⟩; have h52 := h51.symm; clear h51; subst h52))
            refine ⟨⟨k + 1, by omega, by simp, ?_, hb4⟩, by simp [intOf]; omega⟩
            have := hT2.out
            rw [hee] at this
            refine show tabLoop D st df ls = _ from ?_
            simpa [hne] using this
        · have bn : ((l.length : Int) != (df.length : Int)) = true := by rw [bne_iff_ne]; omega
          go_wp2_with (go_at_call 12; refine HX.mono ?_; rintro e w3 ⟨rfl, hb3⟩; have hb4 : Hid (Below w.heap.size w w3) := hI.out.trans (hb3.mono hI.out.size); clear hb3)
          go_ret
          exact ⟨by rw [hT2.out]; simp [hne], hb4.out⟩
    · have hkk : k = ls.length := by omega
      have hkn : (n : Int) + 1 ≤ k := by omega
      go_wp2_with fail
      go_ret
      refine ⟨?_, hI.out⟩
      have := hT.out
      rw [hkk] at this
      rw [this]; simp [tabLoop]

end Go.Proofs.Qxb6500273a
