/-
  Bared: the law and the walk.
-/
import Derived.Test.Qxb6500273aParted
namespace Go.Proofs.Qxb6500273a
open Go.RowKit

theorem mo_bare {M : Md} (a x : Int) (h1 : M.t1.length ≤ 1000) (hb : M.body = [⟨a, x, 0⟩, ⟨11, 0, 0⟩]) (ht : M.tabs = []) (ha : 0 ≤ a) (ha2 : a ≤ 255) (hn : a ≠ 14) (hx : 0 ≤ x) (hx2 : x ≤ 4294967295) : MdOk M := by
  refine ⟨h1, by rw [hb]; simp, ?_, ?_, ?_, by rw [ht]; simp, by rw [ht]; simp⟩
  · rw [hb]; exact two3 ⟨ha, ha2⟩ (by simp)
  · rw [hb]; exact two3 ⟨hx, hx2⟩ (by simp)
  · rw [hb]
    exact two3 (fun e => absurd e hn) (fun e => by simp at e)

theorem bare_tab (M : Md) (x : Int) (V : VS) (hM : M = mod0 0 [⟨17, x, 0⟩, ⟨11, 0, 0⟩] []) : (validateF { M with tabMin := -1 } V).1 = (0, 0, 21) := by
  have hp : partsF { M with tabMin := -1 } = (0, 0) := by
    rw [frame_rest (by subst hM; rfl) (by subst hM; rfl) (.inr rfl) (by subst hM; rfl) (.inl (by subst hM; rfl)) (by subst hM; rfl) (fun i _ => by subst hM; rfl)]
    subst hM; rfl
  have hb : (bodyF { M with tabMin := -1 } V).1 = (0, 21) := by
    subst hM
    simp [bodyF, mod0, typeText, splitF, runF, stepF, plainF, callF, after]
  unfold validateF
  rw [hp, if_neg (by simp), if_pos (by rw [hb]; simp), hb]

theorem bare_mem (M : Md) (a x : Int) (V : VS) (ha : 40 ≤ a) (ha2 : a ≤ 64) (hM : M = mod0 0 [⟨a, x, 0⟩, ⟨11, 0, 0⟩] []) : (validateF { M with memMin := -1 } V).1 = (0, 0, 20) := by
  have hp : partsF { M with memMin := -1 } = (0, 0) := by
    rw [frame_rest (by subst hM; rfl) (by subst hM; rfl) (.inl (by subst hM; rfl)) (by subst hM; rfl) (.inr rfl) (by subst hM; rfl) (fun i _ => by subst hM; rfl)]
    subst hM; rfl
  have hs : ∀ V', stepF { M with memMin := -1 } [] 2 0 V' ⟨a, x, 0⟩ = (some (0, 20), V') := fun V' => by
    unfold stepF
    simp only []
    rw [if_neg (by omega), if_neg (by omega), if_neg (by omega), if_neg (by omega), if_neg (by omega), if_neg (by omega), if_neg (by omega), if_neg (by omega), if_neg (by omega), if_neg (by omega)]
    unfold plainF
    simp only []
    rw [if_neg (by omega), if_neg (by omega), if_neg (by omega), if_neg (by omega), if_neg (by omega), if_pos ⟨ha, ha2⟩]
    simp [memoryF, after]
  have hb : (bodyF { M with memMin := -1 } V).1 = (0, 20) := by
    subst hM
    have hs1 := hs (headV V [])
    simp only [bodyF, mod0, typeText, runF] at hs1 ⊢
    simp only [Int.toNat_zero, if_true, splitF]
    rw [show (([⟨a, x, 0⟩, ⟨11, 0, 0⟩] : List Insn).length) = 2 from rfl, hs1]
  unfold validateF
  rw [hp, if_neg (by simp), if_pos (by rw [hb]; simp), hb]

section
variable (bv : Nat) (V : VS) (K A B C : Int) (S T : List UInt8) (w : World)

def BaredGoal : Prop := Calls Try.prog 20 #[.pointer (some ⟨bv, 0, none⟩), opV K A B C S T] w fun e w' => e = .returned (.bool true) ∧ Kept bv w w'

set_option maxHeartbeats 1000000 in
theorem bared_out (hV : VAt w bv V) (h : (u32F B = false) ∨ (A < 17) ∨ (64 < A) ∨ (A ≠ 17 ∧ A < 40)) : BaredGoal bv K A B C S T w := by
  unfold BaredGoal opV
  have hbv := hV.lt
  have HU : ∀ wx, _ := fun wx => u32_any B wx
  have hb2 : Below w.heap.size w (w.alloc (.cells #[.int .i64 K, .int .i64 A, .int .i64 B, .int .i64 C, .string ⟨S.toArray⟩, .string ⟨T.toArray⟩] 34)) := (Below.refl _ _).alloc (Nat.le_refl _) _
  have HK : Kept bv w (w.alloc (.cells #[.int .i64 K, .int .i64 A, .int .i64 B, .int .i64 C, .string ⟨S.toArray⟩, .string ⟨T.toArray⟩] 34)) := ⟨⟨V, hV.below hb2 hbv⟩, Ex.ofBelow hb2 (Nat.le_refl _)⟩
  cases hu : u32F B
  · rw [hu] at HU
    clear hu h
    go_enter Try.func20, Try.ntmps20
    go_wp2_with (go_at_call 40; refine (HU _).mono ?_; rintro e w1 ⟨rfl, rfl⟩)
    go_ret
    exact ⟨rfl, HK⟩
  · rw [hu] at HU
    have h' : (A < 17) ∨ (17 ≤ A ∧ 64 < A) ∨ (17 ≤ A ∧ A ≤ 64 ∧ A ≠ 17 ∧ A < 40) := by
      rcases h with h | h | h | h
      · rw [hu] at h; simp at h
      · exact .inl h
      · exact .inr (.inl ⟨by omega, h⟩)
      · by_cases g : A < 17
        · exact .inl g
        · exact .inr (.inr ⟨by omega, by omega, h.1, h.2⟩)
    clear hu h
    rcases h' with h | ⟨h1, h2⟩ | ⟨h1, h2, h3, h4⟩
    · go_enter Try.func20, Try.ntmps20
      go_wp2_with (go_at_call 40; refine (HU _).mono ?_; rintro e w1 ⟨rfl, rfl⟩)
      go_ret
      exact ⟨rfl, HK⟩
    · go_enter Try.func20, Try.ntmps20
      go_wp2_with (go_at_call 40; refine (HU _).mono ?_; rintro e w1 ⟨rfl, rfl⟩)
      go_ret
      exact ⟨rfl, HK⟩
    · have b1 : (A != 17) = true := by rw [bne_iff_ne]; exact h3
      clear h3
      go_enter Try.func20, Try.ntmps20
      go_wp2_with (go_at_call 40; refine (HU _).mono ?_; rintro e w1 ⟨rfl, rfl⟩)
      go_ret
      exact ⟨rfl, HK⟩

set_option maxHeartbeats 2000000 in
theorem bared_tab (hV : VAt w bv V) (hu : u32F B = true) : BaredGoal bv K 17 B C S T w := by
  unfold BaredGoal opV
  have hbv := hV.lt
  have HU : ∀ wx, _ := fun wx => u32_any B wx
  rw [hu] at HU
  clear hu
  have HBA : BodyAt ((w.alloc (.cells #[.int .i64 K, .int .i64 17, .int .i64 B, .int .i64 C, .string ⟨S.toArray⟩, .string ⟨T.toArray⟩] 34)).alloc (.cells #[.int .u8 17, .int .u32 (B % 4294967296), .int .u64 0, .int .u8 11, .int .u32 0, .int .u64 0] 42)) (w.heap.size + 1) [⟨17, B % 4294967296, 0⟩, ⟨11, 0, 0⟩] := by
    refine bodyAt_of fun j u hj => ?_
    have := World.cell?_alloc_new (w.alloc (.cells #[.int .i64 K, .int .i64 17, .int .i64 B, .int .i64 C, .string ⟨S.toArray⟩, .string ⟨T.toArray⟩] 34)) #[.int .u8 17, .int .u32 (B % 4294967296), .int .u64 0, .int .u8 11, .int .u32 0, .int .u64 0] 42 j
    rw [World.size_alloc] at this
    rw [this]; simpa [insCells] using hj
  have HBR := bare_any bv (w.heap.size + 1) 2 [⟨17, B % 4294967296, 0⟩, ⟨11, 0, 0⟩] ((w.alloc (.cells #[.int .i64 K, .int .i64 17, .int .i64 B, .int .i64 C, .string ⟨S.toArray⟩, .string ⟨T.toArray⟩] 34)).alloc (.cells #[.int .u8 17, .int .u32 (B % 4294967296), .int .u64 0, .int .u8 11, .int .u32 0, .int .u64 0] 42)) (by simp; omega) (by omega) (by simp) HBA
  have hb2 : Below w.heap.size w ((w.alloc (.cells #[.int .i64 K, .int .i64 17, .int .i64 B, .int .i64 C, .string ⟨S.toArray⟩, .string ⟨T.toArray⟩] 34)).alloc (.cells #[.int .u8 17, .int .u32 (B % 4294967296), .int .u64 0, .int .u8 11, .int .u32 0, .int .u64 0] 42)) := ((Below.refl _ _).alloc (Nat.le_refl _) _).alloc (by simp) _
  have hsz : w.heap.size + 2 = ((w.alloc (.cells #[.int .i64 K, .int .i64 17, .int .i64 B, .int .i64 C, .string ⟨S.toArray⟩, .string ⟨T.toArray⟩] 34)).alloc (.cells #[.int .u8 17, .int .u32 (B % 4294967296), .int .u64 0, .int .u8 11, .int .u32 0, .int .u64 0] 42)).heap.size := by simp
  have hx : ((w.alloc (.cells #[.int .i64 K, .int .i64 17, .int .i64 B, .int .i64 C, .string ⟨S.toArray⟩, .string ⟨T.toArray⟩] 34)).alloc (.cells #[.int .u8 17, .int .u32 (B % 4294967296), .int .u64 0, .int .u8 11, .int .u32 0, .int .u64 0] 42)).cell? ⟨w.heap.size, 1, none⟩ = some (.int .i64 17) := by
    rw [oldc (by simp)]; exact World.cell?_alloc_new _ _ _ _
  go_enter Try.func20, Try.ntmps20
  go_upto_region 6 with (first | (go_at_call 40; refine (HU _).mono ?_; rintro e w1 ⟨rfl, h41⟩; have h42 := h41.symm; clear h41; subst h42) | (go_at_call 38; refine HBR.mono ?_; rintro e w1 ⟨L, rfl, hM, hW, hbe, hbp, hxn⟩))
  have x1 : w1.cell? ⟨w.heap.size, 1, none⟩ = some (.int .i64 17) := (hbe.cell (by simp only []; omega)).trans hx
  have hbe2 : Below w.heap.size w w1 := hb2.trans (hbe.mono (by omega))
  have hlt : w.heap.size < L.p := by omega
  clear hx HBR hxn HBA hb2 hsz hbe hbp
  have hm2 := ModAt.setTabMin hM hW (-1)
  have c3 := hM.m3
  have z3 := hW.fp 3
  have hbe3 := hbe2.setCell (p := ⟨L.p, 3, none⟩) (by simp only []; omega) (.int .i64 (-1))
  have HV := validate_any bv L _ V _ hm2.1 (hV.below hbe3 hbv) (mo_bare 17 (B % 4294967296) (by simp [mod0]) rfl rfl (by omega) (by omega) (by omega) (by omega) (by omega)) ⟨by simp [mod0], by simp [mod0], by simp [mod0], by simp [mod0], by simp [mod0], gin0 0 [⟨17, B % 4294967296, 0⟩, ⟨11, 0, 0⟩] [], by simp [mod0]⟩
  have ho := bare_tab _ (B % 4294967296) V rfl
  clear hM hW hm2
  generalize validateF _ V = X at *
  obtain ⟨⟨X1, X2, X3⟩, XV⟩ := X
  simp only [Prod.mk.injEq] at ho HV
  obtain ⟨rfl, rfl, rfl⟩ := ho
  go_wp2_with (go_at_call 14; refine HV.mono ?_; rintro e w3 ⟨rfl, hv3, hex3⟩)
  go_ret
  exact ⟨rfl, ⟨_, hv3⟩, (Ex.ofBelow hbe3 (Nat.le_refl _)).trans hex3⟩

set_option maxHeartbeats 2000000 in
theorem bared_mem (hV : VAt w bv V) (hu : u32F B = true) (h1 : 40 ≤ A) (h2 : A ≤ 64) : BaredGoal bv K A B C S T w := by
  unfold BaredGoal opV
  have hbv := hV.lt
  have HU : ∀ wx, _ := fun wx => u32_any B wx
  rw [hu] at HU
  clear hu
  have b1 : (A != 17) = true := by rw [bne_iff_ne]; omega
  have b2 : (A == 17) = false := by rw [beq_eq_false_iff_ne]; omega
  have HBA : BodyAt ((w.alloc (.cells #[.int .i64 K, .int .i64 A, .int .i64 B, .int .i64 C, .string ⟨S.toArray⟩, .string ⟨T.toArray⟩] 34)).alloc (.cells #[.int .u8 A, .int .u32 (B % 4294967296), .int .u64 0, .int .u8 11, .int .u32 0, .int .u64 0] 42)) (w.heap.size + 1) [⟨A, B % 4294967296, 0⟩, ⟨11, 0, 0⟩] := by
    refine bodyAt_of fun j u hj => ?_
    have := World.cell?_alloc_new (w.alloc (.cells #[.int .i64 K, .int .i64 A, .int .i64 B, .int .i64 C, .string ⟨S.toArray⟩, .string ⟨T.toArray⟩] 34)) #[.int .u8 A, .int .u32 (B % 4294967296), .int .u64 0, .int .u8 11, .int .u32 0, .int .u64 0] 42 j
    rw [World.size_alloc] at this
    rw [this]; simpa [insCells] using hj
  have HBR := bare_any bv (w.heap.size + 1) 2 [⟨A, B % 4294967296, 0⟩, ⟨11, 0, 0⟩] ((w.alloc (.cells #[.int .i64 K, .int .i64 A, .int .i64 B, .int .i64 C, .string ⟨S.toArray⟩, .string ⟨T.toArray⟩] 34)).alloc (.cells #[.int .u8 A, .int .u32 (B % 4294967296), .int .u64 0, .int .u8 11, .int .u32 0, .int .u64 0] 42)) (by simp; omega) (by omega) (by simp) HBA
  have hb2 : Below w.heap.size w ((w.alloc (.cells #[.int .i64 K, .int .i64 A, .int .i64 B, .int .i64 C, .string ⟨S.toArray⟩, .string ⟨T.toArray⟩] 34)).alloc (.cells #[.int .u8 A, .int .u32 (B % 4294967296), .int .u64 0, .int .u8 11, .int .u32 0, .int .u64 0] 42)) := ((Below.refl _ _).alloc (Nat.le_refl _) _).alloc (by simp) _
  have hsz : w.heap.size + 2 = ((w.alloc (.cells #[.int .i64 K, .int .i64 A, .int .i64 B, .int .i64 C, .string ⟨S.toArray⟩, .string ⟨T.toArray⟩] 34)).alloc (.cells #[.int .u8 A, .int .u32 (B % 4294967296), .int .u64 0, .int .u8 11, .int .u32 0, .int .u64 0] 42)).heap.size := by simp
  have hx : ((w.alloc (.cells #[.int .i64 K, .int .i64 A, .int .i64 B, .int .i64 C, .string ⟨S.toArray⟩, .string ⟨T.toArray⟩] 34)).alloc (.cells #[.int .u8 A, .int .u32 (B % 4294967296), .int .u64 0, .int .u8 11, .int .u32 0, .int .u64 0] 42)).cell? ⟨w.heap.size, 1, none⟩ = some (.int .i64 A) := by
    rw [oldc (by simp)]; exact World.cell?_alloc_new _ _ _ _
  go_enter Try.func20, Try.ntmps20
  go_upto_region 6 with (first | (go_at_call 40; refine (HU _).mono ?_; rintro e w1 ⟨rfl, h41⟩; have h42 := h41.symm; clear h41; subst h42) | (go_at_call 38; refine HBR.mono ?_; rintro e w1 ⟨L, rfl, hM, hW, hbe, hbp, hxn⟩))
  have x1 : w1.cell? ⟨w.heap.size, 1, none⟩ = some (.int .i64 A) := (hbe.cell (by simp only []; omega)).trans hx
  have hbe2 : Below w.heap.size w w1 := hb2.trans (hbe.mono (by omega))
  have hlt : w.heap.size < L.p := by omega
  clear hx HBR hxn HBA hb2 hsz hbe hbp
  have hm2 := ModAt.setMemMin hM hW (-1)
  have c3 := hM.m5
  have z3 := hW.fp 5
  have hbe3 := hbe2.setCell (p := ⟨L.p, 5, none⟩) (by simp only []; omega) (.int .i64 (-1))
  have HV := validate_any bv L _ V _ hm2.1 (hV.below hbe3 hbv) (mo_bare A (B % 4294967296) (by simp [mod0]) rfl rfl (by omega) (by omega) (by omega) (by omega) (by omega)) ⟨by simp [mod0], by simp [mod0], by simp [mod0], by simp [mod0], by simp [mod0], gin0 0 [⟨A, B % 4294967296, 0⟩, ⟨11, 0, 0⟩] [], by simp [mod0]⟩
  have ho := bare_mem _ A (B % 4294967296) V (by omega) (by omega) rfl
  clear hM hW hm2
  generalize validateF _ V = X at *
  obtain ⟨⟨X1, X2, X3⟩, XV⟩ := X
  simp only [Prod.mk.injEq] at ho HV
  obtain ⟨rfl, rfl, rfl⟩ := ho
  go_wp2_with (go_at_call 14; refine HV.mono ?_; rintro e w3 ⟨rfl, hv3, hex3⟩)
  go_ret
  exact ⟨rfl, ⟨_, hv3⟩, (Ex.ofBelow hbe3 (Nat.le_refl _)).trans hex3⟩

theorem bared_any (hV : VAt w bv V) : BaredGoal bv K A B C S T w := by
  by_cases h : (u32F B = false) ∨ (A < 17) ∨ (64 < A) ∨ (A ≠ 17 ∧ A < 40)
  · exact bared_out bv V K A B C S T w hV h
  · have hu : u32F B = true := by
      cases e : u32F B
      · exact absurd (.inl e) h
      · rfl
    by_cases h17 : A = 17
    · subst h17; exact bared_tab bv V K B C S T w hV hu
    · exact bared_mem bv V K A B C S T w hV hu (by omega) (by omega)
end

end Go.Proofs.Qxb6500273a
