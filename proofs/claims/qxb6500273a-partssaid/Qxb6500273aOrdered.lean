/-
  WALKS: Ordered.
-/
import Derived.Test.Qxb6500273aOrdS10
import Derived.Test.Qxb6500273aOrdS9
import Derived.Test.Qxb6500273aOrdS8
import Derived.Test.Qxb6500273aOrdS7
import Derived.Test.Qxb6500273aOrdS6
import Derived.Test.Qxb6500273aOrdS5
import Derived.Test.Qxb6500273aOrdS4
import Derived.Test.Qxb6500273aOrdS3
import Derived.Test.Qxb6500273aOrdS2
import Derived.Test.Qxb6500273aOrdS1
import Derived.Test.Qxb6500273aOrdE
set_option linter.unusedVariables false
namespace Go.Proofs.Qxb6500273a
open Go.RowKit

set_option maxRecDepth 100000 in
theorem ord_chain (bv : Nat) (V : VS) (w : World) (P wb : Nat) (B : Int) (M : Md) (L : Lay) (W : World) (c : Code) (hc : OTail 5 c) (a : Act) (hf : OFr bv w.heap.size P (0, 0) (.pointer (some ⟨wb, 0, none⟩)) a)
    (HS : OrdS bv w P B M L W) (HX : XNone L M) (HWd : WideAt W wb) (hwb : P < wb) (hM : M = mod0 0 [⟨11, 0, 0⟩] []) (hV : VAt w bv V) : c.wp Try.prog (OPost bv w) a W := by
  obtain ⟨c6, h6⟩ : ∃ c, OTail 6 c := ⟨_, rfl⟩
  obtain ⟨c7, h7⟩ : ∃ c, OTail 7 c := ⟨_, rfl⟩
  obtain ⟨c8, h8⟩ : ∃ c, OTail 8 c := ⟨_, rfl⟩
  obtain ⟨c9, h9⟩ : ∃ c, OTail 9 c := ⟨_, rfl⟩
  obtain ⟨c10, h10⟩ : ∃ c, OTail 10 c := ⟨_, rfl⟩
  obtain ⟨c11, h11⟩ : ∃ c, OTail 11 c := ⟨_, rfl⟩
  obtain ⟨c12, h12⟩ : ∃ c, OTail 12 c := ⟨_, rfl⟩
  obtain ⟨c13, h13⟩ : ∃ c, OTail 13 c := ⟨_, rfl⟩
  obtain ⟨c14, h14⟩ : ∃ c, OTail 14 c := ⟨_, rfl⟩
  obtain ⟨c15, h15⟩ : ∃ c, OTail 15 c := ⟨_, rfl⟩
  refine otail10 bv w P wb B M L W (0, 0) c c6 _ hc h6 a hf HS HX HWd hwb ?_
  intro a1 L1 W1 f1 S1 X1 D1 hwb1
  refine otail9 bv w P wb B _ L1 W1 _ c6 c7 _ h6 h7 a1 f1 S1 X1 D1 hwb1 ?_
  intro a2 L2 W2 f2 S2 X2
  refine otail8 bv w P _ B _ L2 W2 _ c7 c8 _ h7 h8 a2 f2 S2 X2 ?_
  intro a3 L3 W3 f3 S3 X3
  refine otail7 bv w P _ B _ L3 W3 _ c8 c9 _ h8 h9 a3 f3 S3 X3 ?_
  intro a4 L4 W4 f4 S4 X4
  refine otail6 bv w P _ B _ L4 W4 _ c9 c10 _ h9 h10 a4 f4 S4 X4 ?_
  intro a5 L5 W5 f5 S5
  refine otail5 bv w P _ B _ L5 W5 _ c10 c11 _ h10 h11 a5 f5 S5 ?_
  intro a6 L6 W6 f6 S6
  refine otail4 bv w P _ B _ L6 W6 _ c11 c12 _ h11 h12 a6 f6 S6 ?_
  intro a7 L7 W7 f7 S7
  refine otail3 bv w P _ B _ L7 W7 _ c12 c13 _ h12 h13 a7 f7 S7 ?_
  intro a8 L8 W8 f8 S8
  refine otail2 bv w P _ B _ L8 W8 _ c13 c14 _ h13 h14 a8 f8 S8 ?_
  intro a9 L9 W9 f9 S9
  refine otail1 bv w P _ B _ L9 W9 _ c14 c15 _ h14 h15 a9 f9 S9 ?_
  intro a10 L10 W10 f10 S10
  exact otail0 bv V w P _ B _ L10 W10 _ c15 h15 a10 f10 S10 (ord_owes _ _ _ _ _ _ _ _ _ _ _ (ord_all M hM _ _ _ _ _ _ _ _ _ _) _ rfl) hV

set_option maxRecDepth 100000 in
set_option maxHeartbeats 2000000 in
theorem ordered_any (bv : Nat) (V : VS) (K A B C : Int) (S T : List UInt8) (w : World) (hV : VAt w bv V) :
    Calls Try.prog 21 #[.pointer (some ⟨bv, 0, none⟩), opV K A B C S T] w fun e w' => e = .returned (.bool true) ∧ Kept bv w w' := by
  unfold opV
  have hbv := hV.lt
  have HBA : BodyAt ((w.alloc (.cells #[.int .i64 K, .int .i64 A, .int .i64 B, .int .i64 C, .string ⟨S.toArray⟩, .string ⟨T.toArray⟩] 34)).alloc (.cells #[.int .u8 11, .int .u32 0, .int .u64 0] 42)) (w.heap.size + 1) [⟨11, 0, 0⟩] := by
    refine bodyAt_of fun j u hj => ?_
    have := World.cell?_alloc_new (w.alloc (.cells #[.int .i64 K, .int .i64 A, .int .i64 B, .int .i64 C, .string ⟨S.toArray⟩, .string ⟨T.toArray⟩] 34)) #[.int .u8 11, .int .u32 0, .int .u64 0] 42 j
    rw [World.size_alloc] at this
    rw [this]; simpa [insCells] using hj
  have HBR := bare_any bv (w.heap.size + 1) 1 [⟨11, 0, 0⟩] ((w.alloc (.cells #[.int .i64 K, .int .i64 A, .int .i64 B, .int .i64 C, .string ⟨S.toArray⟩, .string ⟨T.toArray⟩] 34)).alloc (.cells #[.int .u8 11, .int .u32 0, .int .u64 0] 42)) (by simp; omega) (by omega) (by simp) HBA
  have hb2 : Below w.heap.size w ((w.alloc (.cells #[.int .i64 K, .int .i64 A, .int .i64 B, .int .i64 C, .string ⟨S.toArray⟩, .string ⟨T.toArray⟩] 34)).alloc (.cells #[.int .u8 11, .int .u32 0, .int .u64 0] 42)) := ((Below.refl _ _).alloc (Nat.le_refl _) _).alloc (by simp) _
  have hx : ((w.alloc (.cells #[.int .i64 K, .int .i64 A, .int .i64 B, .int .i64 C, .string ⟨S.toArray⟩, .string ⟨T.toArray⟩] 34)).alloc (.cells #[.int .u8 11, .int .u32 0, .int .u64 0] 42)).cell? ⟨w.heap.size, 2, none⟩ = some (.int .i64 B) := by
    rw [oldc (by simp)]; exact World.cell?_alloc_new _ _ _ _
  have hz2 : ((w.alloc (.cells #[.int .i64 K, .int .i64 A, .int .i64 B, .int .i64 C, .string ⟨S.toArray⟩, .string ⟨T.toArray⟩] 34)).alloc (.cells #[.int .u8 11, .int .u32 0, .int .u64 0] 42)).heap.size = w.heap.size + 2 := by simp
  go_enter Try.func21, Try.ntmps21
  go_upto_region 4 with (go_at_call 38; refine HBR.mono ?_; rintro e w1 ⟨L0, rfl, hm0, hw0, hbe0, hbp, hxn⟩)
  have HS : OrdS bv w L0.p B (mod0 0 [⟨11, 0, 0⟩] []) L0 w1 := ⟨rfl, ⟨hm0, hw0⟩, hb2.trans (hbe0.mono (by omega)), (hbe0.cell (by simp only []; omega)).trans hx, by omega⟩
  have HX : XNone L0 (mod0 0 [⟨11, 0, 0⟩] []) := ⟨rfl, hxn⟩
  clear HBA HBR hb2 hx hm0 hw0 hbe0 hbp hxn hz2
  go_cut [6, 7, 8] from 9 (fun s6 s7 s8 wc => s6 = .int .i64 0 ∧ s7 = .int .i64 0 ∧ s8 = .pointer (some ⟨w1.heap.size, 0, none⟩) ∧ wc = w1.alloc (.cells #[.int .u8 66, .int .u32 0, .int .u64 0] 42))
  case first =>
    go_wp2_with fail
    go_meet
    exact ⟨rfl, rfl, rfl, rfl⟩
  case rest =>
    obtain ⟨rfl, rfl, rfl, rfl⟩ := hcut
    refine (by assumption : ∀ (a : Act) (w : World), Code.wp Try.prog _ _ a w → _) _ _ ?_
    exact ord_chain bv V w L0.p w1.heap.size B _ L0 _ _ rfl _ ⟨rfl, rfl, rfl, rfl, rfl, rfl, rfl, rfl⟩ (HS.alloc _) HX ⟨World.cell?_alloc_new _ _ _ _, World.cell?_alloc_new _ _ _ _, World.cell?_alloc_new _ _ _ _⟩ HS.ltp rfl hV

end Go.Proofs.Qxb6500273a
