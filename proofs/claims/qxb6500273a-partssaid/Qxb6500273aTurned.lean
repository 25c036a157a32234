/-
  turned, whatever the step is.
-/
import Derived.Test.Qxb6500273aTurnedA
import Derived.Test.Qxb6500273aTurnedB
import Derived.Test.Qxb6500273aTurnedC
import Derived.Test.Qxb6500273aTurnedD
import Derived.Test.Qxb6500273aTurnedE
import Derived.Test.Qxb6500273aTurnedF
import Derived.Test.Qxb6500273aTurnedG
import Derived.Test.Qxb6500273aLaw2
namespace Go.Proofs.Qxb6500273a
open Go.RowKit

/-- the module as turned left it, and what is owed there -/
def TurnedM (bv : Nat) (L : Lay) (w w' : World) (e : Ending) : Prop :=
  ∃ (row want : Int) (M' : Md) (L' : Lay), e = .returned (.tuple #[.int .i64 row, .int .i64 want, .bool true]) ∧ L'.p = L.p ∧ ModAt w' bv L' M' ∧ ModW w' L' M' ∧ Below L.p w w' ∧ Owes M' row want

def TurnedSome (bv : Nat) (L : Lay) (K A B C : Int) (S T : List UInt8) (w : World) : Prop :=
  Calls Try.prog 39 #[.pointer (some ⟨L.p, 0, none⟩), .agg #[.int .i64 K, .int .i64 A, .int .i64 B, .int .i64 C, .string ⟨S.toArray⟩, .string ⟨T.toArray⟩]] w fun e w' => (NotRes e ∧ Below L.p w w') ∨ TurnedM bv L w w' e

theorem TurnedNot.some {bv : Nat} {L : Lay} {K A B C : Int} {S T : List UInt8} {w : World} (h : TurnedNot L K A B C S T w) : TurnedSome bv L K A B C S T w :=
  Calls.mono h fun _ _ h => .inl h
theorem TurnedTo.some {bv : Nat} {L : Lay} {K A B C : Int} {S T : List UInt8} {w : World} {row want : Int} {M' : Md} (h : TurnedTo bv L K A B C S T w row want M') (o : Owes M' row want) : TurnedSome bv L K A B C S T w :=
  Calls.mono h fun _ _ h => by
    obtain ⟨h1, ⟨L', h2, h3, h4⟩, h5⟩ := h
    exact .inr ⟨_, _, _, L', h1, h2, h3, h4, h5, o⟩

theorem turned_any (bv : Nat) (L : Lay) (K A B C : Int) (S T : List UInt8) (w : World) (hM : ModAt w bv L (mod0 0 (userF A) [])) (hW : ModW w L (mod0 0 (userF A) []))
    (hs : S.length ≤ maxLen) (ht : T.length ≤ maxLen) (hB : B ≤ 9223372036854775807) : TurnedSome bv L K A B C S T w := by
  by_cases a1 : A = 1
  · subst a1
    exact (turned_import bv L _ K B C S T w hM hW).some (owes_import _ 1 B (by omega) (by omega) rfl)
  by_cases a2 : A = 2
  · subst a2
    by_cases h : B < 0 ∨ 2 < B
    · exact (turned_func bv L _ K B C S T w hM hW h).some (owes_func _ 2 B h rfl)
    · exact (turned_func_not bv L _ K B C S T w hM hW (by omega) (by omega)).some
  by_cases a3 : A = 3
  · subst a3
    by_cases h : B < 0 ∨ C < -1
    · exact (turned_table_not bv L _ K B C S T w hM hW h).some
    · exact (turned_table bv L _ K B C S T w hM hW (by omega) (by omega)).some (owes_table _ B C (by omega) rfl)
  by_cases a4 : A = 4
  · subst a4
    by_cases h : B < 0 ∨ C < -1
    · exact (turned_memory_not bv L _ K B C S T w hM hW h).some
    · exact (turned_memory bv L _ K B C S T w hM hW (by omega) (by omega)).some (owes_memory _ B C (by omega) rfl)
  by_cases a5 : A = 5
  · subst a5
    by_cases h : B < 0 ∨ 3 < B ∨ C < 0 ∨ 3 < C
    · exact (turned_global_not bv L _ K B C S T w hM hW h).some
    · have h0 : 0 ≤ C := by omega
      have h3 : C ≤ 3 := by omega
      have hb : B = 0 ∨ B = 1 ∨ B = 2 ∨ B = 3 := by omega
      rcases hb with rfl | rfl | rfl | rfl
      · exact (turned_global0 bv L _ K C S T w hM hW h0 h3).some (owes_global _ 0 (by omega) C h0 h3 rfl)
      · exact (turned_global1 bv L _ K C S T w hM hW h0 h3).some (owes_global _ 1 (by omega) C h0 h3 rfl)
      · exact (turned_global2 bv L _ K C S T w hM hW h0 h3).some (owes_global _ 2 (by omega) C h0 h3 rfl)
      · exact (turned_global3 bv L _ K C S T w hM hW h0 h3).some (owes_global _ 3 (by omega) C h0 h3 rfl)
  by_cases a6 : A = 6
  · subst a6
    by_cases h : B < 0 ∨ 3 < B ∨ u32F C = false
    · exact (turned_export_not bv L _ K B C S T w hM hW h).some
    · have hu : u32F C = true := by
        cases e : u32F C
        · exact absurd (.inr (.inr e)) h
        · rfl
      have hb : B = 0 ∨ B = 1 ∨ B = 2 ∨ B = 3 := by omega
      by_cases hS : S = []
      · rcases hb with rfl | rfl | rfl | rfl
        · exact (turned_export0e bv L _ K C S T w hM hW hu hS).some (owes_export _ 0 (by omega) (by omega) C hu rfl)
        · exact (turned_export1e bv L _ K C S T w hM hW hu hS).some (owes_export _ 1 (by omega) (by omega) C hu rfl)
        · exact (turned_export2e bv L _ K C S T w hM hW hu hS).some (owes_export _ 2 (by omega) (by omega) C hu rfl)
        · exact (turned_export3e bv L _ K C S T w hM hW hu hS).some (owes_export _ 3 (by omega) (by omega) C hu rfl)
      · rcases hb with rfl | rfl | rfl | rfl
        · exact (turned_export0n bv L _ K C S T w hM hW hu hS).some (owes_export2 _ 0 (by omega) (by omega) C hu rfl)
        · exact (turned_export1n bv L _ K C S T w hM hW hu hS).some (owes_export2 _ 1 (by omega) (by omega) C hu rfl)
        · exact (turned_export2n bv L _ K C S T w hM hW hu hS).some (owes_export2 _ 2 (by omega) (by omega) C hu rfl)
        · exact (turned_export3n bv L _ K C S T w hM hW hu hS).some (owes_export2 _ 3 (by omega) (by omega) C hu rfl)
  by_cases a7 : A = 7
  · subst a7
    by_cases h : 8 < S.length ∨ 8 < T.length
    · exact (turned_twins_not bv L _ K B C S T w hM hW hs ht h).some
    · by_cases hST : S = T
      · exact (turned_twins_eq bv L _ K B C S T w hM hW (by omega) (by omega) hST).some (owes_twins _ S T 1 18 (.inl ⟨hST, rfl, rfl⟩) rfl)
      · exact (turned_twins_ne bv L _ K B C S T w hM hW (by omega) (by omega) hST).some (owes_twins _ S T 0 0 (.inr ⟨hST, rfl, rfl⟩) rfl)
  by_cases a8 : A = 8
  · subst a8
    by_cases h : B < 0
    · exact (turned_start_not bv L _ K B C S T w hM hW h).some
    by_cases h2 : 2 ≤ B
    · exact (turned_start_far bv L _ K B C S T w hM hW h2).some (owes_start _ B C 0 15 hB (.inl ⟨h2, rfl, rfl⟩) rfl)
    by_cases h1 : B = 1
    · exact (turned_start_own bv L _ K B C S T w hM hW h1).some (owes_start _ B C 0 0 hB (.inr (.inr (.inr ⟨h1, rfl, rfl⟩))) rfl)
    have h0 : B = 0 := by omega
    by_cases hC : C = 0
    · exact (turned_start_imp bv L _ K B C S T w hM hW h0 hC).some (owes_start _ B C 0 0 hB (.inr (.inr (.inl ⟨h0, hC, rfl, rfl⟩))) rfl)
    · exact (turned_start_no bv L _ K B C S T w hM hW h0 hC).some (owes_start _ B C 0 19 hB (.inr (.inl ⟨h0, hC, rfl, rfl⟩)) rfl)
  by_cases a9 : A = 9
  · subst a9
    cases hu : u32F B
    · exact (turned_elem_notu9 bv L _ K B C S T w hM hW hu).some
    by_cases h : C < 0 ∨ 3 < C
    · exact (turned_elem_not9 bv L _ K B C S T w hM hW h).some
    have h0 : 0 ≤ C := by omega
    have h3 : C ≤ 3 := by omega
    by_cases hC : C = 0
    · by_cases hb : 2 ≤ B
      · exact (turned_elem_far bv L _ K B C S T w hM hW hu h0 h3 hC hb).some (owes_elem _ 9 B C 0 15 (by omega) (by omega) h0 h3 hu (.inr (.inl ⟨hC, hb, rfl, rfl⟩)) rfl)
      · exact (turned_elem_ok bv L _ K B C S T w hM hW hu h0 h3 hC (by omega)).some (owes_elem _ 9 B C 0 0 (by omega) (by omega) h0 h3 hu (.inr (.inr ⟨hC, by omega, rfl, rfl⟩)) rfl)
    · exact (turned_elem_ty bv L _ K B C S T w hM hW hu h0 h3 hC).some (owes_elem _ 9 B C 0 27 (by omega) (by omega) h0 h3 hu (.inl ⟨hC, rfl, rfl⟩) rfl)
  by_cases a10 : A = 10
  · subst a10
    by_cases h : C < 0 ∨ 3 < C
    · exact (turned_data_not bv L _ K B C S T w hM hW h).some
    have h0 : 0 ≤ C := by omega
    have h3 : C ≤ 3 := by omega
    by_cases hC : C = 0
    · exact (turned_data_ok bv L _ K B C S T w hM hW h0 h3 hC).some (owes_data _ 10 C 0 0 (by omega) (by omega) h0 h3 (.inr ⟨hC, rfl, rfl⟩) rfl)
    · exact (turned_data_ty bv L _ K B C S T w hM hW h0 h3 hC).some (owes_data _ 10 C 0 27 (by omega) (by omega) h0 h3 (.inl ⟨hC, rfl, rfl⟩) rfl)
  by_cases a11 : A = 11
  · subst a11
    cases hu : u32F B
    · exact (turned_elem_notu11 bv L _ K B C S T w hM hW hu).some
    by_cases h : C < 0 ∨ 3 < C
    · exact (turned_elem_not11 bv L _ K B C S T w hM hW h).some
    have h0 : 0 ≤ C := by omega
    have h3 : C ≤ 3 := by omega
    exact (turned_elem_off bv L _ K B C S T w hM hW hu h0 h3).some (owes_elemOff _ 11 B C h0 h3 hu rfl)
  by_cases a12 : A = 12
  · subst a12
    by_cases h : C < 0 ∨ 3 < C
    · exact (turned_data_offn bv L _ K B C S T w hM hW h).some
    have h0 : 0 ≤ C := by omega
    have h3 : C ≤ 3 := by omega
    exact (turned_data_off bv L _ K B C S T w hM hW h0 h3).some (owes_dataOff _ 12 C h0 h3 rfl)
  exact (turned_other bv L _ K A B C S T w hM hW a1 a2 a3 a4 a5 a6 a7 a8 a9 a10 a11 a12).some

end Go.Proofs.Qxb6500273a
