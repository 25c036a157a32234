/-
  The script in memory, and its opening.
-/
import Derived.Test.Qxb6500273aBase
import Derived.ProofKit
import Derived.OpenShut
import Derived.ChangeOld
import Derived.Below
import Derived.Deep.Slices
namespace Go.Proofs.Qxb6500273a
open Go.ChangeShapes Go.WideShapes Go.ChangeAt Go.RowKit Go.Deep

/-- the script's i-th step lies there -/
structure OpAt (w : World) (sb so i : Nat) (K A B C : Int) (S T : List UInt8) : Prop where
  c0 : w.cell? ⟨sb, so + i * 6, none⟩ = some (.int .i64 K)
  c1 : w.cell? ⟨sb, so + i * 6 + 1, none⟩ = some (.int .i64 A)
  c2 : w.cell? ⟨sb, so + i * 6 + 2, none⟩ = some (.int .i64 B)
  c3 : w.cell? ⟨sb, so + i * 6 + 3, none⟩ = some (.int .i64 C)
  c4 : w.cell? ⟨sb, so + i * 6 + 4, none⟩ = some (.string ⟨S.toArray⟩)
  c5 : w.cell? ⟨sb, so + i * 6 + 5, none⟩ = some (.string ⟨T.toArray⟩)
  wk : (Lit.int .i64 K).wf = true
  wa : (Lit.int .i64 A).wf = true
  wb : (Lit.int .i64 B).wf = true
  wc : (Lit.int .i64 C).wf = true
  s : S.length ≤ maxLen
  t : T.length ≤ maxLen

theorem OpAt.b {w : World} {sb so i : Nat} {K A B C : Int} {S T : List UInt8} (h : OpAt w sb so i K A B C S T) : B ≤ 9223372036854775807 := by
  have := h.wb
  simp [Lit.wf] at this
  omega

/-- the script: empty, or a row of steps -/
def IsOps (w : World) (a : Option Addr) (len cap : Nat) : Prop :=
  len = 0 ∨ ∃ sb so, a = some ⟨sb, so, none⟩ ∧ len ≤ cap ∧ cap ≤ maxLen ∧ ∀ i, i < len → ∃ K A B C S T, OpAt w sb so i K A B C S T

theorem Try.cells34 : Try.prog.cellsOf 34 = 6 := by kernel_rfl
theorem Try.cells3' : Try.prog.cellsOf 3 = 1 := by kernel_rfl
theorem Try.cells9' : Try.prog.cellsOf 9 = 1 := by kernel_rfl

set_option maxRecDepth 100000 in
theorem open_ops {H : Type} {enc : TypeId × Value → H} {W : World} {spare : Nat → Bool} {held : Bool} {fuel : Nat} {a0 : Option Addr} {len cap : Nat} {x : DataW H × List MemPlace}
    (h : DataW.trod enc Try.prog W 0 spare held fuel 22 [.slice a0 len cap] = some x) : IsOps W a0 len cap := by
  rcases open_slice Try.underlying22 h with ⟨hc, _⟩ | ⟨a, len', cap', m, n, D, Pl, hc, _, hl, hm, hmm, _, hx⟩
  · simp at hc
    obtain ⟨rfl, rfl, rfl⟩ := hc
    exact .inl rfl
  · simp at hc
    obtain ⟨rfl, rfl, rfl⟩ := hc
    have hlm : len ≤ m := by rw [hmm]; split <;> omega
    by_cases h0 : len = 0
    · exact .inl h0
    · right
      obtain ⟨sb, so, spot⟩ := a
      have hspot : spot = none := by
        obtain ⟨cs', h1, _⟩ := hx 0 (by omega)
        rw [Try.cells34] at h1
        obtain ⟨_, hlen, hcell⟩ := World.cells?_some h1
        have e0 := hcell 0 (by omega)
        obtain ⟨v, hv⟩ : ∃ v, cs'[0]? = some v := ⟨cs'[0]'(by omega), by simp⟩
        rw [hv] at e0
        simpa [Addr.add] using World.cell?_spot e0
      subst hspot
      refine ⟨sb, so, rfl, hl, hm, fun i hi => ?_⟩
      obtain ⟨cs', h1, h2⟩ := hx i (by omega)
      rw [Try.cells34] at h1
      obtain ⟨_, hlen, hcell⟩ := World.cells?_some h1
      obtain ⟨xs, k, hk, hxy, _, hxl, hf⟩ := DataW.trod_struct Try.underlying34 h2
      match xs, hxl, cs', hlen with
      | [y0, y1, y2, y3, y4, y5], _, [v0, v1, v2, v3, v4, v5], _ =>
        have g0 := hf 0 _ rfl
        have g1 := hf 1 _ rfl
        have g2 := hf 2 _ rfl
        have g3 := hf 3 _ rfl
        have g4 := hf 4 _ rfl
        have g5 := hf 5 _ rfl
        simp [Try.cells3', Try.cells9'] at g0 g1 g2 g3 g4 g5
        have e0 := hcell 0 (by omega)
        have e1 := hcell 1 (by omega)
        have e2 := hcell 2 (by omega)
        have e3 := hcell 3 (by omega)
        have e4 := hcell 4 (by omega)
        have e5 := hcell 5 (by omega)
        rw [add_add] at e0 e1 e2 e3 e4 e5
        obtain ⟨K, p0, _, q0⟩ := DataW.trod_int Try.underlying3 g0
        obtain ⟨A, p1, _, q1⟩ := DataW.trod_int Try.underlying3 g1
        obtain ⟨B, p2, _, q2⟩ := DataW.trod_int Try.underlying3 g2
        obtain ⟨C, p3, _, q3⟩ := DataW.trod_int Try.underlying3 g3
        obtain ⟨S, p4, _, q4⟩ := DataW.trod_string Try.underlying9 g4
        obtain ⟨T, p5, _, q5⟩ := DataW.trod_string Try.underlying9 g5
        simp only [List.cons.injEq, and_true] at p0 p1 p2 p3 p4 p5
        subst p0 p1 p2 p3 p4 p5
        have ad : ∀ j, (⟨sb, so, none⟩ : Addr).add j = ⟨sb, so + j, none⟩ := fun j => by unfold Addr.add; split <;> simp_all
        simp only [ad] at e0 e1 e2 e3 e4 e5
        refine ⟨K, A, B, C, S.data.toList, T.data.toList, ⟨by simpa using e0, by simpa [Nat.add_assoc] using e1, by simpa [Nat.add_assoc] using e2, by simpa [Nat.add_assoc] using e3, by simpa [Nat.add_assoc] using e4, by simpa [Nat.add_assoc] using e5, q0, q1, q2, q3, by simpa using q4, by simpa using q5⟩⟩

end Go.Proofs.Qxb6500273a
