/-
  The module's exports laid anew, where their own row may have been written.
-/
import Derived.Test.Qxb6500273aTurn
import Derived.Test.Qxb6500273aTurned0
namespace Go.Proofs.Qxb6500273a
open Go.RowKit

theorem ModAt.reExps {w w2 : World} {bv : Nat} {L : Lay} {M : Md} (h : ModAt w bv L M) (hw : ModW w L M) (es : List Expo) (g c : Nat) (xr : Option Nat)
    (hk : ∀ b o v, some b ≠ xr → (b ≠ L.p ∨ o ≠ 8) → w.cell? ⟨b, o, none⟩ = some v → w2.cell? ⟨b, o, none⟩ = some v)
    (hf : ∀ b o, some b ≠ xr → b < w.heap.size → w.frozen? ⟨b, o, none⟩ = false → w2.frozen? ⟨b, o, none⟩ = false)
    (hs : w.heap.size ≤ w2.heap.size)
    (hx : ∀ b, some b = xr → L.gb < b ∧ (M.elems ≠ [] → L.eb ≠ b) ∧ (∀ i, i < M.elems.length → ∀ j, j < (M.elems.getD i elm0).fns.length → L.ef i ≠ b) ∧ (M.datas ≠ [] → L.db ≠ b))
    (m8 : w2.cell? ⟨L.p, 8, none⟩ = some (.slice (some ⟨g, 0, none⟩) es.length c)) (hg : L.gb < g)
    (c0 : ∀ i, i < es.length → w2.cell? ⟨g, i * 3, none⟩ = some (.string ⟨(es.getD i exp0).name.toArray⟩)) (c1 : ∀ i, i < es.length → w2.cell? ⟨g, i * 3 + 1, none⟩ = some (.int .u8 (es.getD i exp0).kind)) (c2 : ∀ i, i < es.length → w2.cell? ⟨g, i * 3 + 2, none⟩ = some (.int .u32 (es.getD i exp0).idx)) :
    ModAt w2 bv { L with xa := some ⟨g, 0, none⟩, xc := c, xb := g } { M with exps := es } ∧ ModW w2 { L with xa := some ⟨g, 0, none⟩, xc := c, xb := g } { M with exps := es } := by
  have nz : ∀ {A : Type} {l : List A} {i : Nat}, i < l.length → l ≠ [] := fun {A l i} hi e => by rw [e] at hi; simp at hi
  have o1 := hw.o1
  have o2 := hw.o2
  have o3 := hw.o3
  have o4 := hw.o4
  have o5 := hw.o5
  have o7 := hw.o7
  obtain ⟨n1, n2, n3, n4, n5, n6, n7, n8, n9, n10, n11⟩ := h.ne
  have nx : ∀ b, b ≤ L.gb → some b ≠ xr := fun b hb e => by have := (hx b e).1; omega
  have k : ∀ b o v, b ≤ L.gb → (b ≠ L.p ∨ o ≠ 8) → w.cell? ⟨b, o, none⟩ = some v → w2.cell? ⟨b, o, none⟩ = some v := fun b o v hb ho hv => hk b o v (nx b hb) ho hv
  have z : ∀ b o, b ≤ L.gb → w.frozen? ⟨b, o, none⟩ = false → w2.frozen? ⟨b, o, none⟩ = false := fun b o hb hv => hf b o (nx b hb) (by omega) hv
  refine ⟨⟨k _ _ _ (by (try dsimp only); omega) (by (try dsimp only); omega) h.m0, k _ _ _ (by (try dsimp only); omega) (by (try dsimp only); omega) h.m1, k _ _ _ (by (try dsimp only); omega) (by (try dsimp only); omega) h.m2, k _ _ _ (by (try dsimp only); omega) (by (try dsimp only); omega) h.m3, k _ _ _ (by (try dsimp only); omega) (by (try dsimp only); omega) h.m4, k _ _ _ (by (try dsimp only); omega) (by (try dsimp only); omega) h.m5, k _ _ _ (by (try dsimp only); omega) (by (try dsimp only); omega) h.m6, k _ _ _ (by (try dsimp only); omega) (by (try dsimp only); omega) h.m7, m8, k _ _ _ (by (try dsimp only); omega) (by (try dsimp only); omega) h.m9, k _ _ _ (by (try dsimp only); omega) (by (try dsimp only); omega) h.m10, k _ _ _ (by (try dsimp only); omega) (by (try dsimp only); omega) h.m11,
    k _ _ _ (by (try dsimp only); omega) (by (try dsimp only); omega) h.ty0, k _ _ _ (by (try dsimp only); omega) (by (try dsimp only); omega) h.ty1, k _ _ _ (by (try dsimp only); omega) (by (try dsimp only); omega) h.ty2, k _ _ _ (by (try dsimp only); omega) (by (try dsimp only); omega) h.im, k _ _ _ (by (try dsimp only); omega) (by (try dsimp only); omega) h.f0, k _ _ _ (by (try dsimp only); omega) (by (try dsimp only); omega) h.f1, k _ _ _ (by (try dsimp only); omega) (by (try dsimp only); omega) h.f2, k _ _ _ (by (try dsimp only); omega) (by (try dsimp only); omega) h.f3,
    fun i hi => k _ _ _ (by (try dsimp only); omega) (by (try dsimp only); omega) (h.g0 i hi), fun i hi => k _ _ _ (by (try dsimp only); omega) (by (try dsimp only); omega) (h.g1 i hi), fun i hi => k _ _ _ (by (try dsimp only); omega) (by (try dsimp only); omega) (h.g2 i hi),
    fun i hi => k _ _ _ (by (try dsimp only); omega) (by (try dsimp only); omega) (h.b0 i hi), fun i hi => k _ _ _ (by (try dsimp only); omega) (by (try dsimp only); omega) (h.b1 i hi), fun i hi => k _ _ _ (by (try dsimp only); omega) (by (try dsimp only); omega) (h.b2 i hi),
    fun i hi => ⟨(h.t0 i hi).1, k _ _ _ (by have := hw.o6 (nz hi); (try dsimp only); omega) (by have := hw.o6 (nz hi); (try dsimp only); omega) (h.t0 i hi).2⟩,
    fun i hi => ⟨rfl, c0 i hi⟩, fun i hi => c1 i hi, fun i hi => c2 i hi,
    fun i hi => ⟨(h.e0 i hi).1, hk _ _ _ (fun e => (hx _ e).2.1 (nz hi) rfl) (by have := hw.o9 (nz hi); (try dsimp only); omega) (h.e0 i hi).2⟩,
    fun i hi => hk _ _ _ (fun e => (hx _ e).2.1 (nz hi) rfl) (by have := hw.o9 (nz hi); (try dsimp only); omega) (h.e3 i hi),
    fun i hi j hj => hk _ _ _ (fun e => (hx _ e).2.2.1 i hi j hj rfl) (by have := hw.o10 i hi; (try dsimp only); omega) (h.ef i hi j hj),
    fun i hi => ⟨(h.d0 i hi).1, hk _ _ _ (fun e => (hx _ e).2.2.2 (nz hi) rfl) (by have := hw.o11 (nz hi); (try dsimp only); omega) (h.d0 i hi).2⟩,
    ⟨n1, n2, n3, n4, n5, n6, n7, fun _ => by simp only []; omega, n9, n10, n11⟩⟩, ?_⟩
  refine ⟨o1, o2, o3, o4, o5, hw.o6, Nat.lt_of_lt_of_le o7 hs, fun o => z _ _ (by (try dsimp only); omega) (hw.fp o), fun o => z _ _ (by (try dsimp only); omega) (hw.ft o), fun o => z _ _ (by (try dsimp only); omega) (hw.fi o), fun o => z _ _ (by (try dsimp only); omega) (hw.ff o), fun o => z _ _ (by (try dsimp only); omega) (hw.fg o), fun _ => hg, hw.o9, hw.o10, hw.o11, fun i hi => ?_, fun i hi => ?_⟩
  · obtain ⟨v, hv⟩ := hw.gx i hi
    exact ⟨v, k _ _ _ (by (try dsimp only); omega) (by (try dsimp only); omega) hv⟩
  · obtain ⟨v, hv⟩ := hw.gy i hi
    exact ⟨v, k _ _ _ (by (try dsimp only); omega) (by (try dsimp only); omega) hv⟩

end Go.Proofs.Qxb6500273a
